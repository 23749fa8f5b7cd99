/- Printed by a program of ours: the plain laws of the sizes, copies, comparisons and marks. -/
import Derived.Test.YtpajhchhkfnieaaPLib
import Derived.Test.YtpajhchhkfnieaaQBMod
namespace Go.Proofs.Ytpajhchhkfnieaa
open Eng
set_option linter.unusedVariables false
set_option linter.unusedSimpArgs false
set_option maxRecDepth 10000
def WfTVal (x : TVal) : Prop := (WfI .i64) x.K ∧ (WfI .i64) x.N ∧ WfS x.S
def totTVal (x : TVal) : Int := ((x.S.size : Int))
theorem totTVal_nn (x : TVal) : 0 ≤ totTVal x := by
  unfold totTVal
  omega
def WfTAlpha (x : TAlpha) : Prop := WfS x.Kind ∧ (WfI .i64) x.N ∧ (WfL WfTVal) x.Consts ∧ (WfL (WfI .i64)) x.At
def totTAlpha (x : TAlpha) : Int := ((x.Kind.size : Int)) + ((x.Consts.length : Int) + (x.Consts.map totTVal).sum) + ((x.At.length : Int))
theorem totTAlpha_nn (x : TAlpha) : 0 ≤ totTAlpha x := by
  unfold totTAlpha
  have := sum_nonneg totTVal x.Consts (fun y _ => totTVal_nn y)
  omega
def WfTArg (x : TArg) : Prop := (WfI .i64) x.K ∧ WfS x.S ∧ WfTVal x.V
def totTArg (x : TArg) : Int := ((x.S.size : Int)) + (totTVal x.V)
theorem totTArg_nn (x : TArg) : 0 ≤ totTArg x := by
  unfold totTArg
  have := totTVal_nn x.V
  omega
def WfTPat (x : TPat) : Prop := WfS x.Kind ∧ (WfL WfTArg) x.Args ∧ WfB x.Not
def totTPat (x : TPat) : Int := ((x.Kind.size : Int)) + ((x.Args.length : Int) + (x.Args.map totTArg).sum)
theorem totTPat_nn (x : TPat) : 0 ≤ totTPat x := by
  unfold totTPat
  have := sum_nonneg totTArg x.Args (fun y _ => totTArg_nn y)
  omega
def LimTAlpha (x : TAlpha) : Prop := (x.Consts.length ≤ 4294967296) ∧ (x.At.length ≤ 4294967296)
theorem LimTAlpha_of (x : TAlpha) (h : totTAlpha x ≤ 1048576) : LimTAlpha x := by
  unfold totTAlpha at h
  have nn_Consts : ∀ y ∈ x.Consts, 0 ≤ totTVal y := fun y _ => totTVal_nn y
  have := sum_nonneg _ _ nn_Consts
  exact ⟨by omega, by omega⟩
theorem eq_m_l_eqVal {N : Nat} (hN : 1099511627776 ≤ N) (x y : TVal) : m_l_eqVal N x y = some (decide (x = y)) := by
  unfold m_l_eqVal
  simp only [seq_eq, Option.bind_some]
  obtain ⟨a0, a1, a2⟩ := x; obtain ⟨b0, b1, b2⟩ := y
  simp only [TVal.mk.injEq]
  by_cases c0 : a0 = b0
  · subst c0
    by_cases c1 : a1 = b1
    · subst c1
      by_cases c2 : a2 = b2
      · subst c2
        simp
      · simp [c2]
    · simp [c1]
  · simp [c0]
theorem eq_m_l_eqValS {N : Nat} (hN : 1099511627776 ≤ N) (x y : (List TVal)) (h : (x.length ≤ 4294967296)) : m_l_eqValS N x y = some (decide (x = y)) := by
  have hl : x.length ≤ 4294967296 := h
  unfold m_l_eqValS
  by_cases c : x.length = y.length
  · rw [if_neg (by simp; omega)]
    refine (eqloop (m_l_eqValS_l1 N x y) x y c (by omega) (fun a b => m_l_eqVal N a b) (fun a ha b hb => eq_m_l_eqVal hN a b) (fun k i => rfl) N 0 (by omega) (by omega)).trans ?_
    simp
  · rw [if_pos (by simp; omega)]
    have : ¬ x = y := fun e => c (by rw [e])
    simp [this]
theorem eq_m_l_eqIntS {N : Nat} (hN : 1099511627776 ≤ N) (x y : (List Int)) (h : (x.length ≤ 4294967296)) : m_l_eqIntS N x y = some (decide (x = y)) := by
  have hl : x.length ≤ 4294967296 := h
  unfold m_l_eqIntS
  by_cases c : x.length = y.length
  · rw [if_neg (by simp; omega)]
    refine (eqloop (m_l_eqIntS_l1 N x y) x y c (by omega) (fun a b => some (decide (a = b))) (fun a _ b _ => rfl) (fun k i => rfl) N 0 (by omega) (by omega)).trans ?_
    simp
  · rw [if_pos (by simp; omega)]
    have : ¬ x = y := fun e => c (by rw [e])
    simp [this]
theorem eq_m_l_eqAlpha {N : Nat} (hN : 1099511627776 ≤ N) (x y : TAlpha) (h : LimTAlpha x) : m_l_eqAlpha N x y = some (decide (x = y)) := by
  unfold m_l_eqAlpha
  rw [eq_m_l_eqValS hN _ _ (h.1), eq_m_l_eqIntS hN _ _ (h.2)]
  simp only [seq_eq, Option.bind_some]
  obtain ⟨a0, a1, a2, a3⟩ := x; obtain ⟨b0, b1, b2, b3⟩ := y
  simp only [TAlpha.mk.injEq]
  by_cases c0 : a0 = b0
  · subst c0
    by_cases c1 : a1 = b1
    · subst c1
      by_cases c2 : a2 = b2
      · subst c2
        by_cases c3 : a3 = b3
        · subst c3
          simp
        · simp [c3]
      · simp [c2]
    · simp [c1]
  · simp [c0]
theorem sz_m_l_szVal {N : Nat} (hN : 1099511627776 ≤ N) (x : TVal) (w : WfTVal x) (left : Int) (h0 : 0 ≤ left) (h1 : left ≤ 1048576) : ∃ v, m_l_szVal N x left = some v ∧ Szd v left (totTVal x) := by
  obtain ⟨w0, w1, w2⟩ := w
  unfold m_l_szVal
  unfold totTVal
  have hl2 := w2; unfold WfS maxLen at hl2
  have e2 : IntKind.i64.wrap (left - (x.S.size : Int)) = left - (x.S.size : Int) := wr (by omega) (by omega)
  simp only [e2]
  by_cases c2 : (left - (x.S.size : Int)) < 0
  · rw [if_pos (by simpa using c2)]; exact ⟨-1, rfl, .inl (by omega)⟩
  rw [if_neg (by simpa using c2)]
  exact ⟨_, rfl, .inr ⟨by omega, by omega⟩⟩
theorem sz_m_l_szArg {N : Nat} (hN : 1099511627776 ≤ N) (x : TArg) (w : WfTArg x) (left : Int) (h0 : 0 ≤ left) (h1 : left ≤ 1048576) : ∃ v, m_l_szArg N x left = some v ∧ Szd v left (totTArg x) := by
  obtain ⟨w0, w1, w2⟩ := w
  unfold m_l_szArg
  unfold totTArg
  have := totTVal_nn x.V
  have hl1 := w1; unfold WfS maxLen at hl1
  have e1 : IntKind.i64.wrap (left - (x.S.size : Int)) = left - (x.S.size : Int) := wr (by omega) (by omega)
  simp only [e1]
  by_cases c1 : (left - (x.S.size : Int)) < 0
  · rw [if_pos (by simpa using c1)]; exact ⟨-1, rfl, .inl (by omega)⟩
  rw [if_neg (by simpa using c1)]
  obtain ⟨v2, hv2, hs2⟩ := sz_m_l_szVal hN x.V w2 (left - (x.S.size : Int)) (by omega) (by omega)
  rw [hv2]; simp only [Option.bind_some]
  by_cases c2 : v2 < 0
  · rw [if_pos (by simpa using c2)]; exact ⟨-1, rfl, .inl (by omega)⟩
  rw [if_neg (by simpa using c2)]
  replace hs2 := hs2.resolve_left c2
  exact ⟨_, rfl, .inr ⟨by omega, by omega⟩⟩
theorem sz_m_l_szArgS {N : Nat} (hN : 1099511627776 ≤ N) (x : (List TArg)) (w : (WfL WfTArg) x) (left : Int) (h0 : 0 ≤ left) (h1 : left ≤ 1048576) : ∃ v, m_l_szArgS N x left = some v ∧ Szd v left ((x.length : Int) + (x.map totTArg).sum) := by
  have hl := w.1; unfold maxLen at hl
  have e1 : IntKind.i64.wrap (left - (x.length : Int)) = left - (x.length : Int) := wr (by omega) (by omega)
  unfold m_l_szArgS
  simp only [e1]
  by_cases c : left - (x.length : Int) < 0
  · rw [if_pos (by simpa using c)]; exact ⟨-1, rfl, .inl (by omega)⟩
  · rw [if_neg (by simpa using c)]
    obtain ⟨v, hv, hs⟩ := szloop (m_l_szArgS_l1 N x) x (by omega) totTArg (fun y _ => totTArg_nn y) (fun y l => m_l_szArg N y l) (fun y hy l g0 g1 => sz_m_l_szArg hN y (w.2 y hy) l g0 g1) (fun k l i => rfl) N 0 (left - (x.length : Int)) (by omega) (by omega) (by omega) (by omega)
    refine ⟨v, hv, ?_⟩
    rw [List.drop_zero] at hs
    rcases hs with hs | ⟨hs0, hs⟩
    · exact .inl hs
    · exact .inr ⟨hs0, by omega⟩
theorem sz_m_l_szPat {N : Nat} (hN : 1099511627776 ≤ N) (x : TPat) (w : WfTPat x) (left : Int) (h0 : 0 ≤ left) (h1 : left ≤ 1048576) : ∃ v, m_l_szPat N x left = some v ∧ Szd v left (totTPat x) := by
  obtain ⟨w0, w1, w2⟩ := w
  unfold m_l_szPat
  unfold totTPat
  have := sum_nonneg totTArg x.Args (fun y _ => totTArg_nn y)
  have hl0 := w0; unfold WfS maxLen at hl0
  have e0 : IntKind.i64.wrap (left - (x.Kind.size : Int)) = left - (x.Kind.size : Int) := wr (by omega) (by omega)
  simp only [e0]
  by_cases c0 : (left - (x.Kind.size : Int)) < 0
  · rw [if_pos (by simpa using c0)]; exact ⟨-1, rfl, .inl (by omega)⟩
  rw [if_neg (by simpa using c0)]
  obtain ⟨v1, hv1, hs1⟩ := sz_m_l_szArgS hN x.Args w1 (left - (x.Kind.size : Int)) (by omega) (by omega)
  rw [hv1]; simp only [Option.bind_some]
  by_cases c1 : v1 < 0
  · rw [if_pos (by simpa using c1)]; exact ⟨-1, rfl, .inl (by omega)⟩
  rw [if_neg (by simpa using c1)]
  replace hs1 := hs1.resolve_left c1
  exact ⟨_, rfl, .inr ⟨by omega, by omega⟩⟩
def LimTPat (x : TPat) : Prop := (x.Args.length ≤ 4294967296)
theorem LimTPat_of (x : TPat) (h : totTPat x ≤ 1048576) : LimTPat x := by
  unfold totTPat at h
  have nn_Args : ∀ y ∈ x.Args, 0 ≤ totTArg y := fun y _ => totTArg_nn y
  have := sum_nonneg _ _ nn_Args
  unfold LimTPat; omega
theorem to_m_l_toVal {N : Nat} (hN : 1099511627776 ≤ N) (x : TVal) : m_l_toVal N x = some x := by
  unfold m_l_toVal
  rfl
theorem to_m_l_toArg {N : Nat} (hN : 1099511627776 ≤ N) (x : TArg) : m_l_toArg N x = some x := by
  unfold m_l_toArg
  rw [to_m_l_toVal hN _, Option.bind_some]
theorem to_m_l_toArgS {N : Nat} (hN : 1099511627776 ≤ N) (x : (List TArg)) (h : (x.length ≤ 4294967296)) : m_l_toArgS N x = some x := by
  have hl : x.length ≤ 4294967296 := h
  unfold m_l_toArgS
  rw [mk_nat _ (by omega), Option.bind_some]
  refine (toloop (m_l_toArgS_l1 N x) x (by omega) (fun y => m_l_toArg N y) (fun y hy => to_m_l_toArg hN y) (fun k s i => rfl) N 0 _ (by simp) (by omega) (by omega)).trans ?_
  simp
theorem to_m_l_toPat {N : Nat} (hN : 1099511627776 ≤ N) (x : TPat) (h : LimTPat x) : m_l_toPat N x = some x := by
  unfold m_l_toPat
  rw [to_m_l_toArgS hN _ (h), Option.bind_some]
theorem eq_m_l_eqArg {N : Nat} (hN : 1099511627776 ≤ N) (x y : TArg) : m_l_eqArg N x y = some (decide (x = y)) := by
  unfold m_l_eqArg
  rw [eq_m_l_eqVal hN _ _]
  simp only [seq_eq, Option.bind_some]
  obtain ⟨a0, a1, a2⟩ := x; obtain ⟨b0, b1, b2⟩ := y
  simp only [TArg.mk.injEq]
  by_cases c0 : a0 = b0
  · subst c0
    by_cases c1 : a1 = b1
    · subst c1
      by_cases c2 : a2 = b2
      · subst c2
        simp
      · simp [c2]
    · simp [c1]
  · simp [c0]
theorem eq_m_l_eqArgS {N : Nat} (hN : 1099511627776 ≤ N) (x y : (List TArg)) (h : (x.length ≤ 4294967296)) : m_l_eqArgS N x y = some (decide (x = y)) := by
  have hl : x.length ≤ 4294967296 := h
  unfold m_l_eqArgS
  by_cases c : x.length = y.length
  · rw [if_neg (by simp; omega)]
    refine (eqloop (m_l_eqArgS_l1 N x y) x y c (by omega) (fun a b => m_l_eqArg N a b) (fun a ha b hb => eq_m_l_eqArg hN a b) (fun k i => rfl) N 0 (by omega) (by omega)).trans ?_
    simp
  · rw [if_pos (by simp; omega)]
    have : ¬ x = y := fun e => c (by rw [e])
    simp [this]
theorem eq_m_l_eqPat {N : Nat} (hN : 1099511627776 ≤ N) (x y : TPat) (h : LimTPat x) : m_l_eqPat N x y = some (decide (x = y)) := by
  unfold m_l_eqPat
  rw [eq_m_l_eqArgS hN _ _ (h)]
  simp only [seq_eq, Option.bind_some]
  obtain ⟨a0, a1, a2⟩ := x; obtain ⟨b0, b1, b2⟩ := y
  simp only [TPat.mk.injEq]
  by_cases c0 : a0 = b0
  · subst c0
    by_cases c1 : a1 = b1
    · subst c1
      by_cases c2 : a2 = b2
      · subst c2
        simp
      · simp [c2]
    · simp [c1]
  · simp [c0]
theorem mtx {N : Nat} (hN : 1099511627776 ≤ N) (k : Int) (h0 : 0 ≤ k) (h1 : k ≤ big62) : ∃ t, m_l_markText N k = some t := by
  unfold m_l_markText
  by_cases c : k ≤ 0
  · rw [if_pos (by simpa using c)]; exact ⟨_, rfl⟩
  · rw [if_neg (by simpa using c)]
    obtain ⟨m, hm⟩ : ∃ m, N = 20 + 1 + m := ⟨N - 21, by omega⟩
    have := mtxloop (m_l_markText_l1 N) (fun n s t => by simp only [m_l_markText_l1]) 20 m k (⟨#[]⟩ : ByteArray) h0 h1 (by unfold big62 at h1; omega) (by decide)
    rw [← hm] at this; exact this
def cntTArg (x : TArg) : Int := 1 + 1 + 1 + 1 + 1
theorem cntTArg_nn (x : TArg) : 0 ≤ cntTArg x := by
  unfold cntTArg
  omega
theorem cntTArg_le (x : TArg) : cntTArg x ≤ 32 + 32 * (totTArg x) := by
  unfold cntTArg totTArg totTVal
  omega
def HdTArg (N : Nat) (x : TArg) (k : Int) : Prop := x.K = k ∧ m_l_markText N (k + 1) = some x.S ∧ x.V.K = ((k + 1) + 1) ∧ x.V.N = (((k + 1) + 1) + 1) ∧ m_l_markText N ((((k + 1) + 1) + 1) + 1) = some x.V.S
def cntTPat (x : TPat) : Int := 1 + cntL cntTArg x.Args + 1
theorem cntTPat_nn (x : TPat) : 0 ≤ cntTPat x := by
  unfold cntTPat
  have := cntL_nn cntTArg_nn x.Args
  omega
theorem cntTPat_le (x : TPat) : cntTPat x ≤ 32 + 32 * (totTPat x) := by
  have := cntL_le (p := x.Args) (tot := totTArg) (fun y _ => cntTArg_le y)
  have := sum_nonneg totTArg x.Args (fun y _ => totTArg_nn y)
  unfold cntTPat totTPat
  omega
def HdTPat (N : Nat) (x : TPat) (k : Int) : Prop := m_l_markText N k = some x.Kind ∧ HdL (HdTArg N) cntTArg x.Args (k + 1) ∧ x.Not = decide (((k + 1) + cntL cntTArg x.Args).tmod 3 = 0)
theorem mk_m_l_markArgS {N : Nat} (hN : 1099511627776 ≤ N) (x : (List TArg)) (h : (x.length ≤ 4294967296)) (k : Int) (h0 : 0 ≤ k) (h1 : k + cntL cntTArg x ≤ big62) : ∃ y, m_l_markArgS N x k = some (k + cntL cntTArg x, y) ∧ cntL cntTArg y = cntL cntTArg x ∧ HdL (HdTArg N) cntTArg y k ∧ (y.length ≤ 4294967296) := by
  have hl : x.length ≤ 4294967296 := h
  obtain ⟨ys, a1, a2, a3, a4, a5⟩ := mkloop (m_l_markArgS_l1 N) (HdTArg N) cntTArg (fun _ => True) cntTArg_nn (fun n s k i x hx hi hlt h0 h1 h => by
    unfold big62 at h1
    have hcnt : cntTArg x = 1 + 1 + 1 + 1 + 1 := rfl
    rw [hcnt] at h1
    have e0 : IntKind.i64.wrap (k + 1) = k + 1 := wr (by omega) (by omega)
    obtain ⟨t1, m1⟩ := mtx hN (k + 1) (by omega) (by unfold big62; omega)
    have e1 : IntKind.i64.wrap ((k + 1) + 1) = (k + 1) + 1 := wr (by omega) (by omega)
    have e2 : IntKind.i64.wrap (((k + 1) + 1) + 1) = ((k + 1) + 1) + 1 := wr (by omega) (by omega)
    have e3 : IntKind.i64.wrap ((((k + 1) + 1) + 1) + 1) = (((k + 1) + 1) + 1) + 1 := wr (by omega) (by omega)
    obtain ⟨t4, m4⟩ := mtx hN ((((k + 1) + 1) + 1) + 1) (by omega) (by unfold big62; omega)
    have e4 : IntKind.i64.wrap (((((k + 1) + 1) + 1) + 1) + 1) = ((((k + 1) + 1) + 1) + 1) + 1 := wr (by omega) (by omega)
    have c1 : decide ((i : Int) < (s.length : Int)) = true := decide_eq_true hlt
    refine ⟨(⟨k, t1, (⟨((k + 1) + 1), (((k + 1) + 1) + 1), t4⟩ : TVal)⟩ : TArg), ?_, ?_, ?_, ?_⟩
    · exact ⟨rfl, m1, rfl, rfl, m4⟩
    · simp only [cntTArg]
    · exact trivial
    · have hp : (((((k + 1) + 1) + 1) + 1) + 1) = k + cntTArg x := by rw [hcnt]; omega
      rw [← hp, ← wr1 i (by omega)]
      simp only [m_l_markArgS_l1, c1, if_true, show idx s (i : Int) = some x from by rw [idx_nat, hx], Option.bind_some, Int.toNat_natCast, e0, m1, e1, e2, e3, m4, e4])
    (fun n s k i hi => by simp only [m_l_markArgS_l1]; rw [if_neg (by simpa using hi)]) N 0 x k hl (by omega) (by omega) h0 (by simpa using h1) (fun _ _ => trivial)
  simp only [List.drop_zero, List.take_zero, List.nil_append] at a1 a3
  exact ⟨ys, a1, a3, a4, by omega⟩
def mcnTPat (x : TPat) : Int := cntL cntTArg x.Args
theorem mcnTPat_nn (x : TPat) : 0 ≤ mcnTPat x := by
  unfold mcnTPat
  have := cntL_nn cntTArg_nn x.Args
  omega
theorem mcnTPat_le (x : TPat) : mcnTPat x ≤ 32 + 32 * totTPat x := by
  have := cntTPat_le x; unfold cntTPat at this; unfold mcnTPat; omega
theorem mk_m_l_markPat {N : Nat} (hN : 1099511627776 ≤ N) (x : TPat) (h : LimTPat x) (k : Int) (h0 : 0 ≤ k) (h1 : k + mcnTPat x ≤ big62) : ∃ y0, m_l_markPat N x k = some (k + mcnTPat x, y0) := by
  unfold mcnTPat big62 at *
  have n0 := cntL_nn cntTArg_nn x.Args
  obtain ⟨y0, m0, c0, d0, l0⟩ := mk_m_l_markArgS hN x.Args (h) k (by omega) (by unfold big62; omega)
  have hp : k + (cntL cntTArg x.Args) = (k + cntL cntTArg x.Args) := by omega
  refine ⟨y0, ?_⟩
  · rw [hp]; simp only [m_l_markPat, Option.bind_some, m0]
def cntTVal (x : TVal) : Int := 1 + 1 + 1
theorem cntTVal_nn (x : TVal) : 0 ≤ cntTVal x := by
  unfold cntTVal
  omega
theorem cntTVal_le (x : TVal) : cntTVal x ≤ 32 + 32 * (totTVal x) := by
  unfold cntTVal totTVal
  omega
def HdTVal (N : Nat) (x : TVal) (k : Int) : Prop := x.K = k ∧ x.N = (k + 1) ∧ m_l_markText N ((k + 1) + 1) = some x.S
def cntTAlpha (x : TAlpha) : Int := 1 + 1 + cntL cntTVal x.Consts + cntL one x.At
theorem cntTAlpha_nn (x : TAlpha) : 0 ≤ cntTAlpha x := by
  unfold cntTAlpha
  have := cntL_nn cntTVal_nn x.Consts
  have := cntL_nn one_nn x.At
  omega
theorem cntTAlpha_le (x : TAlpha) : cntTAlpha x ≤ 32 + 32 * (totTAlpha x) := by
  have := cntL_le (p := x.Consts) (tot := totTVal) (fun y _ => cntTVal_le y)
  have := sum_nonneg totTVal x.Consts (fun y _ => totTVal_nn y)
  have := cntL_le0 (cnt := one) (p := x.At) (fun y _ => by simp [one])
  unfold cntTAlpha totTAlpha
  omega
def HdTAlpha (N : Nat) (x : TAlpha) (k : Int) : Prop := m_l_markText N k = some x.Kind ∧ x.N = (k + 1) ∧ HdL (HdTVal N) cntTVal x.Consts ((k + 1) + 1) ∧ HdL (fun x k => x = k) one x.At (((k + 1) + 1) + cntL cntTVal x.Consts)
theorem mk_m_l_markValS {N : Nat} (hN : 1099511627776 ≤ N) (x : (List TVal)) (h : (x.length ≤ 4294967296)) (k : Int) (h0 : 0 ≤ k) (h1 : k + cntL cntTVal x ≤ big62) : ∃ y, m_l_markValS N x k = some (k + cntL cntTVal x, y) ∧ cntL cntTVal y = cntL cntTVal x ∧ HdL (HdTVal N) cntTVal y k ∧ (y.length ≤ 4294967296) := by
  have hl : x.length ≤ 4294967296 := h
  obtain ⟨ys, a1, a2, a3, a4, a5⟩ := mkloop (m_l_markValS_l1 N) (HdTVal N) cntTVal (fun _ => True) cntTVal_nn (fun n s k i x hx hi hlt h0 h1 h => by
    unfold big62 at h1
    have hcnt : cntTVal x = 1 + 1 + 1 := rfl
    rw [hcnt] at h1
    have e0 : IntKind.i64.wrap (k + 1) = k + 1 := wr (by omega) (by omega)
    have e1 : IntKind.i64.wrap ((k + 1) + 1) = (k + 1) + 1 := wr (by omega) (by omega)
    obtain ⟨t2, m2⟩ := mtx hN ((k + 1) + 1) (by omega) (by unfold big62; omega)
    have e2 : IntKind.i64.wrap (((k + 1) + 1) + 1) = ((k + 1) + 1) + 1 := wr (by omega) (by omega)
    have c1 : decide ((i : Int) < (s.length : Int)) = true := decide_eq_true hlt
    refine ⟨(⟨k, (k + 1), t2⟩ : TVal), ?_, ?_, ?_, ?_⟩
    · exact ⟨rfl, rfl, m2⟩
    · simp only [cntTVal]
    · exact trivial
    · have hp : (((k + 1) + 1) + 1) = k + cntTVal x := by rw [hcnt]; omega
      rw [← hp, ← wr1 i (by omega)]
      simp only [m_l_markValS_l1, c1, if_true, show idx s (i : Int) = some x from by rw [idx_nat, hx], Option.bind_some, Int.toNat_natCast, e0, e1, m2, e2])
    (fun n s k i hi => by simp only [m_l_markValS_l1]; rw [if_neg (by simpa using hi)]) N 0 x k hl (by omega) (by omega) h0 (by simpa using h1) (fun _ _ => trivial)
  simp only [List.drop_zero, List.take_zero, List.nil_append] at a1 a3
  exact ⟨ys, a1, a3, a4, by omega⟩
theorem hd_m_l_heldValS {N : Nat} (hN : 1099511627776 ≤ N) (x : (List TVal)) (h : (x.length ≤ 4294967296)) (k : Int) (h0 : 0 ≤ k) (h1 : k + cntL cntTVal x ≤ big62) (hh : HdL (HdTVal N) cntTVal x k) : m_l_heldValS N x k = some (k + cntL cntTVal x) := by
  have hl : x.length ≤ 4294967296 := h
  have := hdloop (m_l_heldValS_l1 N x) x (HdTVal N) cntTVal (fun _ => True) cntTVal_nn hl (fun _ _ => trivial) (fun n k i y hx hi hlt h0 h1 h hy => by
    unfold big62 at h1
    have hcnt : cntTVal y = 1 + 1 + 1 := rfl
    rw [hcnt] at h1
    obtain ⟨q0, q1, q2⟩ := hy
    have e0 : IntKind.i64.wrap (k + 1) = k + 1 := wr (by omega) (by omega)
    have e1 : IntKind.i64.wrap ((k + 1) + 1) = (k + 1) + 1 := wr (by omega) (by omega)
    have e2 : IntKind.i64.wrap (((k + 1) + 1) + 1) = ((k + 1) + 1) + 1 := wr (by omega) (by omega)
    have c1 : decide ((i : Int) < (x.length : Int)) = true := decide_eq_true hlt
    have hp : (((k + 1) + 1) + 1) = k + cntTVal y := by rw [hcnt]; omega
    rw [← hp, ← wr1 i (by omega)]
    simp only [m_l_heldValS_l1, c1, if_true, show idx x (i : Int) = some y from by rw [idx_nat, hx], Option.bind_some, seq_self, decide_true, bne_self_eq_false, Bool.not_true, Bool.false_eq_true, if_false, q0, e0, q1, e1, q2, e2])
    (fun n k i hi => by simp only [m_l_heldValS_l1]; rw [if_neg (by simpa using hi)]) N 0 k (by omega) (by omega) h0 (by simpa using h1) (by simpa using hh)
  unfold m_l_heldValS; simpa using this
theorem mk_m_l_markIntS {N : Nat} (hN : 1099511627776 ≤ N) (x : (List Int)) (h : (x.length ≤ 4294967296)) (k : Int) (h0 : 0 ≤ k) (h1 : k + cntL one x ≤ big62) : ∃ y, m_l_markIntS N x k = some (k + cntL one x, y) ∧ cntL one y = cntL one x ∧ HdL (fun x k => x = k) one y k ∧ (y.length ≤ 4294967296) := by
  have hl : x.length ≤ 4294967296 := h
  obtain ⟨ys, a1, a2, a3, a4, a5⟩ := mkloop (m_l_markIntS_l1 N) (fun x k => x = k) one (fun _ => True) one_nn (fun n s k i x hx hi hlt h0 h1 h => by
    unfold big62 at h1
    simp only [one] at h1
    have e0 : IntKind.i64.wrap (k + 1) = k + 1 := wr (by omega) (by omega)
    have c1 : decide ((i : Int) < (s.length : Int)) = true := decide_eq_true hlt
    refine ⟨k, rfl, rfl, trivial, ?_⟩
    · have hp : (k + 1) = k + one x := by rfl
      rw [← hp, ← wr1 i (by omega)]
      simp only [m_l_markIntS_l1, c1, if_true, show idx s (i : Int) = some x from by rw [idx_nat, hx], Option.bind_some, Int.toNat_natCast, e0])
    (fun n s k i hi => by simp only [m_l_markIntS_l1]; rw [if_neg (by simpa using hi)]) N 0 x k hl (by omega) (by omega) h0 (by simpa using h1) (fun _ _ => trivial)
  simp only [List.drop_zero, List.take_zero, List.nil_append] at a1 a3
  exact ⟨ys, a1, a3, a4, by omega⟩
theorem hd_m_l_heldIntS {N : Nat} (hN : 1099511627776 ≤ N) (x : (List Int)) (h : (x.length ≤ 4294967296)) (k : Int) (h0 : 0 ≤ k) (h1 : k + cntL one x ≤ big62) (hh : HdL (fun x k => x = k) one x k) : m_l_heldIntS N x k = some (k + cntL one x) := by
  have hl : x.length ≤ 4294967296 := h
  have := hdloop (m_l_heldIntS_l1 N x) x (fun x k => x = k) one (fun _ => True) one_nn hl (fun _ _ => trivial) (fun n k i y hx hi hlt h0 h1 h hy => by
    unfold big62 at h1
    simp only [one] at h1
    have q0 := hy
    have e0 : IntKind.i64.wrap (k + 1) = k + 1 := wr (by omega) (by omega)
    have c1 : decide ((i : Int) < (x.length : Int)) = true := decide_eq_true hlt
    have hp : (k + 1) = k + one y := by rfl
    rw [← hp, ← wr1 i (by omega)]
    simp only [m_l_heldIntS_l1, c1, if_true, show idx x (i : Int) = some y from by rw [idx_nat, hx], Option.bind_some, seq_self, decide_true, bne_self_eq_false, Bool.not_true, Bool.false_eq_true, if_false, q0, e0])
    (fun n k i hi => by simp only [m_l_heldIntS_l1]; rw [if_neg (by simpa using hi)]) N 0 k (by omega) (by omega) h0 (by simpa using h1) (by simpa using hh)
  unfold m_l_heldIntS; simpa using this
def mcnTAlpha (x : TAlpha) : Int := cntL cntTVal x.Consts + cntL one x.At
theorem mcnTAlpha_nn (x : TAlpha) : 0 ≤ mcnTAlpha x := by
  unfold mcnTAlpha
  have := cntL_nn cntTVal_nn x.Consts
  have := cntL_nn one_nn x.At
  omega
theorem mcnTAlpha_le (x : TAlpha) : mcnTAlpha x ≤ 32 + 32 * totTAlpha x := by
  have := cntTAlpha_le x; unfold cntTAlpha at this; unfold mcnTAlpha; omega
theorem mk_m_l_markAlpha {N : Nat} (hN : 1099511627776 ≤ N) (x : TAlpha) (h : LimTAlpha x) (k : Int) (h0 : 0 ≤ k) (h1 : k + mcnTAlpha x ≤ big62) : ∃ y0 y1, m_l_markAlpha N x k = some (k + mcnTAlpha x, y0, y1) ∧ m_l_heldAlpha N (⟨x.Kind, x.N, y0, y1⟩ : TAlpha) k = some (k + mcnTAlpha x) := by
  unfold mcnTAlpha big62 at *
  have n0 := cntL_nn cntTVal_nn x.Consts
  have n1 := cntL_nn one_nn x.At
  obtain ⟨y0, m0, c0, d0, l0⟩ := mk_m_l_markValS hN x.Consts (h.1) k (by omega) (by unfold big62; omega)
  have w0 := hd_m_l_heldValS hN y0 l0 k (by omega) (by rw [c0]; unfold big62; omega) d0
  rw [c0] at w0
  have p0 : decide ((k + cntL cntTVal x.Consts) < 0) = false := decide_eq_false (by omega)
  obtain ⟨y1, m1, c1, d1, l1⟩ := mk_m_l_markIntS hN x.At (h.2) (k + cntL cntTVal x.Consts) (by omega) (by unfold big62; omega)
  have w1 := hd_m_l_heldIntS hN y1 l1 (k + cntL cntTVal x.Consts) (by omega) (by rw [c1]; unfold big62; omega) d1
  rw [c1] at w1
  have p1 : decide (((k + cntL cntTVal x.Consts) + cntL one x.At) < 0) = false := decide_eq_false (by omega)
  have hp : k + (cntL cntTVal x.Consts + cntL one x.At) = ((k + cntL cntTVal x.Consts) + cntL one x.At) := by omega
  refine ⟨y0, y1, ?_, ?_⟩
  · rw [hp]; simp only [m_l_markAlpha, Option.bind_some, m0, m1]
  · rw [hp]; simp only [m_l_heldAlpha, Option.bind_some, Bool.false_eq_true, if_false, w0, p0, w1, p1]
end Go.Proofs.Ytpajhchhkfnieaa
