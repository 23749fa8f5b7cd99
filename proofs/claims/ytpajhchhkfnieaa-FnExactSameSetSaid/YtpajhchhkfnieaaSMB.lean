/- Plain laws: cores of LessMatch, SameSet. -/
import Derived.Test.YtpajhchhkfnieaaPBPur
namespace Go.Proofs.Ytpajhchhkfnieaa
open Eng
set_option linter.unusedVariables false
set_option linter.unusedSimpArgs false

theorem andS (a b : Bool) : (if a = true then some b else some false) = some (a && b) := by cases a <;> rfl
theorem orS (a b : Bool) : (if a = true then some true else some b) = some (a || b) := by cases a <;> rfl

/-! ### LessMatch -/
def cmp (a b : Int) : Int := if a < b then -1 else if b < a then 1 else 0
theorem cmp_eq (N : Nat) (a b : Int) : m_cmp_Compare_int N a b = some (cmp a b) := by
  unfold m_cmp_Compare_int m_cmp_isNaN_int cmp
  by_cases h1 : a < b
  · simp [h1]
  · by_cases h2 : b < a <;> simp [h1, h2]
theorem or_eq {N : Nat} (hN : 1048578 ≤ N) (a b : Int) : m_cmp_Or_int N [a, b] = some (if a = 0 then b else a) := by
  obtain ⟨n, rfl⟩ : ∃ n, N = n + 3 := ⟨N - 3, by omega⟩
  unfold m_cmp_Or_int
  have w1 : IntKind.i64.wrap ((0 : Int) + 1) = 1 := by decide
  have w2 : IntKind.i64.wrap ((1 : Int) + 1) = 2 := by decide
  have i0 : idx [a, b] 0 = some a := rfl
  have i1 : idx [a, b] 1 = some b := rfl
  have l2 : (([a, b] : List Int).length : Int) = 2 := rfl
  simp only [m_cmp_Or_int_l1, w1, w2, i0, i1, l2, Option.bind_some]
  by_cases ha : a = 0
  · by_cases hb : b = 0 <;> simp [ha, hb]
  · simp [ha]

theorem less_loop (N : Nat) (x y : TMatch) (hl : x.Ids.length = y.Ids.length) (hm : x.Ids.length ≤ 1048576) : ∀ n i : Nat, i ≤ x.Ids.length → x.Ids.length - i < n →
    ∃ c, m_sl_Compare_Sint_int_l1 N x.Ids y.Ids n i = some c ∧ m_s_LessMatch_l1 N x y n i = some (decide (c < 0)) := by
  intro n
  induction n with
  | zero => intro i _ h; omega
  | succ n ih =>
    intro i hi hn
    simp only [m_sl_Compare_Sint_int_l1, m_s_LessMatch_l1, cmp_eq, Option.bind_some]
    by_cases hlt : i < x.Ids.length
    · have hlt' : i < y.Ids.length := by omega
      have c1 : decide ((i : Int) < (x.Ids.length : Int)) = true := by simp; omega
      have c2 : ¬ decide ((y.Ids.length : Int) ≤ (i : Int)) = true := by simp; omega
      rw [if_pos c1, if_pos c1, idx_nat_lt hlt, idx_nat_lt hlt']
      simp only [Option.bind_some]
      rw [if_neg c2]
      by_cases he : x.Ids[i] = y.Ids[i]
      · have : cmp x.Ids[i] y.Ids[i] = 0 := by unfold cmp; rw [he]; simp
        have de : decide (cmp x.Ids[i] y.Ids[i] = 0) = true := by rw [this]; rfl
        have dq : decide (x.Ids[i] = y.Ids[i]) = true := by simp [he]
        simp only [de, dq, Bool.not_true, Bool.false_eq_true, if_false]
        rw [wr1 i (by omega)]
        exact ih (i + 1) (by omega) (by omega)
      · by_cases hlt2 : x.Ids[i] < y.Ids[i]
        · have : cmp x.Ids[i] y.Ids[i] = -1 := by unfold cmp; rw [if_pos hlt2]
          simp only [this, he, decide_false, Bool.not_false, if_true, hlt2, decide_true]
          exact ⟨-1, by simp, by simp⟩
        · have : cmp x.Ids[i] y.Ids[i] = 1 := by unfold cmp; rw [if_neg hlt2, if_pos (by omega)]
          simp only [this, he, decide_false, Bool.not_false, if_true, hlt2]
          exact ⟨1, by simp, by simp⟩
    · have c1 : ¬ decide ((i : Int) < (x.Ids.length : Int)) = true := by simp; omega
      have c3 : ¬ decide ((x.Ids.length : Int) < (y.Ids.length : Int)) = true := by simp; omega
      rw [if_neg c1, if_neg c1, if_neg c3]
      exact ⟨0, rfl, rfl⟩

theorem c_LessMatch {N : Nat} (hN : 1048578 ≤ N) (x y : TMatch) (hx : totTMatch x ≤ 1048576) (hy : totTMatch y ≤ 1048576) : ∃ r, m_s_LessMatch N x y = some r ∧ m_i_LessMatch N x y = some r := by
  have lx := LimTMatch_of x hx
  have ly := LimTMatch_of y hy
  have l1 := lx.1
  unfold m_s_LessMatch m_i_LessMatch m_i_compareMatches
  simp only [cmp_eq, Option.bind_some, or_eq hN]
  by_cases hr : x.Rule = y.Rule
  · have e1 : cmp x.Rule y.Rule = 0 := by unfold cmp; rw [hr]; simp
    have dr : decide (x.Rule = y.Rule) = true := by simp [hr]
    simp only [e1, dr, Bool.not_true, Bool.false_eq_true, if_false, if_true]
    by_cases hl : (x.Ids.length : Int) = (y.Ids.length : Int)
    · have e2 : cmp (x.Ids.length : Int) (y.Ids.length : Int) = 0 := by unfold cmp; rw [hl]; simp
      have dl : decide ((x.Ids.length : Int) = (y.Ids.length : Int)) = true := by simp [hl]
      simp only [e2, dl, decide_true, Bool.not_true, Bool.false_eq_true, if_false, if_true]
      obtain ⟨c, h1, h2⟩ := less_loop N x y (by omega) (by omega) N 0 (by omega) (by omega)
      refine ⟨decide (c < 0), h2, ?_⟩
      unfold m_sl_Compare_Sint_int
      rw [show m_sl_Compare_Sint_int_l1 N x.Ids y.Ids N 0 = _ from h1]; rfl
    · have e2 : decide (cmp (x.Ids.length : Int) (y.Ids.length : Int) = 0) = false := by
        rw [decide_eq_false_iff_not]; unfold cmp; split
        · decide
        · rw [if_pos (by omega)]; decide
      have dl : decide ((x.Ids.length : Int) = (y.Ids.length : Int)) = false := by simp [hl]
      have d3 : decide (cmp (x.Ids.length : Int) (y.Ids.length : Int) < 0) = decide ((x.Ids.length : Int) < (y.Ids.length : Int)) := by
        rw [decide_eq_decide]; unfold cmp; split
        · simp; omega
        · rw [if_pos (by omega)]; simp; omega
      simp only [e2, dl, Bool.not_false, Bool.false_eq_true, if_false, if_true, Option.bind_some, d3]
      exact ⟨_, rfl, rfl⟩
  · have e1 : decide (cmp x.Rule y.Rule = 0) = false := by
      rw [decide_eq_false_iff_not]; unfold cmp; split
      · decide
      · rw [if_pos (by omega)]; decide
    have e1' : ¬ cmp x.Rule y.Rule = 0 := by simpa using e1
    have dr : decide (x.Rule = y.Rule) = false := by simp [hr]
    have d3 : decide (cmp x.Rule y.Rule < 0) = decide (x.Rule < y.Rule) := by
      rw [decide_eq_decide]; unfold cmp; split
      · simp; omega
      · rw [if_pos (by omega)]; simp; omega
    simp only [if_neg e1', e1, dr, Bool.not_false, Bool.false_eq_true, if_false, if_true, Option.bind_some, d3]
    exact ⟨_, rfl, rfl⟩

/-! ### SameSet -/
theorem eqInt {N : Nat} (hN : 1048578 ≤ N) (x y : List Int) (hl : x.length ≤ 1048576) : m_sl_Equal_Sint_int N x y = some (decide (x = y)) := by
  unfold m_sl_Equal_Sint_int
  by_cases c : x.length = y.length
  · rw [if_neg (by simp; omega)]
    refine (eqloop (m_sl_Equal_Sint_int_l1 N x y) x y c (by omega) (fun a b => some (decide (a = b))) (fun a _ b _ => rfl) (fun k i => rfl) N 0 (by omega) (by omega)).trans ?_
    simp
  · rw [if_pos (by simp; omega)]
    have : ¬ x = y := fun e => c (by rw [e])
    simp [this]
theorem eqInt' {N : Nat} (hN : 1048578 ≤ N) (x y : List Int) (hl : x.length ≤ 1048576) : m_s_l11Same N x y = some (decide (x = y)) := by
  unfold m_s_l11Same
  by_cases c : x.length = y.length
  · rw [if_neg (by simp; omega)]
    refine (eqloop (m_s_l11Same_l1 N x y) x y c (by omega) (fun a b => some (decide (a = b))) (fun a _ b _ => rfl) (fun k i => rfl) N 0 (by omega) (by omega)).trans ?_
    simp
  · rw [if_pos (by simp; omega)]
    have : ¬ x = y := fun e => c (by rw [e])
    simp [this]
theorem eqBinds {N : Nat} (hN : 1048578 ≤ N) (x y : List TBind) (hl : x.length ≤ 1048576) : m_sl_Equal_Si_Bind_i_Bind N x y = some (decide (x = y)) := by
  unfold m_sl_Equal_Si_Bind_i_Bind
  by_cases c : x.length = y.length
  · rw [if_neg (by simp; omega)]
    refine (eqloop (m_sl_Equal_Si_Bind_i_Bind_l1 N x y) x y c (by omega) (fun a b => some (eqT_TBind a b)) (fun a _ b _ => by rw [eqT_TBind_eq]) (fun k i => rfl) N 0 (by omega) (by omega)).trans ?_
    simp
  · rw [if_pos (by simp; omega)]
    have : ¬ x = y := fun e => c (by rw [e])
    simp [this]

theorem match_eq (x y : TMatch) : decide (x = y) = (decide (x.Rule = y.Rule) && (decide (x.Ids = y.Ids) && decide (x.Binds = y.Binds))) := by
  obtain ⟨a, b, c⟩ := x; obtain ⟨a', b', c'⟩ := y
  simp only [TMatch.mk.injEq]
  by_cases h1 : a = a' <;> by_cases h2 : b = b' <;> by_cases h3 : c = c' <;> simp [h1, h2, h3]
theorem clos_eq {N : Nat} (hN : 1048578 ≤ N) (x y : TMatch) (hx : LimTMatch x) : m_i_SameSet_c1 N x y = some (decide (x = y)) := by
  unfold m_i_SameSet_c1 m_i_SameMatch
  rw [eqInt hN _ _ hx.1, eqBinds hN _ _ hx.2, match_eq]
  simp only [Option.bind_some, andS, Bool.and_assoc]
theorem setfunc {N : Nat} (hN : 1048578 ≤ N) (x y : List TMatch) (hl : x.length ≤ 1048576) (hx : ∀ m ∈ x, LimTMatch m) : m_i_SameSet N x y = some (decide (x = y)) := by
  unfold m_i_SameSet m_sl_EqualFunc_Si_Match_Si_Match_i_Match_i_Match
  by_cases c : x.length = y.length
  · rw [if_neg (by simp; omega)]
    rw [show m_sl_EqualFunc_Si_Match_Si_Match_i_Match_i_Match_l1 N x y (m_i_SameSet_c1 N) N 0 = _ from eqloop (m_sl_EqualFunc_Si_Match_Si_Match_i_Match_i_Match_l1 N x y (m_i_SameSet_c1 N)) x y c (by omega) (m_i_SameSet_c1 N) (fun a ha b _ => clos_eq hN a b (hx a ha)) (fun k i => rfl) N 0 (by omega) (by omega)]
    simp
  · rw [if_pos (by simp; omega)]
    have : ¬ x = y := fun e => c (by rw [e])
    simp [this]

theorem bindloop {N : Nat} (x y : List TMatch) (i : Nat) (hi : i < x.length) (hi' : i < y.length) (K : Int → Option Bool) (hl : x[i].Binds.length = y[i].Binds.length) (hm : x[i].Binds.length ≤ 1048576) : ∀ n j : Nat, j ≤ x[i].Binds.length → x[i].Binds.length - j < n →
    m_s_SameSet_l2 N x y i K n j = if decide (x[i].Binds.drop j = y[i].Binds.drop j) = true then K (IntKind.i64.wrap ((i : Int) + 1)) else some false := by
  intro n
  induction n with
  | zero => intro j _ h; omega
  | succ n ih =>
    intro j hj hn
    simp only [m_s_SameSet_l2, idx_nat_lt hi, idx_nat_lt hi', Option.bind_some]
    by_cases hlt : j < x[i].Binds.length
    · have hlt' : j < y[i].Binds.length := by omega
      rw [if_pos (by simp; omega), idx_nat_lt hlt, idx_nat_lt hlt']
      simp only [Option.bind_some]
      rw [eqT_TBind_eq, wr1 j (by omega), ih (j + 1) (by omega) (by omega), List.drop_eq_getElem_cons hlt, List.drop_eq_getElem_cons hlt']
      have hc : decide (x[i].Binds[j] :: x[i].Binds.drop (j + 1) = y[i].Binds[j] :: y[i].Binds.drop (j + 1)) = (decide (x[i].Binds[j] = y[i].Binds[j]) && decide (x[i].Binds.drop (j + 1) = y[i].Binds.drop (j + 1))) := by
        simp only [List.cons.injEq, Bool.decide_and]
      rw [hc]
      cases decide (x[i].Binds[j] = y[i].Binds[j]) <;> simp only [Bool.not_true, Bool.not_false, Bool.true_and, Bool.false_and, Bool.false_eq_true, if_true, if_false]
    · rw [if_neg (by simp; omega), List.drop_of_length_le (by omega), List.drop_of_length_le (by omega)]
      simp

theorem setloop {N : Nat} (hN : 1048578 ≤ N) (x y : List TMatch) (hxy : x.length = y.length) (hl : x.length ≤ 1048576) (hx : ∀ m ∈ x, LimTMatch m) : ∀ n i : Nat, i ≤ x.length → x.length - i < n → m_s_SameSet_l1 N x y n i = some (decide (x.drop i = y.drop i)) := by
  intro n
  induction n with
  | zero => intro i _ h; omega
  | succ n ih =>
    intro i hi hn
    simp only [m_s_SameSet_l1]
    by_cases hlt : i < x.length
    · have hlt' : i < y.length := by omega
      have hm := hx x[i] (List.getElem_mem hlt)
      rw [if_pos (by simp; omega), idx_nat_lt hlt, idx_nat_lt hlt']
      unfold m_s_SameMatch
      simp only [Option.bind_some, eqInt' hN _ _ hm.1, andS]
      rw [List.drop_eq_getElem_cons hlt, List.drop_eq_getElem_cons hlt']
      have hc : decide (x[i] :: x.drop (i + 1) = y[i] :: y.drop (i + 1)) = (decide (x[i] = y[i]) && decide (x.drop (i + 1) = y.drop (i + 1))) := by
        simp only [List.cons.injEq, Bool.decide_and]
      rw [hc, match_eq]
      by_cases h1 : x[i].Rule = y[i].Rule
      · by_cases h2 : x[i].Ids = y[i].Ids
        · by_cases h3 : x[i].Binds.length = y[i].Binds.length
          · have h3' : decide ((x[i].Binds.length : Int) = (y[i].Binds.length : Int)) = true := by simp; omega
            simp only [h1, h2, h3', decide_true, Bool.and_self, Bool.not_true, Bool.false_eq_true, if_false, Option.bind_some, Bool.true_and]
            rw [show m_s_SameSet_l2 N x y i (m_s_SameSet_l1 N x y n) N 0 = _ from bindloop x y i hlt hlt' (m_s_SameSet_l1 N x y n) h3 hm.2 N 0 (by omega) (by have := hm.2; omega)]
            rw [wr1 i (by omega), ih (i + 1) (by omega) (by omega)]
            simp only [List.drop_zero]
            cases decide (x[i].Binds = y[i].Binds) <;> simp
          · have h3' : decide ((x[i].Binds.length : Int) = (y[i].Binds.length : Int)) = false := by simp; omega
            have h4 : ¬ x[i].Binds = y[i].Binds := fun e => h3 (by rw [e])
            simp only [h1, h2, h3', decide_true, Bool.and_self, Bool.not_true, Bool.not_false, Bool.false_eq_true, if_false, if_true, Option.bind_some, Bool.true_and, h4, decide_false, Bool.false_and]
        · simp [h1, h2]
      · simp [h1]
    · rw [if_neg (by simp; omega), List.drop_of_length_le (by omega), List.drop_of_length_le (by omega)]
      simp

theorem c_SameSet {N : Nat} (hN : 1048578 ≤ N) (x y : List TMatch) (hx : (x.length : Int) + (x.map totTMatch).sum ≤ 1048576) (hy : (y.length : Int) + (y.map totTMatch).sum ≤ 1048576) : ∃ r, m_s_SameSet N x y = some r ∧ m_i_SameSet N x y = some r := by
  have nn : ∀ m ∈ x, 0 ≤ totTMatch m := fun m _ => totTMatch_nn m
  have := sum_nonneg _ _ nn
  have hl : x.length ≤ 1048576 := by omega
  have hL : ∀ m ∈ x, LimTMatch m := fun m hm => LimTMatch_of m (by have := sum_mem _ _ nn m hm; omega)
  refine ⟨_, ?_, setfunc hN x y hl hL⟩
  unfold m_s_SameSet
  by_cases c : x.length = y.length
  · rw [if_neg (by simp; omega)]
    rw [show m_s_SameSet_l1 N x y N 0 = _ from setloop hN x y c hl hL N 0 (by omega) (by omega)]
    simp
  · rw [if_pos (by simp; omega)]
    have : ¬ x = y := fun e => c (by rw [e])
    simp [this]
end Go.Proofs.Ytpajhchhkfnieaa
