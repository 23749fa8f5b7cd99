/- Plain laws: less of two matches, and the same match. -/
import Derived.Test.YtjhlmnbkfdkmpaaSCmp
import Derived.Test.YtjhlmnbkfdkmpaaCL
import Derived.Test.YtjhlmnbkfdkmpaaWPickedMod
namespace Go.Proofs.Ytjhlmnbkfdkmpaa
open Eng
set_option linter.unusedVariables false
set_option linter.unusedSimpArgs false


/-! ### LessMatch -/
theorem less_loop (N : Nat) (x y : TMatch) (hl : x.Ids.length = y.Ids.length) (hm : x.Ids.length ≤ 1048576) : ∀ n i : Nat, i ≤ x.Ids.length → x.Ids.length - i < n →
    ∃ c, m_sl_Compare_Sint_int_l1 N x.Ids y.Ids n i = some c ∧ m_s_LessMatch_l1 N x y n i = some (decide (c < 0)) := by
  intro n
  induction n with
  | zero => intro i _ h; omega
  | succ n ih =>
    intro i hi hn
    simp only [m_sl_Compare_Sint_int_l1, m_s_LessMatch_l1, cmp_eq, Option.bind_some]
    by_cases hlt : i < x.Ids.length
    · have hlt' : i < y.Ids.length := by omega
      have c1 : decide ((i : Int) < (x.Ids.length : Int)) = true := by simp; omega
      have c2 : ¬ decide ((y.Ids.length : Int) ≤ (i : Int)) = true := by simp; omega
      rw [if_pos c1, if_pos c1, idx_nat_lt hlt, idx_nat_lt hlt']
      simp only [Option.bind_some]
      rw [if_neg c2]
      by_cases he : x.Ids[i] = y.Ids[i]
      · have : cmp x.Ids[i] y.Ids[i] = 0 := by unfold cmp; rw [he]; simp
        have de : decide (cmp x.Ids[i] y.Ids[i] = 0) = true := by rw [this]; rfl
        have dq : decide (x.Ids[i] = y.Ids[i]) = true := by simp [he]
        simp only [de, dq, Bool.not_true, Bool.false_eq_true, if_false]
        rw [wr1 i (by omega)]
        exact ih (i + 1) (by omega) (by omega)
      · by_cases hlt2 : x.Ids[i] < y.Ids[i]
        · have : cmp x.Ids[i] y.Ids[i] = -1 := by unfold cmp; rw [if_pos hlt2]
          simp only [this, he, decide_false, Bool.not_false, if_true, hlt2, decide_true]
          exact ⟨-1, by simp, by simp⟩
        · have : cmp x.Ids[i] y.Ids[i] = 1 := by unfold cmp; rw [if_neg hlt2, if_pos (by omega)]
          simp only [this, he, decide_false, Bool.not_false, if_true, hlt2]
          exact ⟨1, by simp, by simp⟩
    · have c1 : ¬ decide ((i : Int) < (x.Ids.length : Int)) = true := by simp; omega
      have c3 : ¬ decide ((x.Ids.length : Int) < (y.Ids.length : Int)) = true := by simp; omega
      rw [if_neg c1, if_neg c1, if_neg c3]
      exact ⟨0, rfl, rfl⟩

theorem core_LessMatch {N : Nat} (hN : 1048578 ≤ N) (x y : TMatch) (l1 : x.Ids.length ≤ 1048576) : ∃ r, m_s_LessMatch N x y = some r ∧ m_i_LessMatch N x y = some r := by
  unfold m_s_LessMatch m_i_LessMatch m_i_compareMatches
  simp only [cmp_eq, Option.bind_some, or_eq hN]
  by_cases hr : x.Rule = y.Rule
  · have e1 : cmp x.Rule y.Rule = 0 := by unfold cmp; rw [hr]; simp
    have dr : decide (x.Rule = y.Rule) = true := by simp [hr]
    simp only [e1, dr, Bool.not_true, Bool.false_eq_true, if_false, if_true]
    by_cases hl : (x.Ids.length : Int) = (y.Ids.length : Int)
    · have e2 : cmp (x.Ids.length : Int) (y.Ids.length : Int) = 0 := by unfold cmp; rw [hl]; simp
      have dl : decide ((x.Ids.length : Int) = (y.Ids.length : Int)) = true := by simp [hl]
      simp only [e2, dl, decide_true, Bool.not_true, Bool.false_eq_true, if_false, if_true]
      obtain ⟨c, h1, h2⟩ := less_loop N x y (by omega) (by omega) N 0 (by omega) (by omega)
      refine ⟨decide (c < 0), h2, ?_⟩
      unfold m_sl_Compare_Sint_int
      rw [show m_sl_Compare_Sint_int_l1 N x.Ids y.Ids N 0 = _ from h1]; rfl
    · have e2 : decide (cmp (x.Ids.length : Int) (y.Ids.length : Int) = 0) = false := by
        rw [decide_eq_false_iff_not]; unfold cmp; split
        · decide
        · rw [if_pos (by omega)]; decide
      have dl : decide ((x.Ids.length : Int) = (y.Ids.length : Int)) = false := by simp [hl]
      have d3 : decide (cmp (x.Ids.length : Int) (y.Ids.length : Int) < 0) = decide ((x.Ids.length : Int) < (y.Ids.length : Int)) := by
        rw [decide_eq_decide]; unfold cmp; split
        · simp; omega
        · rw [if_pos (by omega)]; simp; omega
      simp only [e2, dl, Bool.not_false, Bool.false_eq_true, if_false, if_true, Option.bind_some, d3]
      exact ⟨_, rfl, rfl⟩
  · have e1 : decide (cmp x.Rule y.Rule = 0) = false := by
      rw [decide_eq_false_iff_not]; unfold cmp; split
      · decide
      · rw [if_pos (by omega)]; decide
    have e1' : ¬ cmp x.Rule y.Rule = 0 := by simpa using e1
    have dr : decide (x.Rule = y.Rule) = false := by simp [hr]
    have d3 : decide (cmp x.Rule y.Rule < 0) = decide (x.Rule < y.Rule) := by
      rw [decide_eq_decide]; unfold cmp; split
      · simp; omega
      · rw [if_pos (by omega)]; simp; omega
    simp only [if_neg e1', e1, dr, Bool.not_false, Bool.false_eq_true, if_false, if_true, Option.bind_some, d3]
    exact ⟨_, rfl, rfl⟩

/-- Row by row: the first that differs says. -/
def lexlt : List Int → List Int → Bool
  | a :: x, b :: y => if a = b then lexlt x y else decide (a < b)
  | _, _ => false
theorem lex_loop {N : Nat} (x y : TMatch) (hl : x.Ids.length = y.Ids.length) (hm : x.Ids.length ≤ 1048576) : ∀ n i : Nat, i ≤ x.Ids.length → x.Ids.length - i < n → m_s_LessMatch_l1 N x y n i = some (lexlt (x.Ids.drop i) (y.Ids.drop i)) := by
  intro n
  induction n with
  | zero => intro i _ h; omega
  | succ n ih =>
    intro i hi hn
    simp only [m_s_LessMatch_l1]
    by_cases hlt : i < x.Ids.length
    · have c1 : decide ((i : Int) < (x.Ids.length : Int)) = true := decide_eq_true (by omega)
      have hlt' : i < y.Ids.length := by omega
      simp only [c1, if_true, idx_nat_lt hlt, idx_nat_lt hlt', Option.bind_some, wr1 i (by omega)]
      rw [List.drop_eq_getElem_cons hlt, List.drop_eq_getElem_cons hlt', lexlt]
      by_cases he : x.Ids[i] = y.Ids[i]
      · simp only [he, decide_true, Bool.not_true, Bool.false_eq_true, if_false, if_true]
        exact ih (i + 1) (by omega) (by omega)
      · simp only [he, decide_false, Bool.not_false, if_true, if_false]
    · have c1 : decide ((i : Int) < (x.Ids.length : Int)) = false := decide_eq_false (by omega)
      simp only [c1, Bool.false_eq_true, if_false]
      rw [List.drop_of_length_le (by omega), List.drop_of_length_le (by omega)]; rfl
def less (x y : TMatch) : Bool := if x.Rule = y.Rule then (if x.Ids.length = y.Ids.length then lexlt x.Ids y.Ids else decide (x.Ids.length < y.Ids.length)) else decide (x.Rule < y.Rule)
theorem less_s {N : Nat} (hN : 1048578 ≤ N) (x y : TMatch) (h : x.Ids.length ≤ 1048576) : m_s_LessMatch N x y = some (less x y) := by
  unfold m_s_LessMatch less
  by_cases hr : x.Rule = y.Rule
  · by_cases hl : x.Ids.length = y.Ids.length
    · have := lex_loop (N := N) x y hl h N 0 (by omega) (by omega)
      simp only [hr, hl, decide_true, Bool.not_true, Bool.false_eq_true, if_false, if_true]
      simpa using this
    · have c : decide ((x.Ids.length : Int) = (y.Ids.length : Int)) = false := decide_eq_false (by omega)
      simp only [hr, hl, c, decide_true, Bool.not_true, Bool.not_false, Bool.false_eq_true, if_false, if_true]
      congr 1; simp
  · simp [hr]
theorem less_i {N : Nat} (hN : 1048578 ≤ N) (x y : TMatch) (h : x.Ids.length ≤ 1048576) : m_i_LessMatch N x y = some (less x y) := by
  obtain ⟨r, a, b⟩ := core_LessMatch hN x y h
  rw [less_s hN x y h] at a
  rw [b, ← a]
theorem lex_anti : ∀ (x y : List Int), (lexlt x y && lexlt y x) = false
  | [], _ => by simp [lexlt]
  | _ :: _, [] => by simp [lexlt]
  | a :: x, b :: y => by
    unfold lexlt
    by_cases h : a = b
    · simp only [h, if_true]; exact lex_anti x y
    · have h' : ¬ b = a := fun e => h e.symm
      simp only [h, h', if_false]
      rw [← Bool.decide_and, decide_eq_false_iff_not]; omega
theorem lex_tot : ∀ (x y : List Int), x.length = y.length → (lexlt x y || lexlt y x) = !decide (x = y)
  | [], [], _ => by simp [lexlt]
  | [], _ :: _, h => by simp at h
  | _ :: _, [], h => by simp at h
  | a :: x, b :: y, hl => by
    unfold lexlt
    by_cases h : a = b
    · subst h
      simp only [if_true, lex_tot x y (by simpa using hl), List.cons.injEq, true_and]
    · have h' : ¬ b = a := fun e => h e.symm
      simp only [h, h', if_false, List.cons.injEq, false_and, decide_false, Bool.not_false]
      rw [← Bool.decide_or, decide_eq_true_eq]; omega
theorem less_anti (x y : TMatch) : (less x y && less y x) = false := by
  unfold less
  by_cases hr : x.Rule = y.Rule
  · by_cases hl : x.Ids.length = y.Ids.length
    · simp only [hr, hl, if_true]; exact lex_anti _ _
    · have hl' : ¬ y.Ids.length = x.Ids.length := fun e => hl e.symm
      simp only [hr, hl, hl', if_true, if_false]
      rw [← Bool.decide_and, decide_eq_false_iff_not]; omega
  · have hr' : ¬ y.Rule = x.Rule := fun e => hr e.symm
    simp only [hr, hr', if_false]
    rw [← Bool.decide_and, decide_eq_false_iff_not]; omega
end Go.Proofs.Ytjhlmnbkfdkmpaa
