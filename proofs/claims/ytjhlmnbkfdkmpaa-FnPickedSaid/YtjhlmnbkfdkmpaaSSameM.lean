/- Plain laws: the same match; of two that are not the same one is less. -/
import Derived.Test.YtjhlmnbkfdkmpaaSLess
namespace Go.Proofs.Ytjhlmnbkfdkmpaa
open Eng
set_option linter.unusedVariables false
set_option linter.unusedSimpArgs false

theorem eqInt {N : Nat} (hN : 1048578 ≤ N) (x y : List Int) (hl : x.length ≤ 1048576) : m_sl_Equal_Sint_int N x y = some (decide (x = y)) := by
  unfold m_sl_Equal_Sint_int
  by_cases c : x.length = y.length
  · rw [if_neg (by simp; omega)]
    refine (eqloop (m_sl_Equal_Sint_int_l1 N x y) x y c (by omega) (fun a b => some (decide (a = b))) (fun a _ b _ => rfl) (fun k i => rfl) N 0 (by omega) (by omega)).trans ?_
    simp
  · rw [if_pos (by simp; omega)]
    have : ¬ x = y := fun e => c (by rw [e])
    simp [this]
def same (x y : TMatch) : Bool := decide (x.Rule = y.Rule) && decide (x.Ids = y.Ids)
theorem same_i {N : Nat} (hN : 1048578 ≤ N) (x y : TMatch) (h : x.Ids.length ≤ 1048576) : m_i_SameMatch N x y = some (same x y) := by
  unfold m_i_SameMatch same
  simp only [eqInt hN _ _ h, Option.bind_some, andS]

theorem less_tot (x y : TMatch) : (less x y || less y x) = !same x y := by
  unfold less same
  by_cases hr : x.Rule = y.Rule
  · by_cases hl : x.Ids.length = y.Ids.length
    · simp only [hr, hl, if_true, decide_true, Bool.true_and]; exact lex_tot _ _ hl
    · have hl' : ¬ y.Ids.length = x.Ids.length := fun e => hl e.symm
      have hd : ¬ x.Ids = y.Ids := fun e => hl (by rw [e])
      simp only [hr, hl, hl', hd, if_true, if_false, decide_true, decide_false, Bool.true_and, Bool.not_false]
      rw [← Bool.decide_or, decide_eq_true_eq]; omega
  · have hr' : ¬ y.Rule = x.Rule := fun e => hr e.symm
    simp only [hr, hr', if_false, decide_false, Bool.false_and, Bool.not_false]
    rw [← Bool.decide_or, decide_eq_true_eq]; omega
end Go.Proofs.Ytjhlmnbkfdkmpaa
