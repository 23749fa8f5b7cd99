/- Plain laws: the same values, as the reference asks. -/
import Derived.Test.YtjhlmnbkfdkmpaaCL2
import Derived.Test.YtjhlmnbkfdkmpaaWPickedPur
namespace Go.Proofs.Ytjhlmnbkfdkmpaa
open Eng
set_option linter.unusedVariables false
set_option linter.unusedSimpArgs false
theorem sameVs {N : Nat} (hN : 1099000000000 ≤ N) (x y : List TVal) (hl : x.length ≤ 4294967296) : m_s_l3SameVals N x y = some (decide (x = y)) := by
  unfold m_s_l3SameVals
  by_cases c : x.length = y.length
  · rw [if_neg (by simp; omega)]
    refine (eqloop (m_s_l3SameVals_l1 N x y) x y c (by omega) (fun a b => some (decide (a = b))) (fun a _ b _ => rfl) (fun k i => by simp only [m_s_l3SameVals_l1, eqT_TVal_eq, Option.bind_some]) N 0 (by omega) (by omega)).trans ?_
    simp
  · rw [if_pos (by simp; omega)]
    have : ¬ x = y := fun e => c (by rw [e])
    simp [this]
end Go.Proofs.Ytjhlmnbkfdkmpaa
