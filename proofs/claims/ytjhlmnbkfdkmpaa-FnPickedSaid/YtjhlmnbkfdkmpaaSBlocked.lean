/- Plain laws: how many items match a pattern; what blocks a rule. -/
import Derived.Test.YtjhlmnbkfdkmpaaSMatch
namespace Go.Proofs.Ytjhlmnbkfdkmpaa
open Eng
set_option linter.unusedVariables false
set_option linter.unusedSimpArgs false

def hits (p : TPat) (l : List TBind) (xs : List TItem) : Nat := xs.countP fun x => (matchPat p x.F l).2
def blocked (ps : List TPat) (xs : List TItem) (l : List TBind) : Bool := ps.any fun p => p.Not && xs.any fun x => (matchPat p x.F l).2
theorem hits_le (p : TPat) (l : List TBind) (xs : List TItem) : hits p l xs ≤ xs.length := List.countP_le_length
theorem hits_pos (p : TPat) (l : List TBind) (xs : List TItem) : decide ((0 : Int) < (hits p l xs : Int)) = xs.any fun x => (matchPat p x.F l).2 := by
  rw [Bool.eq_iff_iff, decide_eq_true_eq, List.any_eq_true]
  have : (0 : Int) < (hits p l xs : Int) ↔ 0 < hits p l xs := by omega
  rw [this, hits, List.countP_pos_iff]
theorem blocked_s {N : Nat} (hN : 1099000000000 ≤ N) (r : TRule) (s : TStore) (l : List TBind) (hr : r.Pats.length ≤ 1048576) (hp : ∀ p ∈ r.Pats, p.Args.length ≤ 1048576) (hs : s.Items.length ≤ 1048576) (hb : l.length ≤ 2147483648) : m_s_Blocked N r s l = some (blocked r.Pats s.Items l) := by
  unfold m_s_Blocked
  refine lp0 hN r.Pats (by omega) (m_s_Blocked_l1 N r s l) (fun t => some (blocked t s.Items l)) (fun n i x t g1 g2 g3 g4 g5 g6 g7 => ?_) (fun n i g1 g2 => ?_)
  · simp only [m_s_Blocked_l1, g5, if_true]
    have inner : m_s_Blocked_l2 N r s l i (m_s_Blocked_l1 N r s l n) N 0 = some ((x.Not && s.Items.any fun y => (matchPat x y.F l).2) || blocked t s.Items l) := by
      refine lp0 hN s.Items (by omega) (m_s_Blocked_l2 N r s l i (m_s_Blocked_l1 N r s l n)) (fun u => some ((x.Not && u.any fun y => (matchPat x y.F l).2) || blocked t s.Items l)) (fun n' i' y u k1 k2 k3 k4 k5 k6 k7 => ?_) (fun n' i' k1 k2 => ?_)
      · simp only [m_s_Blocked_l2, k5, if_true, g4, Option.bind_some, k4, match_s hN x y.F l (hp x g2) hb, k6, k7, g6, g7, List.any_cons]
        cases x.Not <;> cases (matchPat x y.F l).2 <;> simp
      · simp only [m_s_Blocked_l2, k2, Bool.false_eq_true, if_false, Option.bind_some, g6, g7]; simp
    rw [inner]; unfold blocked; rw [List.any_cons]
  · simp only [m_s_Blocked_l1, g2, Bool.false_eq_true, if_false]; rfl
end Go.Proofs.Ytjhlmnbkfdkmpaa
