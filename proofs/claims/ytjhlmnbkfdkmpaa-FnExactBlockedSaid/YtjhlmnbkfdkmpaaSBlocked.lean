/- Plain laws: how many items match a pattern; what blocks a rule. -/
import Derived.Test.YtjhlmnbkfdkmpaaSMatch
namespace Go.Proofs.Ytjhlmnbkfdkmpaa
open Eng
set_option linter.unusedVariables false
set_option linter.unusedSimpArgs false

def hits (p : TPat) (l : List TBind) (xs : List TItem) : Nat := xs.countP fun x => (matchPat p x.F l).2
def blocked (ps : List TPat) (xs : List TItem) (l : List TBind) : Bool := ps.any fun p => p.Not && xs.any fun x => (matchPat p x.F l).2
theorem hits_le (p : TPat) (l : List TBind) (xs : List TItem) : hits p l xs ≤ xs.length := List.countP_le_length
theorem hits_i {N : Nat} (hN : 1099511627776 ≤ N) (p : TPat) (s : TStore) (l : List TBind) (hp : p.Args.length ≤ 1048576) (hs : s.Items.length ≤ 1048576) (hb : l.length ≤ 2147483648) : m_i_hitsIn N p s l = some (hits p l s.Items : Int) := by
  unfold m_i_hitsIn
  have := lp' hN s.Items (by omega) (m_i_hitsIn_l1 N p s l) (fun t k => some (k + (hits p l t : Int))) (fun k t => 0 ≤ k ∧ k + t.length ≤ 1048576) (0 : Int) (by simp; omega) (fun n k i x t h1 h2 h3 h4 h5 h6 hI ih => by
    simp only [List.length_cons] at hI
    simp only [m_i_hitsIn_l1, h5, if_true, h4, Option.bind_some, match_i hN p x.F l hp hb, h6]
    unfold hits at ih ⊢
    rw [List.countP_cons]
    cases (matchPat p x.F l).2 with
    | true =>
      rw [wr (n := k + 1) (by omega) (by omega)]
      simp only [if_true, ih (k + 1) (by omega)]; congr 1; omega
    | false => simpa using ih k (by omega)) (fun n k i h1 h2 hI => by simp only [m_i_hitsIn_l1, h2, Bool.false_eq_true, if_false, hits]; simp)
  simpa using this
theorem hits_pos (p : TPat) (l : List TBind) (xs : List TItem) : decide ((0 : Int) < (hits p l xs : Int)) = xs.any fun x => (matchPat p x.F l).2 := by
  rw [Bool.eq_iff_iff, decide_eq_true_eq, List.any_eq_true]
  have : (0 : Int) < (hits p l xs : Int) ↔ 0 < hits p l xs := by omega
  rw [this, hits, List.countP_pos_iff]
theorem blocked_i {N : Nat} (hN : 1099511627776 ≤ N) (r : TRule) (s : TStore) (l : List TBind) (hr : r.Pats.length ≤ 1048576) (hp : ∀ p ∈ r.Pats, p.Args.length ≤ 1048576) (hs : s.Items.length ≤ 1048576) (hb : l.length ≤ 2147483648) : m_i_Blocked N r s l = some (blocked r.Pats s.Items l) := by
  unfold m_i_Blocked
  refine lp0 hN r.Pats (by omega) (m_i_Blocked_l1 N r s l) (fun t => some (blocked t s.Items l)) (fun n i x t g1 g2 g3 g4 g5 g6 g7 => ?_) (fun n i g1 g2 => ?_)
  · simp only [m_i_Blocked_l1, g5, if_true, g4, Option.bind_some, hits_i hN x s l (hp x g2) hs hb, hits_pos, g6, g7, andS]
    unfold blocked
    rw [List.any_cons]
    cases (x.Not && s.Items.any fun y => (matchPat x y.F l).2) <;> simp
  · simp only [m_i_Blocked_l1, g2, Bool.false_eq_true, if_false]; rfl
theorem blocked_s {N : Nat} (hN : 1099511627776 ≤ N) (r : TRule) (s : TStore) (l : List TBind) (hr : r.Pats.length ≤ 1048576) (hp : ∀ p ∈ r.Pats, p.Args.length ≤ 1048576) (hs : s.Items.length ≤ 1048576) (hb : l.length ≤ 2147483648) : m_s_Blocked N r s l = some (blocked r.Pats s.Items l) := by
  unfold m_s_Blocked
  refine lp0 hN r.Pats (by omega) (m_s_Blocked_l1 N r s l) (fun t => some (blocked t s.Items l)) (fun n i x t g1 g2 g3 g4 g5 g6 g7 => ?_) (fun n i g1 g2 => ?_)
  · simp only [m_s_Blocked_l1, g5, if_true]
    have inner : m_s_Blocked_l2 N r s l i (m_s_Blocked_l1 N r s l n) N 0 = some ((x.Not && s.Items.any fun y => (matchPat x y.F l).2) || blocked t s.Items l) := by
      refine lp0 hN s.Items (by omega) (m_s_Blocked_l2 N r s l i (m_s_Blocked_l1 N r s l n)) (fun u => some ((x.Not && u.any fun y => (matchPat x y.F l).2) || blocked t s.Items l)) (fun n' i' y u k1 k2 k3 k4 k5 k6 k7 => ?_) (fun n' i' k1 k2 => ?_)
      · simp only [m_s_Blocked_l2, k5, if_true, g4, Option.bind_some, k4, match_s hN x y.F l (hp x g2) hb, k6, k7, g6, g7, List.any_cons]
        cases x.Not <;> cases (matchPat x y.F l).2 <;> simp
      · simp only [m_s_Blocked_l2, k2, Bool.false_eq_true, if_false, Option.bind_some, g6, g7]; simp
    rw [inner]; unfold blocked; rw [List.any_cons]
  · simp only [m_s_Blocked_l1, g2, Bool.false_eq_true, if_false]; rfl
end Go.Proofs.Ytjhlmnbkfdkmpaa
