/- Plain laws: draws: rows of matches. -/
import Derived.Test.YtjhlmnbkfdkmpaaSDMatch
namespace Go.Proofs.Ytjhlmnbkfdkmpaa
open Eng
set_option linter.unusedVariables false
set_option linter.unusedSimpArgs false
theorem list_d {N : Nat} (hN : 1099000000000 ≤ N) {b : List Int} (hb : b.length ≤ 1048576) {c : Tl1Cur} (g : GC b c) : Dr b (fun l => l.length ≤ 5 ∧ ∀ m ∈ l, drMatch m) (m_s_l15List N c) := by
  unfold m_s_l15List
  refine (below_d hb g 5 (by omega)).bind fun v e ge hv => ?_
  have lp : ∀ (n : Nat) (s : List TMatch) (k x h : Int), 0 ≤ k → k < n → s.length + k ≤ 5 → (∀ m ∈ s, drMatch m) → GC b ⟨c.b, x, h⟩ → Dr b (fun l => l.length ≤ 5 ∧ ∀ m ∈ l, drMatch m) (m_s_l15List_l1 N c n s k x h) := by
    intro n
    induction n with
    | zero => intro s k x h h0 h1; omega
    | succ n ih =>
      intro s k x h h0 h1 h2 hs gx
      simp only [m_s_l15List_l1]
      refine .ite (fun hk => ?_) (fun _ => .ret gx ⟨by omega, hs⟩)
      have hk := of_decide_eq_true hk
      refine (match_d hN hb gx).bind fun w f gf q => .bindO (app_sm (by omega) (by simp)) ?_
      rw [wrm hk (by omega)]
      exact ih _ (k - 1) _ _ (by omega) (by omega) (by simp; omega) (mem_snoc hs q) (gf.at (c := ⟨c.b, x, h⟩) gx.1)
  exact lp N [] v _ _ hv.1 (by omega) (by simp; omega) (by simp) (ge.at g.1)
end Go.Proofs.Ytjhlmnbkfdkmpaa
