/- Plain laws: draws: matches. -/
import Derived.Test.YtjhlmnbkfdkmpaaSDC
namespace Go.Proofs.Ytjhlmnbkfdkmpaa
open Eng
set_option linter.unusedVariables false
set_option linter.unusedSimpArgs false
def drMatch (m : TMatch) : Prop := m.Ids.length ≤ 4 ∧ m.Binds = [] ∧ 0 ≤ m.Rule ∧ m.Rule ≤ 2
theorem match_d {N : Nat} (hN : 1099000000000 ≤ N) {b : List Int} (hb : b.length ≤ 1048576) {c : Tl1Cur} (g : GC b c) : Dr b drMatch (m_s_l11Match N c) := by
  unfold m_s_l11Match
  refine (below_d hb g 3 (by omega)).bind fun r d gd hr => (below_d hb (gd.at g.1) 4 (by omega)).bind fun v e ge hv => ?_
  have lp : ∀ (n : Nat) (s : List Int) (k x h : Int), 0 ≤ k → k < n → s.length + k ≤ 4 → GC b ⟨c.b, x, h⟩ → Dr b drMatch (m_s_l11Match_l1 N c (r, d) n s k x h) := by
    intro n
    induction n with
    | zero => intro s k x h h0 h1; omega
    | succ n ih =>
      intro s k x h h0 h1 h2 gx
      simp only [m_s_l11Match_l1]
      refine .ite (fun hk => ?_) (fun _ => .ret gx ⟨by dsimp only; omega, rfl, hr.1, by dsimp only; omega⟩)
      have hk := of_decide_eq_true hk
      refine (below_d hb gx 3 (by omega)).bind fun w f gf _ => .bindO (app_sm (by omega) (by simp)) ?_
      rw [wrm hk (by omega)]
      exact ih _ (k - 1) _ _ (by omega) (by omega) (by simp; omega) (gf.at (c := ⟨c.b, x, h⟩) gx.1)
  exact lp N [] v _ _ hv.1 (by omega) (by simp; omega) (ge.at g.1)
end Go.Proofs.Ytjhlmnbkfdkmpaa
