/- Plain law of FnMatchOrder, and what is drawn as a match. -/
import Derived.Test.YtpajhchhkfnieaaSD
import Derived.Test.YtpajhchhkfnieaaSLess
namespace Go.Proofs.Ytpajhchhkfnieaa
open Eng
set_option linter.unusedVariables false
set_option linter.unusedSimpArgs false

theorem match_ok {N : Nat} (hN : 1099511627776 ≤ N) (b : List Int) (hb : b.length ≤ 1048576) (c : Tl1Cur) (hc : GC b c) : ∃ m d, m_s_l11Match N c = some (m, d) ∧ GC b d ∧ m.Ids.length ≤ 1048576 := by
  unfold m_s_l11Match
  obtain ⟨v1, d1, e1, g1, a1, a2, -⟩ := below_ok (N := N) b hb c hc 3
  simp only [e1, Option.bind_some]
  obtain ⟨v2, d2, e2, g2, b1, b2, -⟩ := below_ok (N := N) b hb ⟨c.b, d1.i, d1.h⟩ ⟨hc.1, g1.2⟩ 4
  simp only [e2, Option.bind_some]
  have : ∀ (n : Nat) (s : List Int) (k i h : Int), 0 ≤ k → k < n → s.length + k ≤ 4 → GC b ⟨c.b, i, h⟩ → ∃ m d, m_s_l11Match_l1 N c (v1, d1) n s k i h = some (m, d) ∧ GC b d ∧ m.Ids.length ≤ 1048576 := by
    intro n
    induction n with
    | zero => intro s k i h h0 h1; omega
    | succ n ih =>
      intro s k i h h0 h1 h2 g
      simp only [m_s_l11Match_l1]
      by_cases hk : 0 < k
      · obtain ⟨v3, d3, e3, g3, c1, c2, -⟩ := below_ok (N := N) b hb ⟨c.b, i, h⟩ g 3
        simp only [hk, decide_true, if_true, e3, Option.bind_some, app_ok (show s.length + [IntKind.i64.wrap (1 + v3)].length ≤ 4294967296 by simp; omega), wrm hk (by omega)]
        exact ih _ (k - 1) _ _ (by omega) (by omega) (by simp; omega) ⟨hc.1, g3.2⟩
      · simp only [hk, decide_false, Bool.false_eq_true, if_false]
        exact ⟨_, _, rfl, g, by simp only; omega⟩
  exact this N [] v2 d2.i d2.h b1 (by have := b2 (by omega); omega) (by have := b2 (by omega); simp; omega) ⟨hc.1, g2.2⟩
theorem once_ok {N : Nat} (b : List Int) (hb : b.length ≤ 1048576) (c : Tl1Cur) (hc : GC b c) (n : Int) : ∃ v d, m_s_l1Once N c n = some (v, d) ∧ GC b d := by
  unfold m_s_l1Once
  obtain ⟨v, d, e, g, -⟩ := below_ok (N := N) b hb c hc n
  simp only [e, Option.bind_some]
  exact ⟨_, _, rfl, hc.1, g.2⟩
theorem two_ok {N : Nat} (hN : 1099511627776 ≤ N) (b : List Int) (hb : b.length ≤ 1048576) : ∃ x y, m_s_DrawSameMatch N b = some (x, y) ∧ x.Ids.length ≤ 1048576 ∧ y.Ids.length ≤ 1048576 := by
  unfold m_s_DrawSameMatch
  obtain ⟨c, e0, g0⟩ := new_ok hN b hb
  simp only [e0, Option.bind_some]
  obtain ⟨m, d, e1, g1, l1⟩ := match_ok hN b hb c g0
  simp only [e1, Option.bind_some]
  obtain ⟨v, d2, e2, g2⟩ := once_ok (N := N) b hb ⟨c.b, d.i, d.h⟩ ⟨g0.1, g1.2⟩ 2
  simp only [e2, Option.bind_some]
  cases v with
  | true => exact ⟨_, _, rfl, l1, l1⟩
  | false =>
    obtain ⟨m', d3, e3, g3, l3⟩ := match_ok hN b hb ⟨c.b, d2.i, d2.h⟩ ⟨g0.1, g2.2⟩
    simp only [e3, Option.bind_some, Bool.false_eq_true, if_false]
    exact ⟨_, _, rfl, l1, l3⟩
theorem law_FnMatchOrder {N : Nat} (hN : 1099511627776 ≤ N) (b : List Int) : m_l_FnMatchOrder N b = some true := by
  unfold m_l_FnMatchOrder m_l_big
  by_cases hb : b.length ≤ 1048576
  · have c1 : decide (1048576 < (b.length : Int)) = false := decide_eq_false (by omega)
    obtain ⟨x, y, e, lx, ly⟩ := two_ok hN b hb
    have hM : 1048578 ≤ N := by omega
    simp only [c1, Option.bind_some, Bool.false_eq_true, if_false, m_s_DrawLessMatch, e, less_i hM x y lx, less_i hM y x ly, same_i hM x y lx, less_s hM x y lx]
    have h1 := less_anti x y
    have h2 := less_tot x y
    revert h1 h2
    cases less x y <;> cases less y x <;> cases same x y <;> simp
  · have c1 : decide (1048576 < (b.length : Int)) = true := decide_eq_true (by omega)
    simp only [c1, Option.bind_some, if_true]
namespace fnMatchOrder
theorem law {x0 : List Int} (w0 : (WfL (WfI .u8)) x0) : m_l_FnMatchOrder 1099511627776 x0 = some true := law_FnMatchOrder (by omega) x0
end fnMatchOrder
end Go.Proofs.Ytpajhchhkfnieaa
