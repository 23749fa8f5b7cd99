/- Plain law: the core of AlphaOf. -/
import Derived.Test.YtpajhchhkfnieaaQBPur
namespace Go.Proofs.Ytpajhchhkfnieaa
open Eng
set_option linter.unusedVariables false
set_option linter.unusedSimpArgs false

theorem app_ok {α : Type} {xs ys : List α} (h : xs.length + ys.length ≤ 4294967296) : app xs ys = some (xs ++ ys) := by unfold app; rw [if_pos h]

theorem alpha_loop {N : Nat} (p : TPat) (hl : p.Args.length ≤ 1048576) : ∀ (n i : Nat) (cs : List TVal) (at_ : List Int), i ≤ p.Args.length → p.Args.length - i < n → cs.length ≤ i → at_.length ≤ i →
    ∃ r, m_s_AlphaOf_l1 N p n cs at_ i = some r ∧ m_i_AlphaOf_l1 N p n cs at_ i = some r ∧ r.Consts.length ≤ p.Args.length ∧ r.At.length ≤ p.Args.length ∧ r.Kind = p.Kind ∧ (r.Consts.map totTVal).sum ≤ (cs.map totTVal).sum + ((p.Args.drop i).map totTArg).sum := by
  intro n
  induction n with
  | zero => intro i _ _ _ h; omega
  | succ n ih =>
    intro i cs at_ hi hn h1 h2
    simp only [m_s_AlphaOf_l1, m_i_AlphaOf_l1]
    by_cases hlt : i < p.Args.length
    · have c1 : decide ((i : Int) < (p.Args.length : Int)) = true := by simp; omega
      simp only [c1, if_true, idx_nat_lt hlt, Option.bind_some]
      rw [List.drop_eq_getElem_cons hlt, List.map_cons, List.sum_cons, wr1 i (by omega)]
      have ht : totTVal p.Args[i].V ≤ totTArg p.Args[i] := by unfold totTArg; omega
      have ht0 := totTVal_nn p.Args[i].V
      by_cases hk : p.Args[i].K = 2
      · simp only [hk, decide_true, if_true]
        have e1 : app cs ([p.Args[i].V] : List TVal) = some (cs ++ [p.Args[i].V]) := app_ok (by simp; omega)
        have e2 : app at_ ([(i : Int)] : List Int) = some (at_ ++ [(i : Int)]) := app_ok (by simp; omega)
        simp only [e1, e2, Option.bind_some]
        obtain ⟨r, a, b, c, d, hk, e⟩ := ih (i + 1) (cs ++ [p.Args[i].V]) (at_ ++ [(i : Int)]) (by omega) (by omega) (by simp; omega) (by simp; omega)
        refine ⟨r, a, b, c, d, hk, ?_⟩
        simp only [List.map_append, List.sum_append, List.map_cons, List.map_nil, List.sum_cons, List.sum_nil] at e
        omega
      · simp only [hk, decide_false, Bool.false_eq_true, if_false]
        obtain ⟨r, a, b, c, d, hk, e⟩ := ih (i + 1) cs at_ (by omega) (by omega) (by omega) (by omega)
        exact ⟨r, a, b, c, d, hk, by omega⟩
    · have c1 : decide ((i : Int) < (p.Args.length : Int)) = false := by simp; omega
      simp only [c1, Bool.false_eq_true, if_false]
      refine ⟨_, rfl, rfl, by simp only; omega, by simp only; omega, rfl, ?_⟩
      have := sum_nonneg totTArg (p.Args.drop i) (fun y _ => totTArg_nn y)
      simp only
      omega

theorem c_AlphaOf {N : Nat} (hN : 1099511627776 ≤ N) (p : TPat) (hp : totTPat p ≤ 1048576) : ∃ r, m_s_AlphaOf N p = some r ∧ m_i_AlphaOf N p = some r ∧ LimTAlpha r ∧ totTAlpha r ≤ 1125899906842624 := by
  unfold totTPat at hp
  have h1 := sum_nonneg totTArg p.Args (fun y _ => totTArg_nn y)
  obtain ⟨r, a, b, c, d, hk, e⟩ := alpha_loop (N := N) p (by omega) N 0 [] [] (by omega) (by omega) (by simp) (by simp)
  refine ⟨r, a, b, ⟨by omega, by omega⟩, ?_⟩
  simp only [List.drop_zero, List.map_nil, List.sum_nil] at e
  unfold totTAlpha
  rw [hk]
  omega
end Go.Proofs.Ytpajhchhkfnieaa
