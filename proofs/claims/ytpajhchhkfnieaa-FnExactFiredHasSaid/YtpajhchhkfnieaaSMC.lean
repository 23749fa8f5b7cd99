/- Plain laws: core of FiredHas. -/
import Derived.Test.YtpajhchhkfnieaaPCPur
namespace Go.Proofs.Ytpajhchhkfnieaa
open Eng
set_option linter.unusedVariables false
set_option linter.unusedSimpArgs false

theorem andS (a b : Bool) : (if a = true then some b else some false) = some (a && b) := by cases a <;> rfl
theorem eqInt {N : Nat} (hN : 1048578 ≤ N) (x y : List Int) (hl : x.length ≤ 1048576) : m_sl_Equal_Sint_int N x y = some (decide (x = y)) := by
  unfold m_sl_Equal_Sint_int
  by_cases c : x.length = y.length
  · rw [if_neg (by simp; omega)]
    refine (eqloop (m_sl_Equal_Sint_int_l1 N x y) x y c (by omega) (fun a b => some (decide (a = b))) (fun a _ b _ => rfl) (fun k i => rfl) N 0 (by omega) (by omega)).trans ?_
    simp
  · rw [if_pos (by simp; omega)]
    have : ¬ x = y := fun e => c (by rw [e])
    simp [this]
theorem eqInt' {N : Nat} (hN : 1048578 ≤ N) (x y : List Int) (hl : x.length ≤ 1048576) : m_s_l11Same N x y = some (decide (x = y)) := by
  unfold m_s_l11Same
  by_cases c : x.length = y.length
  · rw [if_neg (by simp; omega)]
    refine (eqloop (m_s_l11Same_l1 N x y) x y c (by omega) (fun a b => some (decide (a = b))) (fun a _ b _ => rfl) (fun k i => rfl) N 0 (by omega) (by omega)).trans ?_
    simp
  · rw [if_pos (by simp; omega)]
    have : ¬ x = y := fun e => c (by rw [e])
    simp [this]
def same (x y : TMatch) : Bool := decide (x.Rule = y.Rule) && decide (x.Ids = y.Ids)
theorem same_i {N : Nat} (hN : 1048578 ≤ N) (x y : TMatch) (h : LimTMatch x) : m_i_FiredHas_c1 N x y = some (same x y) := by
  unfold m_i_FiredHas_c1 m_i_SameMatch same
  simp only [eqInt hN _ _ h.1, Option.bind_some, andS]
theorem same_s {N : Nat} (hN : 1048578 ≤ N) (x y : TMatch) (h : LimTMatch x) : m_s_SameMatch N x y = some (same x y) := by
  unfold m_s_SameMatch same
  simp only [eqInt' hN _ _ h.1, Option.bind_some, andS]

theorem fired_loop {N : Nat} (hN : 1048578 ≤ N) (x : List TMatch) (y : TMatch) (hl : x.length ≤ 1048576) (hx : ∀ m ∈ x, LimTMatch m) : ∀ n i : Nat, i ≤ x.length → x.length - i < n →
    ∃ c, m_sl_IndexFunc_Si_Match_i_Match_l1 N x (fun a0 => m_i_FiredHas_c1 N a0 y) n i = some c ∧ m_s_FiredHas_l1 N x y n i = some (decide (0 ≤ c)) := by
  intro n
  induction n with
  | zero => intro i _ h; omega
  | succ n ih =>
    intro i hi hn
    simp only [m_sl_IndexFunc_Si_Match_i_Match_l1, m_s_FiredHas_l1]
    by_cases hlt : i < x.length
    · have c1 : decide ((i : Int) < (x.length : Int)) = true := by simp; omega
      rw [if_pos c1, if_pos c1, idx_nat_lt hlt]
      simp only [Option.bind_some, same_i hN _ y (hx _ (List.getElem_mem hlt)), same_s hN _ y (hx _ (List.getElem_mem hlt))]
      cases same x[i] y with
      | true => exact ⟨i, rfl, by simp⟩
      | false =>
        simp only [Bool.false_eq_true, if_false]
        rw [wr1 i (by omega)]
        exact ih (i + 1) (by omega) (by omega)
    · have c1 : ¬ decide ((i : Int) < (x.length : Int)) = true := by simp; omega
      rw [if_neg c1, if_neg c1]
      exact ⟨-1, rfl, rfl⟩

theorem c_FiredHas {N : Nat} (hN : 1048578 ≤ N) (x : List TMatch) (y : TMatch) (hx : (x.length : Int) + (x.map totTMatch).sum ≤ 1048576) (hy : totTMatch y ≤ 1048576) : ∃ r, m_s_FiredHas N x y = some r ∧ m_i_FiredHas N x y = some r := by
  have nn : ∀ m ∈ x, 0 ≤ totTMatch m := fun m _ => totTMatch_nn m
  have := sum_nonneg _ _ nn
  have hl : x.length ≤ 1048576 := by omega
  have hL : ∀ m ∈ x, LimTMatch m := fun m hm => LimTMatch_of m (by have := sum_mem _ _ nn m hm; omega)
  obtain ⟨c, h1, h2⟩ := fired_loop hN x y hl hL N 0 (by omega) (by omega)
  refine ⟨_, h2, ?_⟩
  unfold m_i_FiredHas m_sl_ContainsFunc_Si_Match_i_Match m_sl_IndexFunc_Si_Match_i_Match
  rw [show m_sl_IndexFunc_Si_Match_i_Match_l1 N x (fun a0 => m_i_FiredHas_c1 N a0 y) N 0 = _ from h1]
  rfl
end Go.Proofs.Ytpajhchhkfnieaa
