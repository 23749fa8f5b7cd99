/- Plain laws: the core of Compute. -/
import Derived.Test.YtmhckcoabhahpaaSW
namespace Go.Proofs.Ytmhckcoabhahpaa
open Eng
set_option linter.unusedVariables false
set_option linter.unusedSimpArgs false

theorem bindOf (N : Nat) (p0 : List TBind) (p1 : ByteArray) : m_s_BindOf N p0 p1 = m_i_BindOf N p0 p1 := by
  unfold m_s_BindOf m_i_BindOf
  have : ∀ n i, m_s_BindOf_l1 N p0 p1 n i = m_i_BindOf_l1 N p0 p1 n i := by
    intro n
    induction n with
    | zero => intro i; rfl
    | succ n ih =>
      intro i
      simp only [m_s_BindOf_l1, m_i_BindOf_l1, ih]
      split
      · cases idx p0 i with
        | none => rfl
        | some b => rfl
      · rfl
  exact this N 0
theorem bindOf_some {N : Nat} (hN : 1048578 ≤ N) (p0 : List TBind) (p1 : ByteArray) (hl : p0.length ≤ 1048576) (P : TVal → Prop) (hz : P ⟨0, 0, ⟨#[]⟩⟩) (hp : ∀ b ∈ p0, P b.V) : ∃ v b, m_i_BindOf N p0 p1 = some (v, b) ∧ P v ∧ (b = false → v = ⟨0, 0, ⟨#[]⟩⟩) := by
  unfold m_i_BindOf
  have : ∀ n i : Nat, i ≤ p0.length → p0.length - i < n → ∃ v b, m_i_BindOf_l1 N p0 p1 n i = some (v, b) ∧ P v ∧ (b = false → v = ⟨0, 0, ⟨#[]⟩⟩) := by
    intro n
    induction n with
    | zero => intro i _ h; omega
    | succ n ih =>
      intro i hi hn
      simp only [m_i_BindOf_l1]
      by_cases hlt : i < p0.length
      · rw [if_pos (by simp; omega), idx_nat_lt hlt, Option.bind_some]
        split
        · exact ⟨_, _, rfl, hp _ (List.getElem_mem hlt), fun h => by cases h⟩
        · rw [wr1 i (by omega)]; exact ih (i + 1) (by omega) (by omega)
      · rw [if_neg (by simp; omega)]
        exact ⟨_, _, rfl, hz, fun _ => rfl⟩
  exact this N 0 (by omega) (by omega)

def zv : TVal := ⟨0, 0, ⟨#[]⟩⟩
theorem argVal_some {N : Nat} (hN : 1048578 ≤ N) (a : TArg) (p : List TBind) (hl : p.length ≤ 1048576) (hs : ∀ b ∈ p, b.V.S.size ≤ 1048576) (ha : a.V.S.size ≤ 1048576) :
    ∃ v b, m_i_ArgVal N a p = some (v, b) ∧ m_s_ArgVal N a p = some (v, b) ∧ v.S.size ≤ 1048576 ∧ (b = false → v = zv) := by
  unfold m_i_ArgVal m_s_ArgVal
  rw [bindOf]
  obtain ⟨v, b, h, hv, hb⟩ := bindOf_some hN p a.S hl (fun v => v.S.size ≤ 1048576) (by decide) hs
  rw [h]
  by_cases h2 : a.K = 2
  · simp only [h2, decide_true, if_true]; exact ⟨_, _, rfl, rfl, ha, fun h => by cases h⟩
  by_cases h1 : a.K = 1
  · simp only [h1, decide_true, if_true]
    exact ⟨v, b, rfl, rfl, hv, hb⟩
  · simp only [h1, h2, decide_false, Bool.false_eq_true, if_false]; exact ⟨_, _, rfl, rfl, by decide, fun _ => rfl⟩

theorem sum_eq {N : Nat} (hN : 1048578 ≤ N) (a b : TVal) (n : Int) (ha : a.S.size ≤ 1048576) (hb : b.S.size ≤ 1048576) :
    m_s_l2Sum N a b n = some (if (decide (a.K = 1) && decide (b.K = 1) && okVal a && okVal b && okVal ⟨1, n, ⟨#[]⟩⟩) = true then (⟨1, n, ⟨#[]⟩⟩, true) else (zv, false)) := by
  unfold m_s_l2Sum
  simp only [val_s hN _ ha, val_s hN _ hb, val_s hN ⟨1, n, ⟨#[]⟩⟩ (Nat.zero_le _), val_i hN _ ha, val_i hN _ hb, val_i hN ⟨1, n, ⟨#[]⟩⟩ (Nat.zero_le _), Option.bind_some, orS]
  cases decide (a.K = 1) <;> cases decide (b.K = 1) <;> cases okVal a <;> cases okVal b <;> cases okVal ⟨1, n, ⟨#[]⟩⟩ <;> rfl
theorem ints_eq {N : Nat} (hN : 1048578 ≤ N) (a b : TVal) (n : Int) (ha : a.S.size ≤ 1048576) (hb : b.S.size ≤ 1048576) :
    ((m_i_areInts N a b).bind fun x1 => (if !x1 then some ((⟨0, 0, (⟨#[]⟩ : ByteArray)⟩ : TVal), false) else ((m_i_intVal N n).bind fun x2 => some (x2.1, x2.2)))) = some (if (decide (a.K = 1) && decide (b.K = 1) && okVal a && okVal b && okVal ⟨1, n, ⟨#[]⟩⟩) = true then (⟨1, n, ⟨#[]⟩⟩, true) else (zv, false)) := by
  unfold m_i_areInts m_i_intVal
  simp only [val_i hN _ ha, val_i hN _ hb, val_i hN ⟨1, n, ⟨#[]⟩⟩ (Nat.zero_le _), Option.bind_some, andS]
  cases decide (a.K = 1) <;> cases decide (b.K = 1) <;> cases okVal a <;> cases okVal b <;> cases okVal ⟨1, n, ⟨#[]⟩⟩ <;> rfl

theorem core_Compute {N : Nat} (hN : 1048578 ≤ N) (e : TExpr) (p : List TBind) (hl : p.length ≤ 1048576) (hs : ∀ b ∈ p, b.V.S.size ≤ 1048576) (h1 : e.L.V.S.size ≤ 1048576) (h2 : e.R.V.S.size ≤ 1048576) : ∃ r, m_s_Compute N e p = some r ∧ m_i_Compute N e p = some r := by
  unfold m_s_Compute m_i_Compute m_s_AddVals m_s_SubVals m_i_AddVals m_i_SubVals
  obtain ⟨v, b, hi, hs', hv, hz⟩ := argVal_some hN e.L p hl hs h1
  obtain ⟨v', b', hi', hs'', hv', hz'⟩ := argVal_some hN e.R p hl hs h2
  simp only [hi, hs', hi', hs'', Option.bind_some, sum_eq hN _ _ _ hv hv', ints_eq hN _ _ _ hv hv', orS, andS]
  cases b with
  | false => rw [hz rfl]; exact ⟨_, rfl, rfl⟩
  | true =>
    cases seq e.Op ⟨#[]⟩ with
    | true => exact ⟨_, rfl, rfl⟩
    | false =>
      cases b' with
      | false => exact ⟨_, rfl, rfl⟩
      | true =>
        cases seq e.Op ⟨#[43]⟩ with
        | true => exact ⟨_, rfl, rfl⟩
        | false => cases seq e.Op ⟨#[45]⟩ <;> exact ⟨_, rfl, rfl⟩

/-! ### The cores, out of the sizes -/
end Go.Proofs.Ytmhckcoabhahpaa
