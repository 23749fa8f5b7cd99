/- Plain laws: the matches of a definition, as the reference finds them. -/
import Derived.Test.YtjhlmnbkfdkmpaaSRows
namespace Go.Proofs.Ytjhlmnbkfdkmpaa
open Eng
set_option linter.unusedVariables false
set_option linter.unusedSimpArgs false
def setRule (i : Nat) (m : TMatch) : TMatch := ⟨(i : Int), m.Ids, m.Binds⟩
/-- The matches of rules from place i on. -/
def allFrom (xs : List TItem) : Nat → List TRule → List TMatch
  | _, [] => []
  | i, r :: t => (rowsOf r xs).map (setRule i) ++ allFrom xs (i + 1) t
theorem rowsOf_len {r : TRule} {s : TStore} (hz : SzRows r s) : (rowsOf r s.Items).length ≤ 1073741824 := by
  have h1 := rowsP_len (finR_len r s.Items) s.Items (r.Pats.take (posCount r.Pats)) [] []
  have h2 := posCount_le r.Pats
  rw [List.length_take, Nat.min_eq_left h2] at h1
  exact Nat.le_trans h1 hz.nm
theorem allFrom_len {xs : List TItem} {M : Nat} : ∀ (t : List TRule) (i : Nat), (∀ r ∈ t, (rowsOf r xs).length ≤ M) → (allFrom xs i t).length ≤ t.length * M
  | [], i, _ => by simp [allFrom]
  | r :: t, i, h => by
    have h1 := allFrom_len t (i + 1) fun y hy => h y (by simp [hy])
    have h2 := h r (by simp)
    unfold allFrom
    rw [List.length_append, List.length_map, List.length_cons, Nat.succ_mul]; omega
theorem all_s {N : Nat} (hN : 1099400000000 ≤ N) (d : TDef) (s : TStore) (hl : d.Rules.length ≤ 1048576) (hz : ∀ r ∈ d.Rules, SzRows r s) (M : Nat) (hM : ∀ r ∈ d.Rules, (rowsOf r s.Items).length ≤ M) (hMl : d.Rules.length * M ≤ 4294967296) : m_s_l11All N d s = some (allFrom s.Items 0 d.Rules) := by
  unfold m_s_l11All
  have lp : ∀ (n i : Nat) (out : List TMatch), i ≤ d.Rules.length → d.Rules.length - i < n → out.length + (d.Rules.length - i) * M ≤ 4294967296 → m_s_l11All_l1 N d s n out i = some (out ++ allFrom s.Items i (d.Rules.drop i)) := by
    intro n
    induction n with
    | zero => intro i _ _ h; omega
    | succ n ih =>
      intro i out hi hn ho
      by_cases hlt : i < d.Rules.length
      · have c1 : decide ((i : Int) < (d.Rules.length : Int)) = true := decide_eq_true (by omega)
        have hr := hz _ (List.getElem_mem hlt)
        have hm := hM _ (List.getElem_mem hlt)
        have hrl := rowsOf_len hr
        rw [List.drop_eq_getElem_cons hlt, allFrom]
        simp only [m_s_l11All_l1, c1, if_true, idx_nat_lt hlt, Option.bind_some, of_s hN _ s hr]
        have ha : (d.Rules.length - i) * M = M + (d.Rules.length - (i + 1)) * M := by
          rw [show d.Rules.length - i = (d.Rules.length - (i + 1)) + 1 by omega, Nat.succ_mul]; omega
        rw [ha] at ho
        have l2 : ∀ (m : Nat) (todo done : List TMatch), todo.length < m → done.length + todo.length = (rowsOf d.Rules[i] s.Items).length → ∀ (u : List TMatch), u.length + todo.length + (d.Rules.length - (i + 1)) * M ≤ 4294967296 →
            m_s_l11All_l2 N (i : Int) (m_s_l11All_l1 N d s n) m u (done ++ todo) (done.length : Int) = some (u ++ todo.map (setRule i) ++ allFrom s.Items (i + 1) (d.Rules.drop (i + 1))) := by
          intro m
          induction m with
          | zero => intro _ _ h; omega
          | succ m ihm =>
            intro todo done hm' hl' u hu
            simp only [m_s_l11All_l2]
            cases todo with
            | nil =>
              have e1 : decide ((done.length : Int) < ((done ++ ([] : List TMatch)).length : Int)) = false := decide_eq_false (by simp)
              rw [e1]
              simp only [Bool.false_eq_true, if_false, wr1 i (by omega)]
              rw [ih (i + 1) u (by omega) (by omega) (by simp at hu; omega)]; simp
            | cons x t =>
              have e1 : decide ((done.length : Int) < ((done ++ x :: t).length : Int)) = true := decide_eq_true (by simp; omega)
              have e2 : idx (done ++ x :: t) (done.length : Int) = some x := by
                rw [idx_nat_lt (show done.length < (done ++ x :: t).length by simp)]; simp
              have hset : (done ++ x :: t).set ((done.length : Int)).toNat (setRule i x) = (done ++ [setRule i x]) ++ t := by
                rw [Int.toNat_natCast, List.set_append_right _ _ (Nat.le_refl _)]; simp
              simp only [List.length_cons] at hm' hl' hu
              rw [e1]
              simp only [if_true, e2, Option.bind_some]
              rw [show (⟨(i : Int), x.Ids, x.Binds⟩ : TMatch) = setRule i x from rfl, app_ok (show u.length + [setRule i x].length ≤ 4294967296 by simp; omega), Option.bind_some, hset, wr1 _ (by omega)]
              have := ihm t (done ++ [setRule i x]) (by omega) (by simp; omega) (u ++ [setRule i x]) (by simp; omega)
              rw [List.length_append, List.length_cons, List.length_nil] at this
              rw [this]; simp
        have := l2 N (rowsOf d.Rules[i] s.Items) [] (by omega) (by simp) out (by omega)
        simp only [List.nil_append, List.length_nil] at this
        rw [show ((0 : Nat) : Int) = 0 from rfl] at this
        rw [this]; simp
      · have c1 : decide ((i : Int) < (d.Rules.length : Int)) = false := decide_eq_false (by omega)
        rw [List.drop_of_length_le (by omega)]
        simp only [m_s_l11All_l1, c1, Bool.false_eq_true, if_false, allFrom, List.append_nil]
  have := lp N 0 [] (by omega) (by omega) (by simpa using hMl)
  simpa using this
end Go.Proofs.Ytjhlmnbkfdkmpaa
