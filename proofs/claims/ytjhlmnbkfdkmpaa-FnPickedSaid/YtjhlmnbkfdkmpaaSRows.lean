/- Plain laws: the matches of a rule, as the reference finds them. -/
import Derived.Test.YtjhlmnbkfdkmpaaSBlocked
import Derived.Test.YtjhlmnbkfdkmpaaSHold
import Derived.Test.YtjhlmnbkfdkmpaaSCount
import Derived.Test.YtjhlmnbkfdkmpaaSSum
namespace Go.Proofs.Ytjhlmnbkfdkmpaa
open Eng
set_option linter.unusedVariables false
set_option linter.unusedSimpArgs false

/-- All matches that begin with these Ids: one item for each pattern left. -/
def rowsP (fin : List Int → List TBind → List TMatch) (xs : List TItem) : List TPat → List Int → List TBind → List TMatch
  | [], ids, l => fin ids l
  | p :: t, ids, l => xs.flatMap fun x => if (matchPat p x.F l).2 = true then rowsP fin xs t (ids ++ [x.Id]) (matchPat p x.F l).1 else []
def finR (r : TRule) (xs : List TItem) (ids : List Int) (l : List TBind) : List TMatch := if (!blocked r.Pats xs l && r.Conds.all fun c => holds c l) = true then [⟨0, ids, l⟩] else []
def rowsOf (r : TRule) (xs : List TItem) : List TMatch := rowsP (finR r xs) xs (r.Pats.take (posCount r.Pats)) [] []
theorem flatMap_len {α β : Type} {f : α → List β} {M : Nat} : ∀ (l : List α), (∀ x ∈ l, (f x).length ≤ M) → (l.flatMap f).length ≤ l.length * M
  | [], _ => by simp
  | x :: t, h => by
    have h1 := flatMap_len t fun y hy => h y (by simp [hy])
    have h2 := h x (by simp)
    rw [List.flatMap_cons, List.length_append, List.length_cons, Nat.succ_mul]; omega
theorem rowsP_len {fin : List Int → List TBind → List TMatch} (hf : ∀ ids l, (fin ids l).length ≤ 1) (xs : List TItem) : ∀ (ps : List TPat) (ids : List Int) (l : List TBind), (rowsP fin xs ps ids l).length ≤ xs.length ^ ps.length
  | [], ids, l => by simpa [rowsP] using hf ids l
  | p :: t, ids, l => by
    unfold rowsP
    rw [List.length_cons, Nat.pow_succ, Nat.mul_comm]
    refine flatMap_len xs fun x hx => ?_
    split
    · exact rowsP_len hf xs t _ _
    · exact Nat.zero_le _
theorem finR_len (r : TRule) (xs : List TItem) (ids : List Int) (l : List TBind) : (finR r xs ids l).length ≤ 1 := by unfold finR; split <;> simp
/-- Sizes that the rows of a rule need. -/
structure SzRows (r : TRule) (s : TStore) : Prop where
  pl : r.Pats.length ≤ 1048576
  pa : ∀ p ∈ r.Pats, p.Args.length ≤ 1048576
  sa : sumArgs r.Pats ≤ 1048576
  cl : r.Conds.length ≤ 1048576
  xl : s.Items.length ≤ 1048576
  nm : s.Items.length ^ posCount r.Pats ≤ 1073741824
theorem rows_s (r : TRule) (s : TStore) (hz : SzRows r s) : ∀ (k N : Nat) (out : List TMatch) (ids : List Int) (l : List TBind), 1099000000001 + k ≤ N → ids.length + k = posCount r.Pats → out.length + s.Items.length ^ k ≤ 4294967296 →
    l.length + sumArgs ((r.Pats.take (posCount r.Pats)).drop ids.length) ≤ 1048576 → m_s_l11Rows N out r s ids l = some (out ++ rowsP (finR r s.Items) s.Items ((r.Pats.take (posCount r.Pats)).drop ids.length) ids l) := by
  have hpc := posCount_le r.Pats
  have hpl := hz.pl
  intro k
  induction k with
  | zero =>
    intro N out ids l hN hk ho hl
    obtain ⟨N, rfl⟩ : ∃ M, N = M + 1 := ⟨N - 1, by omega⟩
    have c1 : decide ((ids.length : Int) = (posCount r.Pats : Int)) = true := decide_eq_true (by omega)
    have e0 : (r.Pats.take (posCount r.Pats)).drop ids.length = [] := List.drop_of_length_le (by rw [List.length_take]; omega)
    rw [e0]
    simp only [m_s_l11Rows, count_s (show 1099000000000 ≤ N by omega) r hz.pl, Option.bind_some, c1, if_true, blocked_s (show 1099000000000 ≤ N by omega) r s l hz.pl hz.pa hz.xl (by omega), holdAll_s (show 1099000000000 ≤ N by omega) r.Conds l (by have := hz.cl; omega) (by omega), andS, rowsP, finR, m_s_l11Rows_j1]
    cases (!blocked r.Pats s.Items l && r.Conds.all fun c => holds c l) with
    | true =>
      simp only [if_true, app_nil (show ids.length ≤ 4294967296 by omega), app_nil (show l.length ≤ 4294967296 by omega), Option.bind_some, app_ok (show out.length + [(⟨0, ids, l⟩ : TMatch)].length ≤ 4294967296 by simp at ho ⊢; omega)]
    | false => simp
  | succ k ih =>
    intro N out ids l hN hk ho hl
    obtain ⟨N, rfl⟩ : ∃ M, N = M + 1 := ⟨N - 1, by omega⟩
    have c1 : decide ((ids.length : Int) = (posCount r.Pats : Int)) = false := decide_eq_false (by omega)
    have hi : ids.length < r.Pats.length := by omega
    have hd : (r.Pats.take (posCount r.Pats)).drop ids.length = r.Pats[ids.length] :: (r.Pats.take (posCount r.Pats)).drop (ids.length + 1) := by
      rw [List.drop_eq_getElem_cons (by rw [List.length_take]; omega), List.getElem_take]
    rw [hd] at hl ⊢
    rw [sumArgs_cons] at hl
    have hpa := hz.pa _ (List.getElem_mem hi)
    simp only [m_s_l11Rows, count_s (show 1099000000000 ≤ N by omega) r hz.pl, Option.bind_some, c1, Bool.false_eq_true, if_false, rowsP]
    have hM : s.Items.length ^ (k + 1) = s.Items.length * s.Items.length ^ k := by rw [Nat.pow_succ, Nat.mul_comm]
    rw [hM] at ho
    have hxl := hz.xl
    refine lp' (show 1099000000000 ≤ N by omega) s.Items (by omega) (fun n (u : List TMatch) i => m_s_l11Rows_l2 N r s ids l (m_s_l11Rows N) n u i) (fun t u => some (u ++ t.flatMap fun x => if (matchPat r.Pats[ids.length] x.F l).2 = true then rowsP (finR r s.Items) s.Items ((r.Pats.take (posCount r.Pats)).drop (ids.length + 1)) (ids ++ [x.Id]) (matchPat r.Pats[ids.length] x.F l).1 else []))
      (fun u t => u.length + t.length * s.Items.length ^ k ≤ 4294967296) out ho (fun n u i x t g1 g2 g3 g4 g5 g6 gI gh => ?_) (fun n u i g1 g2 gI => ?_)
    · rw [List.length_cons, Nat.succ_mul] at gI
      have hml := matchPat_len r.Pats[ids.length] x.F l
      simp only [m_s_l11Rows_l2, g5, if_true, idx_nat_lt hi, g4, Option.bind_some, match_s (show 1099000000000 ≤ N by omega) _ x.F l hpa (by omega), List.flatMap_cons, g6]
      cases hm : (matchPat r.Pats[ids.length] x.F l).2 with
      | true =>
        have hrl := rowsP_len (finR_len r s.Items) s.Items ((r.Pats.take (posCount r.Pats)).drop (ids.length + 1)) (ids ++ [x.Id]) (matchPat r.Pats[ids.length] x.F l).1
        have hdl : ((r.Pats.take (posCount r.Pats)).drop (ids.length + 1)).length = k := by rw [List.length_drop, List.length_take]; omega
        rw [hdl] at hrl
        have hids : (ids ++ [x.Id]).length = ids.length + 1 := by simp
        have := ih N u (ids ++ [x.Id]) (matchPat r.Pats[ids.length] x.F l).1 (by omega) (by omega) (by omega) (by rw [hids]; omega)
        rw [hids] at this
        simp only [if_true, app_nil (show ids.length ≤ 4294967296 by omega), app_ok (show ids.length + [x.Id].length ≤ 4294967296 by simp; omega), Option.bind_some, this, m_s_l11Rows_j3, g6]
        rw [gh _ (by rw [List.length_append]; omega), List.append_assoc]
      | false =>
        simp only [Bool.false_eq_true, if_false, List.nil_append]
        exact gh u (by omega)
    · simp only [m_s_l11Rows_l2, g2, Bool.false_eq_true, if_false]; simp
theorem of_s {N : Nat} (hN : 1099400000000 ≤ N) (r : TRule) (s : TStore) (hz : SzRows r s) : m_s_l11Of N r s = some (rowsOf r s.Items) := by
  unfold m_s_l11Of rowsOf
  have h1 := sumArgs_take (posCount r.Pats) r.Pats
  have h2 := posCount_le r.Pats
  have h3 := hz.pl
  have h4 := hz.sa
  have h5 := hz.nm
  have := rows_s r s hz (posCount r.Pats) N [] [] [] (by omega) (by simp) (by simp; omega) (by simp; omega)
  rw [this]; simp
end Go.Proofs.Ytjhlmnbkfdkmpaa
