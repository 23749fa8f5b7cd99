/- Plain laws: the variables of arguments, patterns and rules. -/
import Derived.Test.YtjhlmnbkfdkmpaaSOnce
namespace Go.Proofs.Ytjhlmnbkfdkmpaa
open Eng
set_option linter.unusedVariables false
set_option linter.unusedSimpArgs false

/-- The names of the variables among arguments. -/
def argVars : List TArg → List ByteArray
  | [] => []
  | a :: t => if a.K = 1 then a.S :: argVars t else argVars t
theorem argVars_len : ∀ (l : List TArg), (argVars l).length ≤ l.length
  | [] => by simp [argVars]
  | a :: t => by have := argVars_len t; unfold argVars; split <;> simp <;> omega
theorem mem_argVars {x : ByteArray} : ∀ {l : List TArg}, x ∈ argVars l ↔ ∃ a ∈ l, a.K = 1 ∧ a.S = x
  | [] => by simp [argVars]
  | a :: t => by
    unfold argVars
    split
    · rename_i h; simp [mem_argVars, h, eq_comm]
    · rename_i h; simp [mem_argVars, h]
theorem vars_s {N : Nat} (hN : 1099000000000 ≤ N) (p : TPat) (hl : p.Args.length ≤ 1048576) : m_s_VarsOf N p = some ((argVars p.Args).foldl once []) := by
  unfold m_s_VarsOf
  refine lp' hN p.Args (by omega) (m_s_VarsOf_l1 N p) (fun t s => some ((argVars t).foldl once s)) (fun s t => s.length + t.length ≤ 4294967290) [] (by simp; omega) (fun n s i x t h1 h2 h3 h4 h5 h6 hI ih => ?_) (fun n s i h1 h2 hI => ?_)
  · simp only [List.length_cons] at hI
    simp only [m_s_VarsOf_l1, h5, if_true, h4, Option.bind_some, h6, argVars, hasS hN s x.S (by omega)]
    by_cases h : x.K = 1
    · simp only [h, decide_true, if_true, Option.bind_some, List.foldl_cons]
      have := ih (once s x.S) (by have := once_len s x.S; omega)
      unfold once at this ⊢
      by_cases hm : x.S ∈ s
      · simp only [hm, if_true] at this
        simpa [hm] using this
      · simp only [hm, if_false] at this
        simp only [hm, decide_false, Bool.not_false, if_true, app_ok (show s.length + [x.S].length ≤ 4294967296 by simp; omega), Option.bind_some, if_false]
        exact this
    · simp only [h, decide_false, Bool.false_eq_true, if_false, Option.bind_some]
      exact ih _ (by omega)
  · simp only [m_s_VarsOf_l1, h2, Bool.false_eq_true, if_false]; rfl
/-- The names of what patterns bind that are not Not. -/
def posNames : List TPat → List ByteArray
  | [] => []
  | p :: t => if p.Not then posNames t else argVars p.Args ++ posNames t
def nArgs (l : List TPat) : Nat := (l.map fun p => p.Args.length).sum
theorem posNames_len : ∀ (l : List TPat), (posNames l).length ≤ nArgs l
  | [] => by simp [posNames, nArgs]
  | p :: t => by
    have h1 := posNames_len t
    have h2 := argVars_len p.Args
    have h3 : nArgs (p :: t) = p.Args.length + nArgs t := by simp [nArgs]
    rw [h3]
    unfold posNames
    split
    · omega
    · rw [List.length_append]; omega
theorem posVars_s {N : Nat} (hN : 1099000000000 ≤ N) (r : TRule) (hl : r.Pats.length ≤ 1048576) (ha : nArgs r.Pats ≤ 1048576) (hp : ∀ p ∈ r.Pats, p.Args.length ≤ 1048576) : m_s_PosVars N r = some ((posNames r.Pats).foldl once []) := by
  unfold m_s_PosVars
  refine lp' hN r.Pats (by omega) (m_s_PosVars_l1 N r) (fun t s => some ((posNames t).foldl once s)) (fun s t => s.length + nArgs t ≤ 4294967290) [] (by simp; omega) (fun n s i x t h1 h2 h3 h4 h5 h6 hI ih => ?_) (fun n s i h1 h2 hI => ?_)
  · have hI' : s.length + (x.Args.length + nArgs t) ≤ 4294967290 := by simpa [nArgs] using hI
    have hpx := hp x h2
    simp only [m_s_PosVars_l1, h5, if_true, h4, Option.bind_some, vars_s hN x hpx, posNames]
    have hvl := onces_len (argVars x.Args) []
    have hal := argVars_len x.Args
    simp only [List.length_nil, Nat.zero_add] at hvl
    have key : m_s_PosVars_l2 N r i (m_s_PosVars_l1 N r n) ((argVars x.Args).foldl once []) N s 0 = if x.Not then some ((posNames t).foldl once s) else some ((posNames t).foldl once (((argVars x.Args).foldl once []).foldl once s)) := by
      cases hx : x.Not with
      | true =>
        obtain ⟨m, rfl⟩ : ∃ m, N = m + 1 := ⟨N - 1, by omega⟩
        have ih0 := ih s (by omega)
        simp only [m_s_PosVars_l2, h4, Option.bind_some, hx, Bool.not_true, h6, ih0]
        split <;> rfl
      | false =>
        refine lp' hN ((argVars x.Args).foldl once []) (by omega) (m_s_PosVars_l2 N r i (m_s_PosVars_l1 N r n) ((argVars x.Args).foldl once [])) (fun u s => some ((posNames t).foldl once (u.foldl once s))) (fun s u => s.length + u.length + nArgs t ≤ 4294967290) s (by omega) (fun n' s' i' y u g1 g2 g3 g4 g5 g6 gI gih => ?_) (fun n' s' i' g1 g2 gI => ?_)
        · simp only [List.length_cons] at gI
          simp only [m_s_PosVars_l2, g5, if_true, h4, Option.bind_some, hx, Bool.not_false, g4, hasS hN s' y (by omega), List.foldl_cons, g6]
          have := gih (once s' y) (by have := once_len s' y; omega)
          unfold once at this ⊢
          by_cases hm : y ∈ s'
          · simp only [hm, if_true] at this
            simpa [hm] using this
          · simp only [hm, if_false] at this
            simp only [hm, decide_false, Bool.not_false, if_true, app_ok (show s'.length + [y].length ≤ 4294967296 by simp; omega), Option.bind_some, if_false]
            exact this
        · simp only [m_s_PosVars_l2, g2, Bool.false_eq_true, if_false, Option.bind_some, h6]
          exact ih s' (by simp at gI; omega)
    rw [show (m_s_PosVars_l2 N r i (m_s_PosVars_l1 N r n) ((argVars x.Args).foldl once []) N s 0) = _ from key]
    cases hx : x.Not with
    | true => simp
    | false => simp [List.foldl_append, onces_dedup]
  · simp only [m_s_PosVars_l1, h2, Bool.false_eq_true, if_false]; rfl
def bound (r : TRule) : List ByteArray := (posNames r.Pats).foldl once []
theorem bound_len {r : TRule} (h : nArgs r.Pats ≤ 1048576) : (bound r).length ≤ 1048576 := by
  have h1 := onces_len (posNames r.Pats) []
  have h2 := posNames_len r.Pats
  unfold bound; simp at h1; omega
end Go.Proofs.Ytjhlmnbkfdkmpaa
