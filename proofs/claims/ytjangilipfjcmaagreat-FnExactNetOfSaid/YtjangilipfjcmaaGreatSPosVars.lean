/- Plain laws: the variables of rules, as the program finds them. -/
import Derived.Test.YtjangilipfjcmaaGreatSPosVarsS
import Derived.Test.YtjangilipfjcmaaGreatSOnceI
namespace Go.Proofs.YtjangilipfjcmaaGreat
open Eng
set_option linter.unusedVariables false
set_option linter.unusedSimpArgs false

theorem addVars_i {N : Nat} (hN : 1099000000000 ≤ N) (l : List TArg) (s : List ByteArray) (hl : s.length + l.length ≤ 4294967290) : m_i_addVars N s l = some ((argVars l).foldl once s) := by
  unfold m_i_addVars
  refine lp' hN l (by omega) (m_i_addVars_l1 N l) (fun t s => some ((argVars t).foldl once s)) (fun s t => s.length + t.length ≤ 4294967290) s hl (fun n s i x t h1 h2 h3 h4 h5 h6 hI ih => ?_) (fun n s i h1 h2 hI => ?_)
  · simp only [List.length_cons] at hI
    simp only [m_i_addVars_l1, h5, if_true, h4, Option.bind_some, h6, argVars, addOnce hN s x.S (by omega)]
    by_cases h : x.K = 1
    · simp only [h, decide_true, if_true, List.foldl_cons]
      exact ih _ (by have := once_len s x.S; omega)
    · simp only [h, decide_false, Bool.false_eq_true, if_false]
      exact ih _ (by omega)
  · simp only [m_i_addVars_l1, h2, Bool.false_eq_true, if_false]; rfl
theorem posVars_i {N : Nat} (hN : 1099000000000 ≤ N) (r : TRule) (hl : r.Pats.length ≤ 1048576) (ha : nArgs r.Pats ≤ 1048576) : m_i_PosVars N r = some ((posNames r.Pats).foldl once []) := by
  unfold m_i_PosVars
  refine lp' hN r.Pats (by omega) (m_i_PosVars_l1 N r) (fun t s => some ((posNames t).foldl once s)) (fun s t => s.length + nArgs t ≤ 4294967290) [] (by simp; omega) (fun n s i x t h1 h2 h3 h4 h5 h6 hI ih => ?_) (fun n s i h1 h2 hI => ?_)
  · have hI' : s.length + (x.Args.length + nArgs t) ≤ 4294967290 := by simpa [nArgs] using hI
    simp only [m_i_PosVars_l1, h5, if_true, h4, Option.bind_some, h6, posNames, addVars_i hN x.Args s (by omega)]
    cases hx : x.Not with
    | true => simpa using ih s (by omega)
    | false =>
      have h1 := argVars_len x.Args
      have h2 := onces_len (argVars x.Args) s
      simpa [List.foldl_append] using ih _ (show ((argVars x.Args).foldl once s).length + nArgs t ≤ 4294967290 by omega)
  · simp only [m_i_PosVars_l1, h2, Bool.false_eq_true, if_false]; rfl
end Go.Proofs.YtjangilipfjcmaaGreat
