/- Plain laws, one after the other: PLUrgent. -/
import Derived.Test.YtmhckcoabhahpaaPLib
import Derived.Test.YtmhckcoabhahpaaWUrgentPur
import Derived.Test.YtmhckcoabhahpaaWUrgentMod
/-
  Plain laws of common loops, for the cores. No program.
-/
namespace Go.Proofs.Ytmhckcoabhahpaa
open Eng
set_option linter.unusedVariables false
set_option linter.unusedSimpArgs false
theorem app_ok {α : Type} {xs ys : List α} (h : xs.length + ys.length ≤ 4294967296) : app xs ys = some (xs ++ ys) := by unfold app; rw [if_pos h]
theorem andS (a b : Bool) : (if a = true then some b else some false) = some (a && b) := by cases a <;> rfl
theorem orS (a b : Bool) : (if a = true then some true else some b) = some (a || b) := by cases a <;> rfl
end Go.Proofs.Ytmhckcoabhahpaa
/-
  Plain laws of loops over lists, one law for all. No program.
-/
namespace Go.Proofs.Ytmhckcoabhahpaa
open Eng
set_option linter.unusedVariables false
set_option linter.unusedSimpArgs false
/-- A loop over a row from place i on, with a state s, computes G of what is left and s; I is what holds of the state and what is left. -/
theorem lp {σ α β : Type} (xs : List α) (hl : xs.length ≤ 4294967296) (f : Nat → σ → Int → Option β) (G : List α → σ → Option β) (I : σ → List α → Prop)
    (hs : ∀ n s (i : Nat) (x : α) (t : List α), xs.drop i = x :: t → x ∈ xs → i < xs.length → idx xs (i : Int) = some x → decide ((i : Int) < (xs.length : Int)) = true → IntKind.i64.wrap ((i : Int) + 1) = ((i + 1 : Nat) : Int) → I s (x :: t) →
      (∀ s', I s' t → f n s' ((i + 1 : Nat) : Int) = G t s') → f (n + 1) s i = G (x :: t) s)
    (he : ∀ n s (i : Nat), i = xs.length → decide ((i : Int) < (xs.length : Int)) = false → I s [] → f (n + 1) s i = G [] s) :
    ∀ (n i : Nat) (s : σ), i ≤ xs.length → xs.length - i < n → I s (xs.drop i) → f n s i = G (xs.drop i) s := by
  intro n
  induction n with
  | zero => intro i s _ h; omega
  | succ n ih =>
    intro i s hi hn hI
    by_cases hlt : i < xs.length
    · have hd := List.drop_eq_getElem_cons hlt
      rw [hd] at hI ⊢
      exact hs n s i _ _ hd (List.getElem_mem hlt) hlt (idx_nat_lt hlt) (decide_eq_true (by omega)) (wr1 i (by omega)) hI (fun s' hs' => ih (i + 1) s' (by omega) (by omega) hs')
    · have hd : xs.drop i = [] := List.drop_of_length_le (by omega)
      rw [hd] at hI ⊢
      exact he n s i (by omega) (decide_eq_false (by omega)) hI
/-- The same from the start. -/
theorem lp' {σ α β : Type} {N : Nat} (hN : 1099000000000 ≤ N) (xs : List α) (hl : xs.length ≤ 4294967296) (f : Nat → σ → Int → Option β) (G : List α → σ → Option β) (I : σ → List α → Prop) (s : σ) (h0 : I s xs)
    (hs : ∀ n s (i : Nat) (x : α) (t : List α), xs.drop i = x :: t → x ∈ xs → i < xs.length → idx xs (i : Int) = some x → decide ((i : Int) < (xs.length : Int)) = true → IntKind.i64.wrap ((i : Int) + 1) = ((i + 1 : Nat) : Int) → I s (x :: t) →
      (∀ s', I s' t → f n s' ((i + 1 : Nat) : Int) = G t s') → f (n + 1) s i = G (x :: t) s)
    (he : ∀ n s (i : Nat), i = xs.length → decide ((i : Int) < (xs.length : Int)) = false → I s [] → f (n + 1) s i = G [] s) : f N s 0 = G xs s := by
  have := lp xs hl f G I hs he N 0 s (by omega) (by omega) (by simpa using h0)
  simpa using this
/-- A loop without a state. -/
theorem lp0 {α β : Type} {N : Nat} (hN : 1099000000000 ≤ N) (xs : List α) (hl : xs.length ≤ 4294967296) (f : Nat → Int → Option β) (G : List α → Option β)
    (hs : ∀ n (i : Nat) (x : α) (t : List α), xs.drop i = x :: t → x ∈ xs → i < xs.length → idx xs (i : Int) = some x → decide ((i : Int) < (xs.length : Int)) = true → IntKind.i64.wrap ((i : Int) + 1) = ((i + 1 : Nat) : Int) →
      f n ((i + 1 : Nat) : Int) = G t → f (n + 1) i = G (x :: t))
    (he : ∀ n (i : Nat), i = xs.length → decide ((i : Int) < (xs.length : Int)) = false → f (n + 1) i = G []) : f N 0 = G xs := by
  have := lp' (σ := Unit) hN xs hl (fun n _ i => f n i) (fun t _ => G t) (fun _ _ => True) () trivial (fun n _ i x t h1 h2 h3 h4 h5 h6 _ h8 => hs n i x t h1 h2 h3 h4 h5 h6 (h8 () trivial)) (fun n _ i h1 h2 _ => he n i h1 h2)
  simpa using this
theorem orNB (a b : Bool) : (if (!a) = true then some true else some b) = some (!a || b) := by cases a <;> rfl
end Go.Proofs.Ytmhckcoabhahpaa
namespace Go.Proofs.Ytmhckcoabhahpaa
open Eng
set_option linter.unusedVariables false
set_option linter.unusedSimpArgs false
instance memDec (v : ByteArray) (xs : List ByteArray) : Decidable (v ∈ xs) := @List.instDecidableMemOfLawfulBEq _ instBEqOfDecidableEq _ v xs
theorem hasS {N : Nat} (hN : 1099000000000 ≤ N) (xs : List ByteArray) (v : ByteArray) (hl : xs.length ≤ 4294967296) : m_s_l6Has N xs v = some (decide (v ∈ xs)) := by
  unfold m_s_l6Has
  refine lp0 hN xs hl _ (fun t => some (decide (v ∈ t))) (fun n i x t h1 h2 h3 h4 h5 h6 h7 => ?_) (fun n i h1 h2 => ?_)
  · simp only [m_s_l6Has_l1, h5, if_true, h4, Option.bind_some, h6, h7, seq_eq]
    by_cases h : x = v
    · simp [h]
    · have h' : ¬ v = x := fun e => h e.symm
      simp [h, h']
  · simp only [m_s_l6Has_l1, h2, Bool.false_eq_true, if_false]; simp
/-- v at the end, if it is not there yet. -/
def once (s : List ByteArray) (v : ByteArray) : List ByteArray := if v ∈ s then s else s ++ [v]
theorem once_len (s : List ByteArray) (v : ByteArray) : (once s v).length ≤ s.length + 1 := by unfold once; split <;> simp
theorem mem_once {s : List ByteArray} {v x : ByteArray} : x ∈ once s v ↔ x ∈ s ∨ x = v := by
  unfold once; split
  · rename_i h
    constructor
    · exact .inl
    · rintro (h' | rfl)
      · exact h'
      · exact h
  · simp
theorem mem_onces {x : ByteArray} : ∀ {vs s : List ByteArray}, x ∈ vs.foldl once s ↔ x ∈ s ∨ x ∈ vs
  | [], s => by simp
  | v :: vs, s => by rw [List.foldl_cons, mem_onces, mem_once, List.mem_cons, or_assoc]
theorem once_old {s : List ByteArray} {v : ByteArray} (h : v ∈ s) : once s v = s := by unfold once; rw [if_pos h]
theorem onces_len : ∀ (vs s : List ByteArray), (vs.foldl once s).length ≤ s.length + vs.length
  | [], s => by simp
  | v :: vs, s => by have := onces_len vs (once s v); have := once_len s v; simp only [List.foldl_cons, List.length_cons]; omega
theorem onces_once (s u : List ByteArray) (v : ByteArray) : (once u v).foldl once s = once (u.foldl once s) v := by
  by_cases h : v ∈ u
  · rw [once_old h, once_old (mem_onces.2 (.inr h))]
  · have : once u v = u ++ [v] := by unfold once; rw [if_neg h]
    rw [this, List.foldl_append]; rfl
theorem onces_onces : ∀ (vs u s : List ByteArray), (vs.foldl once u).foldl once s = vs.foldl once (u.foldl once s)
  | [], u, s => rfl
  | v :: vs, u, s => by rw [List.foldl_cons, onces_onces vs (once u v) s, onces_once, List.foldl_cons]
/-- Doubles taken out beforehand change nothing. -/
theorem onces_dedup (vs s : List ByteArray) : (vs.foldl once []).foldl once s = vs.foldl once s := onces_onces vs [] s
end Go.Proofs.Ytmhckcoabhahpaa
namespace Go.Proofs.Ytmhckcoabhahpaa
open Eng
set_option linter.unusedVariables false
set_option linter.unusedSimpArgs false
/-- The names of the variables among arguments. -/
def argVars : List TArg → List ByteArray
  | [] => []
  | a :: t => if a.K = 1 then a.S :: argVars t else argVars t
theorem argVars_len : ∀ (l : List TArg), (argVars l).length ≤ l.length
  | [] => by simp [argVars]
  | a :: t => by have := argVars_len t; unfold argVars; split <;> simp <;> omega
theorem vars_s {N : Nat} (hN : 1099000000000 ≤ N) (p : TPat) (hl : p.Args.length ≤ 1048576) : m_s_VarsOf N p = some ((argVars p.Args).foldl once []) := by
  unfold m_s_VarsOf
  refine lp' hN p.Args (by omega) (m_s_VarsOf_l1 N p) (fun t s => some ((argVars t).foldl once s)) (fun s t => s.length + t.length ≤ 4294967290) [] (by simp; omega) (fun n s i x t h1 h2 h3 h4 h5 h6 hI ih => ?_) (fun n s i h1 h2 hI => ?_)
  · simp only [List.length_cons] at hI
    simp only [m_s_VarsOf_l1, h5, if_true, h4, Option.bind_some, h6, argVars, hasS hN s x.S (by omega)]
    by_cases h : x.K = 1
    · simp only [h, decide_true, if_true, Option.bind_some, List.foldl_cons]
      have := ih (once s x.S) (by have := once_len s x.S; omega)
      unfold once at this ⊢
      by_cases hm : x.S ∈ s
      · simp only [hm, if_true] at this
        simpa [hm] using this
      · simp only [hm, if_false] at this
        simp only [hm, decide_false, Bool.not_false, if_true, app_ok (show s.length + [x.S].length ≤ 4294967296 by simp; omega), Option.bind_some, if_false]
        exact this
    · simp only [h, decide_false, Bool.false_eq_true, if_false, Option.bind_some]
      exact ih _ (by omega)
  · simp only [m_s_VarsOf_l1, h2, Bool.false_eq_true, if_false]; rfl
/-- The names of what patterns bind that are not Not. -/
def posNames : List TPat → List ByteArray
  | [] => []
  | p :: t => if p.Not then posNames t else argVars p.Args ++ posNames t
def nArgs (l : List TPat) : Nat := (l.map fun p => p.Args.length).sum
theorem posNames_len : ∀ (l : List TPat), (posNames l).length ≤ nArgs l
  | [] => by simp [posNames, nArgs]
  | p :: t => by
    have h1 := posNames_len t
    have h2 := argVars_len p.Args
    have h3 : nArgs (p :: t) = p.Args.length + nArgs t := by simp [nArgs]
    rw [h3]
    unfold posNames
    split
    · omega
    · rw [List.length_append]; omega
theorem posVars_s {N : Nat} (hN : 1099000000000 ≤ N) (r : TRule) (hl : r.Pats.length ≤ 1048576) (ha : nArgs r.Pats ≤ 1048576) (hp : ∀ p ∈ r.Pats, p.Args.length ≤ 1048576) : m_s_PosVars N r = some ((posNames r.Pats).foldl once []) := by
  unfold m_s_PosVars
  refine lp' hN r.Pats (by omega) (m_s_PosVars_l1 N r) (fun t s => some ((posNames t).foldl once s)) (fun s t => s.length + nArgs t ≤ 4294967290) [] (by simp; omega) (fun n s i x t h1 h2 h3 h4 h5 h6 hI ih => ?_) (fun n s i h1 h2 hI => ?_)
  · have hI' : s.length + (x.Args.length + nArgs t) ≤ 4294967290 := by simpa [nArgs] using hI
    have hpx := hp x h2
    simp only [m_s_PosVars_l1, h5, if_true, h4, Option.bind_some, vars_s hN x hpx, posNames]
    have hvl := onces_len (argVars x.Args) []
    have hal := argVars_len x.Args
    simp only [List.length_nil, Nat.zero_add] at hvl
    have key : m_s_PosVars_l2 N r i (m_s_PosVars_l1 N r n) ((argVars x.Args).foldl once []) N s 0 = if x.Not then some ((posNames t).foldl once s) else some ((posNames t).foldl once (((argVars x.Args).foldl once []).foldl once s)) := by
      cases hx : x.Not with
      | true =>
        obtain ⟨m, rfl⟩ : ∃ m, N = m + 1 := ⟨N - 1, by omega⟩
        have ih0 := ih s (by omega)
        simp only [m_s_PosVars_l2, h4, Option.bind_some, hx, Bool.not_true, h6, ih0]
        split <;> rfl
      | false =>
        refine lp' hN ((argVars x.Args).foldl once []) (by omega) (m_s_PosVars_l2 N r i (m_s_PosVars_l1 N r n) ((argVars x.Args).foldl once [])) (fun u s => some ((posNames t).foldl once (u.foldl once s))) (fun s u => s.length + u.length + nArgs t ≤ 4294967290) s (by omega) (fun n' s' i' y u g1 g2 g3 g4 g5 g6 gI gih => ?_) (fun n' s' i' g1 g2 gI => ?_)
        · simp only [List.length_cons] at gI
          simp only [m_s_PosVars_l2, g5, if_true, h4, Option.bind_some, hx, Bool.not_false, g4, hasS hN s' y (by omega), List.foldl_cons, g6]
          have := gih (once s' y) (by have := once_len s' y; omega)
          unfold once at this ⊢
          by_cases hm : y ∈ s'
          · simp only [hm, if_true] at this
            simpa [hm] using this
          · simp only [hm, if_false] at this
            simp only [hm, decide_false, Bool.not_false, if_true, app_ok (show s'.length + [y].length ≤ 4294967296 by simp; omega), Option.bind_some, if_false]
            exact this
        · simp only [m_s_PosVars_l2, g2, Bool.false_eq_true, if_false, Option.bind_some, h6]
          exact ih s' (by simp at gI; omega)
    rw [show (m_s_PosVars_l2 N r i (m_s_PosVars_l1 N r n) ((argVars x.Args).foldl once []) N s 0) = _ from key]
    cases hx : x.Not with
    | true => simp
    | false => simp [List.foldl_append, onces_dedup]
  · simp only [m_s_PosVars_l1, h2, Bool.false_eq_true, if_false]; rfl
end Go.Proofs.Ytmhckcoabhahpaa
namespace Go.Proofs.Ytmhckcoabhahpaa
open Eng
set_option linter.unusedVariables false
set_option linter.unusedSimpArgs false
/-- How many patterns are not Not. -/
def posCount : List TPat → Nat
  | [] => 0
  | p :: t => if p.Not then posCount t else posCount t + 1
theorem count_s {N : Nat} (hN : 1099000000000 ≤ N) (r : TRule) (hl : r.Pats.length ≤ 1048576) : m_s_PosCount N r = some (posCount r.Pats : Int) := by
  unfold m_s_PosCount
  have := lp' hN r.Pats (by omega) (m_s_PosCount_l1 N r) (fun t s => some (s + (posCount t : Int))) (fun s t => 0 ≤ s ∧ s + t.length ≤ 1048576) (0 : Int) (by simp; omega) (fun n s i x t h1 h2 h3 h4 h5 h6 hI ih => by
    simp only [List.length_cons] at hI
    simp only [m_s_PosCount_l1, h5, if_true, h4, Option.bind_some, h6, posCount]
    cases hx : x.Not with
    | true => simpa using ih s (by omega)
    | false =>
      rw [wr (n := s + 1) (by omega) (by omega)]
      have := ih (s + 1) (by omega)
      simp only [Bool.not_false, if_true, this, Bool.false_eq_true, if_false]
      congr 1; omega) (fun n s i h1 h2 hI => by simp only [m_s_PosCount_l1, h2, Bool.false_eq_true, if_false, posCount]; simp)
  simpa using this
end Go.Proofs.Ytmhckcoabhahpaa
namespace Go.Proofs.Ytmhckcoabhahpaa
open Eng
set_option linter.unusedVariables false
set_option linter.unusedSimpArgs false
def known (vs : List ByteArray) (a : TArg) : Bool := !decide (a.K = 1) || decide (a.S ∈ vs)
theorem known_s {N : Nat} (hN : 1099000000000 ≤ N) (a : TArg) (vs : List ByteArray) (h : vs.length ≤ 4294967296) : m_s_l9Known N a vs = some (known vs a) := by
  unfold m_s_l9Known known
  simp only [hasS hN vs a.S h, Option.bind_some, orNB]
end Go.Proofs.Ytmhckcoabhahpaa
namespace Go.Proofs.Ytmhckcoabhahpaa
open Eng
set_option linter.unusedVariables false
set_option linter.unusedSimpArgs false
def cmp (a b : Int) : Int := if a < b then -1 else if b < a then 1 else 0
theorem cmp_eq (N : Nat) (a b : Int) : m_cmp_Compare_int N a b = some (cmp a b) := by
  unfold m_cmp_Compare_int m_cmp_isNaN_int cmp
  by_cases h1 : a < b
  · simp [h1]
  · by_cases h2 : b < a <;> simp [h1, h2]
theorem or_eq {N : Nat} (hN : 1048578 ≤ N) (a b : Int) : m_cmp_Or_int N [a, b] = some (if a = 0 then b else a) := by
  obtain ⟨n, rfl⟩ : ∃ n, N = n + 3 := ⟨N - 3, by omega⟩
  unfold m_cmp_Or_int
  have w1 : IntKind.i64.wrap ((0 : Int) + 1) = 1 := by decide
  have w2 : IntKind.i64.wrap ((1 : Int) + 1) = 2 := by decide
  have i0 : idx [a, b] 0 = some a := rfl
  have i1 : idx [a, b] 1 = some b := rfl
  have l2 : (([a, b] : List Int).length : Int) = 2 := rfl
  simp only [m_cmp_Or_int_l1, w1, w2, i0, i1, l2, Option.bind_some]
  by_cases ha : a = 0
  · by_cases hb : b = 0 <;> simp [ha, hb]
  · simp [ha]
end Go.Proofs.Ytmhckcoabhahpaa
namespace Go.Proofs.Ytmhckcoabhahpaa
open Eng
set_option linter.unusedVariables false
set_option linter.unusedSimpArgs false
/-- Row by row: the first that differs says. -/
def lexlt : List Int → List Int → Bool
  | a :: x, b :: y => if a = b then lexlt x y else decide (a < b)
  | _, _ => false
def less (x y : TMatch) : Bool := if x.Rule = y.Rule then (if x.Ids.length = y.Ids.length then lexlt x.Ids y.Ids else decide (x.Ids.length < y.Ids.length)) else decide (x.Rule < y.Rule)
theorem lex_tot : ∀ (x y : List Int), x.length = y.length → (lexlt x y || lexlt y x) = !decide (x = y)
  | [], [], _ => by simp [lexlt]
  | [], _ :: _, h => by simp at h
  | _ :: _, [], h => by simp at h
  | a :: x, b :: y, hl => by
    unfold lexlt
    by_cases h : a = b
    · subst h
      simp only [if_true, lex_tot x y (by simpa using hl), List.cons.injEq, true_and]
    · have h' : ¬ b = a := fun e => h e.symm
      simp only [h, h', if_false, List.cons.injEq, false_and, decide_false, Bool.not_false]
      rw [← Bool.decide_or, decide_eq_true_eq]; omega
end Go.Proofs.Ytmhckcoabhahpaa
namespace Go.Proofs.Ytmhckcoabhahpaa
open Eng
set_option linter.unusedVariables false
set_option linter.unusedSimpArgs false
theorem less_loop (N : Nat) (x y : TMatch) (hl : x.Ids.length = y.Ids.length) (hm : x.Ids.length ≤ 1048576) : ∀ n i : Nat, i ≤ x.Ids.length → x.Ids.length - i < n →
    ∃ c, m_sl_Compare_Sint_int_l1 N x.Ids y.Ids n i = some c ∧ m_s_LessMatch_l1 N x y n i = some (decide (c < 0)) := by
  intro n
  induction n with
  | zero => intro i _ h; omega
  | succ n ih =>
    intro i hi hn
    simp only [m_sl_Compare_Sint_int_l1, m_s_LessMatch_l1, cmp_eq, Option.bind_some]
    by_cases hlt : i < x.Ids.length
    · have hlt' : i < y.Ids.length := by omega
      have c1 : decide ((i : Int) < (x.Ids.length : Int)) = true := by simp; omega
      have c2 : ¬ decide ((y.Ids.length : Int) ≤ (i : Int)) = true := by simp; omega
      rw [if_pos c1, if_pos c1, idx_nat_lt hlt, idx_nat_lt hlt']
      simp only [Option.bind_some]
      rw [if_neg c2]
      by_cases he : x.Ids[i] = y.Ids[i]
      · have : cmp x.Ids[i] y.Ids[i] = 0 := by unfold cmp; rw [he]; simp
        have de : decide (cmp x.Ids[i] y.Ids[i] = 0) = true := by rw [this]; rfl
        have dq : decide (x.Ids[i] = y.Ids[i]) = true := by simp [he]
        simp only [de, dq, Bool.not_true, Bool.false_eq_true, if_false]
        rw [wr1 i (by omega)]
        exact ih (i + 1) (by omega) (by omega)
      · by_cases hlt2 : x.Ids[i] < y.Ids[i]
        · have : cmp x.Ids[i] y.Ids[i] = -1 := by unfold cmp; rw [if_pos hlt2]
          simp only [this, he, decide_false, Bool.not_false, if_true, hlt2, decide_true]
          exact ⟨-1, by simp, by simp⟩
        · have : cmp x.Ids[i] y.Ids[i] = 1 := by unfold cmp; rw [if_neg hlt2, if_pos (by omega)]
          simp only [this, he, decide_false, Bool.not_false, if_true, hlt2]
          exact ⟨1, by simp, by simp⟩
    · have c1 : ¬ decide ((i : Int) < (x.Ids.length : Int)) = true := by simp; omega
      have c3 : ¬ decide ((x.Ids.length : Int) < (y.Ids.length : Int)) = true := by simp; omega
      rw [if_neg c1, if_neg c1, if_neg c3]
      exact ⟨0, rfl, rfl⟩
theorem core_LessMatch {N : Nat} (hN : 1048578 ≤ N) (x y : TMatch) (l1 : x.Ids.length ≤ 1048576) : ∃ r, m_s_LessMatch N x y = some r ∧ m_i_LessMatch N x y = some r := by
  unfold m_s_LessMatch m_i_LessMatch m_i_compareMatches
  simp only [cmp_eq, Option.bind_some, or_eq hN]
  by_cases hr : x.Rule = y.Rule
  · have e1 : cmp x.Rule y.Rule = 0 := by unfold cmp; rw [hr]; simp
    have dr : decide (x.Rule = y.Rule) = true := by simp [hr]
    simp only [e1, dr, Bool.not_true, Bool.false_eq_true, if_false, if_true]
    by_cases hl : (x.Ids.length : Int) = (y.Ids.length : Int)
    · have e2 : cmp (x.Ids.length : Int) (y.Ids.length : Int) = 0 := by unfold cmp; rw [hl]; simp
      have dl : decide ((x.Ids.length : Int) = (y.Ids.length : Int)) = true := by simp [hl]
      simp only [e2, dl, decide_true, Bool.not_true, Bool.false_eq_true, if_false, if_true]
      obtain ⟨c, h1, h2⟩ := less_loop N x y (by omega) (by omega) N 0 (by omega) (by omega)
      refine ⟨decide (c < 0), h2, ?_⟩
      unfold m_sl_Compare_Sint_int
      rw [show m_sl_Compare_Sint_int_l1 N x.Ids y.Ids N 0 = _ from h1]; rfl
    · have e2 : decide (cmp (x.Ids.length : Int) (y.Ids.length : Int) = 0) = false := by
        rw [decide_eq_false_iff_not]; unfold cmp; split
        · decide
        · rw [if_pos (by omega)]; decide
      have dl : decide ((x.Ids.length : Int) = (y.Ids.length : Int)) = false := by simp [hl]
      have d3 : decide (cmp (x.Ids.length : Int) (y.Ids.length : Int) < 0) = decide ((x.Ids.length : Int) < (y.Ids.length : Int)) := by
        rw [decide_eq_decide]; unfold cmp; split
        · simp; omega
        · rw [if_pos (by omega)]; simp; omega
      simp only [e2, dl, Bool.not_false, Bool.false_eq_true, if_false, if_true, Option.bind_some, d3]
      exact ⟨_, rfl, rfl⟩
  · have e1 : decide (cmp x.Rule y.Rule = 0) = false := by
      rw [decide_eq_false_iff_not]; unfold cmp; split
      · decide
      · rw [if_pos (by omega)]; decide
    have e1' : ¬ cmp x.Rule y.Rule = 0 := by simpa using e1
    have dr : decide (x.Rule = y.Rule) = false := by simp [hr]
    have d3 : decide (cmp x.Rule y.Rule < 0) = decide (x.Rule < y.Rule) := by
      rw [decide_eq_decide]; unfold cmp; split
      · simp; omega
      · rw [if_pos (by omega)]; simp; omega
    simp only [if_neg e1', e1, dr, Bool.not_false, Bool.false_eq_true, if_false, if_true, Option.bind_some, d3]
    exact ⟨_, rfl, rfl⟩
theorem lex_loop {N : Nat} (x y : TMatch) (hl : x.Ids.length = y.Ids.length) (hm : x.Ids.length ≤ 1048576) : ∀ n i : Nat, i ≤ x.Ids.length → x.Ids.length - i < n → m_s_LessMatch_l1 N x y n i = some (lexlt (x.Ids.drop i) (y.Ids.drop i)) := by
  intro n
  induction n with
  | zero => intro i _ h; omega
  | succ n ih =>
    intro i hi hn
    simp only [m_s_LessMatch_l1]
    by_cases hlt : i < x.Ids.length
    · have c1 : decide ((i : Int) < (x.Ids.length : Int)) = true := decide_eq_true (by omega)
      have hlt' : i < y.Ids.length := by omega
      simp only [c1, if_true, idx_nat_lt hlt, idx_nat_lt hlt', Option.bind_some, wr1 i (by omega)]
      rw [List.drop_eq_getElem_cons hlt, List.drop_eq_getElem_cons hlt', lexlt]
      by_cases he : x.Ids[i] = y.Ids[i]
      · simp only [he, decide_true, Bool.not_true, Bool.false_eq_true, if_false, if_true]
        exact ih (i + 1) (by omega) (by omega)
      · simp only [he, decide_false, Bool.not_false, if_true, if_false]
    · have c1 : decide ((i : Int) < (x.Ids.length : Int)) = false := decide_eq_false (by omega)
      simp only [c1, Bool.false_eq_true, if_false]
      rw [List.drop_of_length_le (by omega), List.drop_of_length_le (by omega)]; rfl
theorem less_s {N : Nat} (hN : 1048578 ≤ N) (x y : TMatch) (h : x.Ids.length ≤ 1048576) : m_s_LessMatch N x y = some (less x y) := by
  unfold m_s_LessMatch less
  by_cases hr : x.Rule = y.Rule
  · by_cases hl : x.Ids.length = y.Ids.length
    · have := lex_loop (N := N) x y hl h N 0 (by omega) (by omega)
      simp only [hr, hl, decide_true, Bool.not_true, Bool.false_eq_true, if_false, if_true]
      simpa using this
    · have c : decide ((x.Ids.length : Int) = (y.Ids.length : Int)) = false := decide_eq_false (by omega)
      simp only [hr, hl, c, decide_true, Bool.not_true, Bool.not_false, Bool.false_eq_true, if_false, if_true]
      congr 1; simp
  · simp [hr]
theorem less_i {N : Nat} (hN : 1048578 ≤ N) (x y : TMatch) (h : x.Ids.length ≤ 1048576) : m_i_LessMatch N x y = some (less x y) := by
  obtain ⟨r, a, b⟩ := core_LessMatch hN x y h
  rw [less_s hN x y h] at a
  rw [b, ← a]
end Go.Proofs.Ytmhckcoabhahpaa
namespace Go.Proofs.Ytmhckcoabhahpaa
open Eng
set_option linter.unusedVariables false
set_option linter.unusedSimpArgs false
theorem eqInt {N : Nat} (hN : 1048578 ≤ N) (x y : List Int) (hl : x.length ≤ 1048576) : m_sl_Equal_Sint_int N x y = some (decide (x = y)) := by
  unfold m_sl_Equal_Sint_int
  by_cases c : x.length = y.length
  · rw [if_neg (by simp; omega)]
    refine (eqloop (m_sl_Equal_Sint_int_l1 N x y) x y c (by omega) (fun a b => some (decide (a = b))) (fun a _ b _ => rfl) (fun k i => rfl) N 0 (by omega) (by omega)).trans ?_
    simp
  · rw [if_pos (by simp; omega)]
    have : ¬ x = y := fun e => c (by rw [e])
    simp [this]
def same (x y : TMatch) : Bool := decide (x.Rule = y.Rule) && decide (x.Ids = y.Ids)
theorem same_i {N : Nat} (hN : 1048578 ≤ N) (x y : TMatch) (h : x.Ids.length ≤ 1048576) : m_i_SameMatch N x y = some (same x y) := by
  unfold m_i_SameMatch same
  simp only [eqInt hN _ _ h, Option.bind_some, andS]
theorem less_tot (x y : TMatch) : (less x y || less y x) = !same x y := by
  unfold less same
  by_cases hr : x.Rule = y.Rule
  · by_cases hl : x.Ids.length = y.Ids.length
    · simp only [hr, hl, if_true, decide_true, Bool.true_and]; exact lex_tot _ _ hl
    · have hl' : ¬ y.Ids.length = x.Ids.length := fun e => hl e.symm
      have hd : ¬ x.Ids = y.Ids := fun e => hl (by rw [e])
      simp only [hr, hl, hl', hd, if_true, if_false, decide_true, decide_false, Bool.true_and, Bool.not_false]
      rw [← Bool.decide_or, decide_eq_true_eq]; omega
  · have hr' : ¬ y.Rule = x.Rule := fun e => hr e.symm
    simp only [hr, hr', if_false, decide_false, Bool.false_and, Bool.not_false]
    rw [← Bool.decide_or, decide_eq_true_eq]; omega
end Go.Proofs.Ytmhckcoabhahpaa
namespace Go.Proofs.Ytmhckcoabhahpaa
open Eng
set_option linter.unusedVariables false
set_option linter.unusedSimpArgs false
def hasR (d : TDef) (m : TMatch) : Bool := decide (0 ≤ m.Rule) && decide (m.Rule < (d.Rules.length : Int))
theorem hasR_i (N : Nat) (d : TDef) (m : TMatch) : m_i_hasRule N d m = some (hasR d m) := by
  unfold m_i_hasRule hasR; simp only [andS, Option.bind_some]
theorem hasR_s (N : Nat) (d : TDef) (m : TMatch) : m_s_l15Rule N d m = some (hasR d m) := by
  unfold m_s_l15Rule hasR; simp only [andS, Option.bind_some]
theorem hasR_idx {d : TDef} {m : TMatch} (h : hasR d m = true) : ∃ r, idx d.Rules m.Rule = some r := by
  unfold hasR at h
  simp only [Bool.and_eq_true, decide_eq_true_eq] at h
  obtain ⟨i, hi⟩ : ∃ i : Nat, m.Rule = (i : Int) := ⟨m.Rule.toNat, by omega⟩
  rw [hi] at h ⊢
  exact ⟨_, idx_nat_lt (by omega)⟩
theorem urgent_eq {N : Nat} (hN : 1099000000000 ≤ N) (d : TDef) (x y : TMatch) (hx : x.Ids.length ≤ 1048576) : ∃ r, m_s_Urgent N d x y = some r ∧ m_i_Urgent N d x y = some r := by
  have hM : 1048578 ≤ N := by omega
  unfold m_s_Urgent m_i_Urgent
  simp only [hasR_i, hasR_s, Option.bind_some, less_s hM x y hx, less_i hM x y hx, orS, andS]
  cases h1 : hasR d x with
  | false => exact ⟨_, rfl, rfl⟩
  | true =>
    cases h2 : hasR d y with
    | false => exact ⟨_, rfl, rfl⟩
    | true =>
      obtain ⟨a, ha⟩ := hasR_idx h1
      obtain ⟨b, hb⟩ := hasR_idx h2
      simp only [ha, hb, Option.bind_some, Bool.not_true, Bool.or_false, Bool.false_eq_true, if_false]
      exact ⟨_, rfl, rfl⟩
end Go.Proofs.Ytmhckcoabhahpaa
namespace Go.Proofs.Ytmhckcoabhahpaa
open Eng
set_option linter.unusedVariables false
set_option linter.unusedSimpArgs false
def salOf (d : TDef) (m : TMatch) : Int := match idx d.Rules m.Rule with | some r => r.Sal | none => 0
def urg (d : TDef) (x y : TMatch) : Bool := (hasR d x && hasR d y) && (decide (salOf d y < salOf d x) || (decide (salOf d x = salOf d y) && less x y))
theorem urg_i {N : Nat} (hN : 1099000000000 ≤ N) (d : TDef) (x y : TMatch) (hx : x.Ids.length ≤ 1048576) : m_i_Urgent N d x y = some (urg d x y) := by
  have hM : 1048578 ≤ N := by omega
  unfold m_i_Urgent urg
  simp only [hasR_i, Option.bind_some, less_i hM x y hx, orS, andS]
  cases h1 : hasR d x with
  | false => rfl
  | true =>
    cases h2 : hasR d y with
    | false => rfl
    | true =>
      obtain ⟨a, ha⟩ := hasR_idx h1
      obtain ⟨b, hb⟩ := hasR_idx h2
      simp only [ha, hb, Option.bind_some, Bool.not_true, Bool.or_false, Bool.false_eq_true, if_false, salOf, Bool.and_self, Bool.true_and]
theorem urg_s {N : Nat} (hN : 1099000000000 ≤ N) (d : TDef) (x y : TMatch) (hx : x.Ids.length ≤ 1048576) : m_s_Urgent N d x y = some (urg d x y) := by
  obtain ⟨r, h1, h2⟩ := urgent_eq hN d x y hx
  rw [h1, ← h2, urg_i hN d x y hx]
end Go.Proofs.Ytmhckcoabhahpaa
namespace Go.Proofs.Ytmhckcoabhahpaa
open Eng
set_option linter.unusedVariables false
set_option linter.unusedSimpArgs false
theorem lex_trans : ∀ (x y z : List Int), lexlt x y = true → lexlt y z = true → x.length = y.length → y.length = z.length → lexlt x z = true
  | [], _, _, h, _, _, _ => by simp [lexlt] at h
  | a :: x, [], _, h, _, _, _ => by simp [lexlt] at h
  | a :: x, b :: y, [], _, h, _, _ => by simp [lexlt] at h
  | a :: x, b :: y, c :: z, h1, h2, l1, l2 => by
    unfold lexlt at h1 h2 ⊢
    by_cases e1 : a = b
    · by_cases e2 : b = c
      · rw [if_pos e1] at h1; rw [if_pos e2] at h2; rw [if_pos (e1.trans e2)]
        exact lex_trans x y z h1 h2 (by simpa using l1) (by simpa using l2)
      · rw [if_neg e2] at h2; rw [if_neg (by omega)]
        simp only [decide_eq_true_eq] at h2 ⊢; omega
    · rw [if_neg e1] at h1
      simp only [decide_eq_true_eq] at h1
      by_cases e2 : b = c
      · rw [if_neg (by omega)]; simp only [decide_eq_true_eq]; omega
      · rw [if_neg e2] at h2
        simp only [decide_eq_true_eq] at h2
        rw [if_neg (by omega)]; simp only [decide_eq_true_eq]; omega
theorem lex_irr : ∀ (x : List Int), lexlt x x = false
  | [] => rfl
  | a :: x => by unfold lexlt; rw [if_pos rfl]; exact lex_irr x
theorem less_irr (x : TMatch) : less x x = false := by
  unfold less; rw [if_pos rfl, if_pos rfl]; exact lex_irr _
theorem less_trans {x y z : TMatch} (h1 : less x y = true) (h2 : less y z = true) : less x z = true := by
  unfold less at h1 h2 ⊢
  by_cases e1 : x.Rule = y.Rule
  · rw [if_pos e1] at h1
    by_cases e2 : y.Rule = z.Rule
    · rw [if_pos e2] at h2
      rw [if_pos (e1.trans e2)]
      by_cases l1 : x.Ids.length = y.Ids.length
      · rw [if_pos l1] at h1
        by_cases l2 : y.Ids.length = z.Ids.length
        · rw [if_pos l2] at h2
          rw [if_pos (l1.trans l2)]
          exact lex_trans _ _ _ h1 h2 l1 l2
        · rw [if_neg l2] at h2
          rw [if_neg (by omega)]
          simp only [decide_eq_true_eq] at h2 ⊢; omega
      · rw [if_neg l1] at h1
        simp only [decide_eq_true_eq] at h1
        by_cases l2 : y.Ids.length = z.Ids.length
        · rw [if_neg (by omega)]; simp only [decide_eq_true_eq]; omega
        · rw [if_neg l2] at h2
          simp only [decide_eq_true_eq] at h2
          rw [if_neg (by omega)]; simp only [decide_eq_true_eq]; omega
    · rw [if_neg e2] at h2
      rw [if_neg (by omega)]
      simp only [decide_eq_true_eq] at h2 ⊢; omega
  · rw [if_neg e1] at h1
    simp only [decide_eq_true_eq] at h1
    by_cases e2 : y.Rule = z.Rule
    · rw [if_neg (by omega)]; simp only [decide_eq_true_eq]; omega
    · rw [if_neg e2] at h2
      simp only [decide_eq_true_eq] at h2
      rw [if_neg (by omega)]; simp only [decide_eq_true_eq]; omega
theorem urg_irr (d : TDef) (x : TMatch) : urg d x x = false := by
  unfold urg; rw [less_irr]; simp
theorem urg_trans {d : TDef} {x y z : TMatch} (h1 : urg d x y = true) (h2 : urg d y z = true) : urg d x z = true := by
  unfold urg at h1 h2 ⊢
  simp only [Bool.and_eq_true, Bool.or_eq_true, decide_eq_true_eq] at h1 h2 ⊢
  obtain ⟨⟨a1, a2⟩, a3⟩ := h1
  obtain ⟨⟨b1, b2⟩, b3⟩ := h2
  refine ⟨⟨a1, b2⟩, ?_⟩
  rcases a3 with a3 | ⟨a3, a4⟩
  · left; rcases b3 with b3 | ⟨b3, b4⟩ <;> omega
  · rcases b3 with b3 | ⟨b3, b4⟩
    · left; omega
    · exact .inr ⟨by omega, less_trans a4 b4⟩
theorem urg_anti (d : TDef) (x y : TMatch) : (urg d x y && urg d y x) = false := by
  cases h1 : urg d x y with
  | false => rfl
  | true =>
    cases h2 : urg d y x with
    | false => rfl
    | true => have := urg_trans h1 h2; rw [urg_irr] at this; cases this
theorem urg_tot {d : TDef} {x y : TMatch} (hx : hasR d x = true) (hy : hasR d y = true) : (urg d x y || urg d y x) = !same x y := by
  have ht := less_tot x y
  have hs : same x y = true → salOf d x = salOf d y := fun h => by
    unfold same at h
    simp only [Bool.and_eq_true, decide_eq_true_eq] at h
    unfold salOf; rw [h.1]
  unfold urg
  rw [hx, hy]
  simp only [Bool.and_self, Bool.true_and]
  by_cases h1 : salOf d x = salOf d y
  · have a1 : decide (salOf d y < salOf d x) = false := decide_eq_false (by omega)
    have a2 : decide (salOf d x < salOf d y) = false := decide_eq_false (by omega)
    rw [a1, a2, decide_eq_true h1, decide_eq_true h1.symm]
    simpa using ht
  · have hn : same x y = false := by
      cases h : same x y with
      | false => rfl
      | true => exact absurd (hs h) h1
    have a1 : decide (salOf d x = salOf d y) = false := decide_eq_false h1
    have a2 : decide (salOf d y = salOf d x) = false := decide_eq_false (fun e => h1 e.symm)
    rw [hn, a1, a2]
    simp only [Bool.false_and, Bool.or_false, Bool.not_false]
    rw [← Bool.decide_or, decide_eq_true_eq]; omega
end Go.Proofs.Ytmhckcoabhahpaa
namespace Go.Proofs.Ytmhckcoabhahpaa
open Eng
set_option linter.unusedVariables false
set_option linter.unusedSimpArgs false
theorem and_le (i : Int) (m : Nat) (h : m < 4611686018427387904) : 0 ≤ andI .i64 i (m : Int) ∧ andI .i64 i (m : Int) ≤ (m : Int) := by
  unfold andI
  have h1 : ((BitVec.ofInt IntKind.i64.bits i) &&& (BitVec.ofInt IntKind.i64.bits (m : Int))).toNat ≤ m := by
    rw [BitVec.toNat_and]
    have h2 : (BitVec.ofInt IntKind.i64.bits (m : Int)).toNat = m := by
      rw [BitVec.toNat_ofInt]
      have : ((2 ^ IntKind.i64.bits : Nat) : Int) = 18446744073709551616 := by decide
      rw [this, Int.emod_eq_of_lt (by omega) (by omega)]
      simp
    rw [h2]; exact Nat.and_le_right
  rw [wr (by omega) (by omega)]
  omega
theorem and255 (i : Int) : 0 ≤ andI .i64 i 255 ∧ andI .i64 i 255 ≤ 255 := and_le i 255 (by omega)
/-- A cursor over the bytes b. -/
def GC (b : List Int) (c : Tl1Cur) : Prop := c.b = b ∧ 0 ≤ c.i ∧ c.i ≤ (b.length : Int)
theorem GC.re {b : List Int} {c d : Tl1Cur} (h : GC b c) (h' : d.b = b) : GC b (⟨d.b, c.i, c.h⟩ : Tl1Cur) := ⟨h', h.2⟩
theorem new_ok {N : Nat} (hN : 1099000000000 ≤ N) (b : List Int) (hb : b.length ≤ 1048576) : ∃ c, m_s_l1New N b = some c ∧ GC b c := by
  unfold m_s_l1New
  have : ∀ (n i : Nat) (h : Int), i ≤ b.length → b.length - i < n → ∃ c, m_s_l1New_l1 N b n h i = some c ∧ GC b c := by
    intro n
    induction n with
    | zero => intro i h _ h'; omega
    | succ n ih =>
      intro i h hi hn
      simp only [m_s_l1New_l1]
      by_cases hlt : i < b.length
      · have c1 : decide ((i : Int) < (b.length : Int)) = true := decide_eq_true (by omega)
        simp only [c1, if_true, Option.bind_some, idx_nat_lt hlt, wr1 i (by omega)]
        split
        · exact ih (i + 1) _ (by omega) (by omega)
        · exact ⟨_, rfl, rfl, by simp, by simp⟩
      · have c1 : decide ((i : Int) < (b.length : Int)) = false := decide_eq_false (by omega)
        simp only [c1, Bool.false_eq_true, if_false, Option.bind_some]
        exact ⟨_, rfl, rfl, by simp, by simp⟩
  exact this N 0 _ (by omega) (by omega)
theorem byte_ok {N : Nat} (b : List Int) (hb : b.length ≤ 1048576) (c : Tl1Cur) (hc : GC b c) : ∃ v d, m_s_l1Byte N c = some (v, d) ∧ GC b d ∧ 0 ≤ v ∧ v ≤ 255 := by
  obtain ⟨rfl, h0, h1⟩ := hc
  unfold m_s_l1Byte
  by_cases hlt : c.i < (c.b.length : Int)
  · obtain ⟨i, hi⟩ : ∃ i : Nat, c.i = (i : Int) := ⟨c.i.toNat, by omega⟩
    have c1 : decide (c.i < (c.b.length : Int)) = true := decide_eq_true hlt
    rw [hi] at h0 h1 hlt ⊢
    rw [hi] at c1
    simp only [c1, if_true, idx_nat_lt (show i < c.b.length by omega), Option.bind_some, wr1 i (by omega)]
    exact ⟨_, _, rfl, ⟨rfl, by simp; omega, by simp; omega⟩, and255 _⟩
  · have c1 : decide (c.i < (c.b.length : Int)) = false := decide_eq_false hlt
    simp only [c1, Bool.false_eq_true, if_false]
    exact ⟨_, _, rfl, ⟨rfl, h0, h1⟩, and255 _⟩
theorem rem_ok {v n : Int} (hv : 0 ≤ v) (hn : 0 < n) : ∃ r, remI v n = some r ∧ 0 ≤ r ∧ r < n := by
  unfold remI
  rw [if_neg (by omega), Int.tmod_eq_emod_of_nonneg hv]
  exact ⟨_, rfl, Int.emod_nonneg _ (by omega), Int.emod_lt_of_pos _ hn⟩
theorem below_ok {N : Nat} (b : List Int) (hb : b.length ≤ 1048576) (c : Tl1Cur) (hc : GC b c) (n : Int) : ∃ v d, m_s_l1Below N c n = some (v, d) ∧ GC b d ∧ 0 ≤ v ∧ (0 < n → v < n) ∧ (n ≤ 0 → v = 0) := by
  unfold m_s_l1Below
  by_cases h0 : n ≤ 0
  · simp only [h0, decide_true, if_true]
    exact ⟨_, _, rfl, hc, by omega, by omega, fun _ => rfl⟩
  · simp only [h0, decide_false, Bool.false_eq_true, if_false]
    by_cases h1 : n ≤ 256
    · simp only [h1, decide_true, if_true]
      obtain ⟨v, d, e, g, a1, a2⟩ := byte_ok (N := N) b hb c hc
      obtain ⟨r, er, r0, r1⟩ := rem_ok a1 (show 0 < n by omega)
      simp only [e, Option.bind_some, er]
      exact ⟨_, _, rfl, g.re hc.1 |> fun _ => ⟨hc.1, g.2⟩, r0, fun _ => r1, fun h => h.elim⟩
    · simp only [h1, decide_false, Bool.false_eq_true, if_false]
      obtain ⟨v1, d1, e1, g1, a1, a1'⟩ := byte_ok (N := N) b hb c hc
      simp only [e1, Option.bind_some]
      obtain ⟨v2, d2, e2, g2, a2, a2'⟩ := byte_ok (N := N) b hb ⟨c.b, d1.i, d1.h⟩ ⟨hc.1, g1.2⟩
      simp only [e2, Option.bind_some]
      obtain ⟨v3, d3, e3, g3, a3, a3'⟩ := byte_ok (N := N) b hb ⟨c.b, d2.i, d2.h⟩ ⟨hc.1, g2.2⟩
      simp only [e3, Option.bind_some]
      rw [wr (n := v1 * 65536) (by omega) (by omega), wr (n := v2 * 256) (by omega) (by omega), wr (n := v1 * 65536 + v2 * 256) (by omega) (by omega), wr (n := v1 * 65536 + v2 * 256 + v3) (by omega) (by omega)]
      obtain ⟨r, er, r0, r1⟩ := rem_ok (show 0 ≤ v1 * 65536 + v2 * 256 + v3 by omega) (show 0 < n by omega)
      simp only [er, Option.bind_some]
      exact ⟨_, _, rfl, ⟨hc.1, g3.2⟩, r0, fun _ => r1, fun h => h.elim⟩
theorem wrm {s : Int} (h : 0 < s) (h' : s ≤ 4611686018427387904) : IntKind.i64.wrap (s - 1) = s - 1 := wr (by omega) (by omega)
end Go.Proofs.Ytmhckcoabhahpaa
namespace Go.Proofs.Ytmhckcoabhahpaa
open Eng
set_option linter.unusedVariables false
set_option linter.unusedSimpArgs false
/-- A draw does not fail; what is drawn has Q. -/
def Dr {α : Type} (b : List Int) (Q : α → Prop) (o : Option (α × Tl1Cur)) : Prop := ∃ v d, o = some (v, d) ∧ GC b d ∧ Q v
theorem Dr.bind {α β : Type} {b : List Int} {Q : α → Prop} {R : β → Prop} {o : Option (α × Tl1Cur)} {f : α × Tl1Cur → Option (β × Tl1Cur)} (h : Dr b Q o) (k : ∀ v d, GC b d → Q v → Dr b R (f (v, d))) : Dr b R (o.bind f) := by
  obtain ⟨v, d, rfl, g, q⟩ := h; exact k v d g q
theorem Dr.bindO {γ β : Type} {b : List Int} {R : β → Prop} {x : γ} {o : Option γ} {f : γ → Option (β × Tl1Cur)} (h : o = some x) (k : Dr b R (f x)) : Dr b R (o.bind f) := by
  rw [h]; exact k
theorem Dr.ret {α : Type} {b : List Int} {Q : α → Prop} {v : α} {c : Tl1Cur} (g : GC b c) (q : Q v) : Dr b Q (some (v, c)) := ⟨v, c, rfl, g, q⟩
theorem Dr.ite {α : Type} {b : List Int} {Q : α → Prop} {x y : Option (α × Tl1Cur)} {p : Bool} (h1 : p = true → Dr b Q x) (h2 : p = false → Dr b Q y) : Dr b Q (if p = true then x else y) := by
  cases p with
  | true => exact h1 rfl
  | false => exact h2 rfl
theorem GC.at {b : List Int} {c d : Tl1Cur} (g : GC b d) (h : c.b = b) : GC b (⟨c.b, d.i, d.h⟩ : Tl1Cur) := ⟨h, g.2⟩
theorem below_d {N : Nat} {b : List Int} (hb : b.length ≤ 1048576) {c : Tl1Cur} (g : GC b c) (n : Int) (hn : 0 < n) : Dr b (fun v => 0 ≤ v ∧ v < n) (m_s_l1Below N c n) := by
  obtain ⟨v, d, e, g, h1, h2, -⟩ := below_ok (N := N) b hb c g n
  exact ⟨v, d, e, g, h1, h2 hn⟩
theorem below_d' {N : Nat} {b : List Int} (hb : b.length ≤ 1048576) {c : Tl1Cur} (g : GC b c) (n : Int) : Dr b (fun v => 0 ≤ v ∧ (0 < n → v < n)) (m_s_l1Below N c n) := by
  obtain ⟨v, d, e, g, h1, h2, -⟩ := below_ok (N := N) b hb c g n
  exact ⟨v, d, e, g, h1, h2⟩
/-- Two rows, the second not long. -/
theorem app_sm {α : Type} {xs ys : List α} (h : xs.length ≤ 4194304) (h' : ys.length ≤ 4194304) : app xs ys = some (xs ++ ys) := app_ok (by omega)
theorem mem_snoc {α : Type} {P : α → Prop} {xs : List α} {x : α} (h : ∀ a ∈ xs, P a) (h' : P x) : ∀ a ∈ xs ++ [x], P a := fun a ha => by
  rcases List.mem_append.1 ha with h1 | h1
  · exact h a h1
  · simp at h1; rw [h1]; exact h'
end Go.Proofs.Ytmhckcoabhahpaa
namespace Go.Proofs.Ytmhckcoabhahpaa
open Eng
theorem once_d {N : Nat} {b : List Int} (hb : b.length ≤ 1048576) {c : Tl1Cur} (g : GC b c) (n : Int) : Dr b (fun _ => True) (m_s_l1Once N c n) := by
  unfold m_s_l1Once
  exact (below_d' hb g n).bind fun v d gd _ => .ret (gd.at g.1) trivial
end Go.Proofs.Ytmhckcoabhahpaa
namespace Go.Proofs.Ytmhckcoabhahpaa
open Eng
theorem str_d {N : Nat} {b : List Int} (hb : b.length ≤ 1048576) {c : Tl1Cur} (g : GC b c) (l : List ByteArray) (h : 0 < l.length) : Dr b (fun s => s ∈ l) (m_s_l1Str N c l) := by
  unfold m_s_l1Str
  refine (below_d hb g (l.length : Int) (by omega)).bind fun v d gd q => ?_
  obtain ⟨j, rfl⟩ : ∃ j : Nat, v = (j : Int) := ⟨v.toNat, by omega⟩
  exact .bindO (idx_nat_lt (show j < l.length by omega)) (.ret (gd.at g.1) (List.getElem_mem _))
end Go.Proofs.Ytmhckcoabhahpaa
namespace Go.Proofs.Ytmhckcoabhahpaa
open Eng
theorem int_d {N : Nat} {b : List Int} (hb : b.length ≤ 1048576) {c : Tl1Cur} (g : GC b c) (l : List Int) (h : 0 < l.length) : Dr b (fun s => s ∈ l) (m_s_l1Int N c l) := by
  unfold m_s_l1Int
  refine (below_d hb g (l.length : Int) (by omega)).bind fun v d gd q => ?_
  obtain ⟨j, rfl⟩ : ∃ j : Nat, v = (j : Int) := ⟨v.toNat, by omega⟩
  exact .bindO (idx_nat_lt (show j < l.length by omega)) (.ret (gd.at g.1) (List.getElem_mem _))
end Go.Proofs.Ytmhckcoabhahpaa
namespace Go.Proofs.Ytmhckcoabhahpaa
open Eng
def drVal (v : TVal) : Prop := (∃ n : Int, 1 ≤ n ∧ n ≤ 3 ∧ v = ⟨1, n, ⟨#[]⟩⟩) ∨ ∃ s ∈ ([⟨#[97]⟩, ⟨#[98]⟩] : List ByteArray), v = ⟨2, 0, s⟩
theorem small_d {N : Nat} {b : List Int} (hb : b.length ≤ 1048576) {c : Tl1Cur} (g : GC b c) : Dr b drVal (m_s_l3Small N c) := by
  unfold m_s_l3Small
  refine (once_d hb g 2).bind fun v d gd _ => .ite (fun _ => ?_) fun _ => ?_
  · exact (below_d hb (gd.at g.1) 3 (by omega)).bind fun w e ge q => .ret (ge.at g.1) (.inl ⟨_, by dsimp only; rw [wr (by omega) (by omega)]; omega, by dsimp only; rw [wr (by omega) (by omega)]; omega, rfl⟩)
  · exact (str_d hb (gd.at g.1) _ (by decide)).bind fun w e ge q => .ret (ge.at g.1) (.inr ⟨w, q, rfl⟩)
end Go.Proofs.Ytmhckcoabhahpaa
namespace Go.Proofs.Ytmhckcoabhahpaa
open Eng
set_option linter.unusedVariables false
def drArg (a : TArg) : Prop := a = ⟨3, ⟨#[]⟩, ⟨0, 0, ⟨#[]⟩⟩⟩ ∨ (∃ v, drVal v ∧ a = ⟨2, ⟨#[]⟩, v⟩) ∨ ∃ s ∈ ([⟨#[88]⟩, ⟨#[89]⟩, ⟨#[90]⟩, ⟨#[88]⟩] : List ByteArray), a = ⟨1, s, ⟨0, 0, ⟨#[]⟩⟩⟩
theorem arg_d {N : Nat} {b : List Int} (hb : b.length ≤ 1048576) {c : Tl1Cur} (g : GC b c) : Dr b drArg (m_s_l6Arg N c) := by
  unfold m_s_l6Arg
  refine (below_d hb g 6 (by omega)).bind fun v d gd _ => .ite (fun _ => .ret (gd.at g.1) (.inl rfl)) fun _ => .ite (fun _ => ?_) fun _ => ?_
  · exact (small_d hb (gd.at g.1)).bind fun w e ge q => .bindO rfl (.ret (ge.at g.1) (.inr (.inl ⟨w, q, rfl⟩)))
  · exact (str_d hb (gd.at g.1) _ (by decide)).bind fun w e ge q => .bindO rfl (.ret (ge.at g.1) (.inr (.inr ⟨w, q, rfl⟩)))
def drPat (n : Bool) (p : TPat) : Prop := p.Not = n ∧ p.Kind ∈ ([⟨#[111, 114, 100, 101, 114]⟩, ⟨#[112, 97, 105, 100]⟩, ⟨#[105, 116, 101, 109]⟩, ⟨#[111, 114, 100, 101, 114]⟩] : List ByteArray) ∧ p.Args.length ≤ 2 ∧ ∀ a ∈ p.Args, drArg a
theorem pat_d {N : Nat} (hN : 1099000000000 ≤ N) {b : List Int} (hb : b.length ≤ 1048576) {c : Tl1Cur} (g : GC b c) (nt : Bool) : Dr b (drPat nt) (m_s_l6Draw N c nt) := by
  unfold m_s_l6Draw
  refine (str_d hb g _ (by decide)).bind fun k d gd hk => ?_
  have lp : ∀ (m : Nat), m ≤ 2 → ∀ (n i : Nat) (s : List TArg) (x h : Int), i ≤ m → m - i < n → s.length = i → (∀ a ∈ s, drArg a) → GC b ⟨c.b, x, h⟩ → Dr b (drPat nt) (m_s_l6Draw_l2 N c nt (k, d) (m : Int) n s (i : Int) x h) := by
    intro m hm n
    induction n with
    | zero => intro i _ _ _ _ h; omega
    | succ n ih =>
      intro i s x h hi hn hs ha gx
      simp only [m_s_l6Draw_l2]
      refine .ite (fun hlt => ?_) (fun hge => .ret gx ⟨rfl, hk, by dsimp only; omega, ha⟩)
      have hlt := of_decide_eq_true hlt
      refine (arg_d hb gx).bind fun a e ge q => .bindO (app_sm (by omega) (by simp)) ?_
      rw [wr1 i (by omega)]
      exact ih (i + 1) _ _ _ (by omega) (by omega) (by simp; omega) (mem_snoc ha q) (ge.at (c := ⟨c.b, x, h⟩) gx.1)
  exact .ite (fun _ => lp 2 (by omega) N 0 [] _ _ (by omega) (by omega) rfl (by simp) (gd.at g.1)) (fun _ => lp 1 (by omega) N 0 [] _ _ (by omega) (by omega) rfl (by simp) (gd.at g.1))
end Go.Proofs.Ytmhckcoabhahpaa
namespace Go.Proofs.Ytmhckcoabhahpaa
open Eng
set_option linter.unusedVariables false
def drTerm (a : TArg) : Prop := (∃ v, drVal v ∧ a = ⟨2, ⟨#[]⟩, v⟩) ∨ ∃ s ∈ ([⟨#[88]⟩, ⟨#[89]⟩, ⟨#[90]⟩, ⟨#[88]⟩] : List ByteArray), a = ⟨1, s, ⟨0, 0, ⟨#[]⟩⟩⟩
theorem term_d {N : Nat} {b : List Int} (hb : b.length ≤ 1048576) {c : Tl1Cur} (g : GC b c) : Dr b drTerm (m_s_l7Arg N c) := by
  unfold m_s_l7Arg
  refine (once_d hb g 3).bind fun v d gd _ => .ite (fun _ => ?_) fun _ => ?_
  · exact (small_d hb (gd.at g.1)).bind fun w e ge q => .bindO rfl (.ret (ge.at g.1) (.inl ⟨w, q, rfl⟩))
  · exact (str_d hb (gd.at g.1) _ (by decide)).bind fun w e ge q => .bindO rfl (.ret (ge.at g.1) (.inr ⟨w, (show ∀ s ∈ ([⟨#[88]⟩, ⟨#[89]⟩] : List ByteArray), s ∈ ([⟨#[88]⟩, ⟨#[89]⟩, ⟨#[90]⟩, ⟨#[88]⟩] : List ByteArray) by simp) w q, rfl⟩))
def drCond (c : TCond) : Prop := 1 ≤ c.Op ∧ c.Op ≤ 3 ∧ drTerm c.L ∧ drTerm c.R
theorem cond_d {N : Nat} {b : List Int} (hb : b.length ≤ 1048576) {c : Tl1Cur} (g : GC b c) : Dr b drCond (m_s_l7Draw N c) := by
  unfold m_s_l7Draw
  refine (below_d hb g 3 (by omega)).bind fun v d gd q => (term_d hb (gd.at g.1)).bind fun l e ge ql => (term_d hb (ge.at g.1)).bind fun r f gf qr => .ret (gf.at g.1) ⟨?_, ?_, ql, qr⟩
  · dsimp only; rw [wr (by omega) (by omega)]; omega
  · dsimp only; rw [wr (by omega) (by omega)]; omega
end Go.Proofs.Ytmhckcoabhahpaa
namespace Go.Proofs.Ytmhckcoabhahpaa
open Eng
set_option linter.unusedVariables false
def noArg : TArg := ⟨0, ⟨#[]⟩, ⟨0, 0, ⟨#[]⟩⟩⟩
/-- An expression whose arguments have T. -/
def exprW (T : TArg → Prop) (e : TExpr) : Prop := T e.L ∧ ((e.Op = ⟨#[]⟩ ∧ e.R = noArg) ∨ e.Op ∈ ([⟨#[43]⟩, ⟨#[45]⟩] : List ByteArray) ∧ T e.R)
theorem expr_d {N : Nat} {b : List Int} (hb : b.length ≤ 1048576) {c : Tl1Cur} (g : GC b c) : Dr b (exprW drTerm) (m_s_l8Expr N c) := by
  unfold m_s_l8Expr
  refine (term_d hb g).bind fun l d gd ql => (once_d hb (gd.at g.1) 4).bind fun v e ge _ => .ite (fun _ => ?_) fun _ => ?_
  · exact (str_d hb (ge.at g.1) _ (by decide)).bind fun o f gf qo => (term_d hb (gf.at g.1)).bind fun r k gk qr => .ret (gk.at g.1) ⟨ql, .inr ⟨qo, qr⟩⟩
  · exact .ret (ge.at g.1) ⟨ql, .inl ⟨rfl, rfl⟩⟩
/-- A drawn act; pos: one more than the greatest place that may be dropped. -/
def actW (T : TArg → Prop) (pos : Int) (a : TAct) : Prop := a.Args.length ≤ 2 ∧ (∀ e ∈ a.Args, exprW T e) ∧
  ((a.Kind = 2 ∧ a.Name = ⟨#[]⟩ ∧ a.Args = [] ∧ 0 ≤ a.N ∧ (0 < pos → a.N < pos) ∧ a.Undo = ⟨#[]⟩) ∨
   ((a.Kind = 5 ∨ a.Kind = 6) ∧ a.Name = ⟨#[]⟩ ∧ a.Args = [] ∧ a.N = 0 ∧ a.Undo = ⟨#[]⟩) ∨
   ((a.Kind = 1 ∨ a.Kind = 3 ∨ a.Kind = 4) ∧ a.Name ∈ ([⟨#[111, 114, 100, 101, 114]⟩, ⟨#[112, 97, 105, 100]⟩, ⟨#[105, 116, 101, 109]⟩, ⟨#[115, 104, 105, 112]⟩, ⟨#[99, 104, 97, 114, 103, 101]⟩] : List ByteArray) ∧
     (a.N = 0 ∨ a.Kind = 4 ∧ a.N ∈ ([0, 1, 5, 100000] : List Int)) ∧ (a.Undo = ⟨#[]⟩ ∨ a.Kind = 3 ∧ a.Undo ∈ ([⟨#[114, 101, 102, 117, 110, 100]⟩, ⟨#[99, 97, 110, 99, 101, 108]⟩] : List ByteArray))))
theorem act_d {N : Nat} (hN : 1099000000000 ≤ N) {b : List Int} (hb : b.length ≤ 1048576) {c : Tl1Cur} (g : GC b c) (pos : Int) : Dr b (actW drTerm pos) (m_s_l8Draw N c pos) := by
  unfold m_s_l8Draw
  refine (int_d hb g _ (by decide)).bind fun k d gd hk => ?_
  dsimp only
  by_cases k2 : k = 2
  · refine .ite (fun _ => ?_) (fun h => absurd k2 (of_decide_eq_false h))
    exact (below_d' hb (gd.at g.1) pos).bind fun v e ge q => .ret (ge.at g.1) ⟨by simp, by simp, .inl ⟨k2, rfl, rfl, q.1, q.2, rfl⟩⟩
  refine .ite (fun h => absurd (of_decide_eq_true h) k2) (fun _ => ?_)
  have j5 : ∀ (nm : ByteArray) (d0 : Tl1Cur) (s3 : List TExpr) (n : Int) (q : Bool) (x h : Int), GC b ⟨c.b, x, h⟩ → (q = true → k = 3) →
      (∀ u, (u = (⟨#[]⟩ : ByteArray) ∨ k = 3 ∧ u ∈ ([⟨#[114, 101, 102, 117, 110, 100]⟩, ⟨#[99, 97, 110, 99, 101, 108]⟩] : List ByteArray)) → actW drTerm pos ⟨k, nm, s3, n, u⟩) → Dr b (actW drTerm pos) (m_s_l8Draw_j5 N c (k, d) (nm, d0) s3 n q x h) := by
    intro nm d0 s3 n q x h gx hq hu
    unfold m_s_l8Draw_j5
    refine .ite (fun hq' => ?_) (fun _ => .ret gx (hu _ (.inl rfl)))
    exact (str_d hb gx _ (by decide)).bind fun u e ge qu => .ret (ge.at (c := ⟨c.b, x, h⟩) gx.1) (hu _ (.inr ⟨hq hq', qu⟩))
  have j4 : ∀ (nm : ByteArray) (d0 : Tl1Cur) (s3 : List TExpr) (n : Int) (x h : Int), GC b ⟨c.b, x, h⟩ →
      (∀ u, (u = (⟨#[]⟩ : ByteArray) ∨ k = 3 ∧ u ∈ ([⟨#[114, 101, 102, 117, 110, 100]⟩, ⟨#[99, 97, 110, 99, 101, 108]⟩] : List ByteArray)) → actW drTerm pos ⟨k, nm, s3, n, u⟩) → Dr b (actW drTerm pos) (m_s_l8Draw_j4 N c (k, d) (nm, d0) s3 x h n) := by
    intro nm d0 s3 n x h gx hu
    unfold m_s_l8Draw_j4
    refine .ite (fun h3 => ?_) (fun _ => j5 _ _ _ _ _ _ _ gx (fun h => by simp at h) hu)
    exact (once_d hb gx 2).bind fun u e ge _ => j5 _ _ _ _ _ _ _ (ge.at (c := ⟨c.b, x, h⟩) gx.1) (fun _ => of_decide_eq_true h3) hu
  have lp : ∀ (nm : ByteArray) (d0 : Tl1Cur), nm ∈ ([⟨#[111, 114, 100, 101, 114]⟩, ⟨#[112, 97, 105, 100]⟩, ⟨#[105, 116, 101, 109]⟩, ⟨#[115, 104, 105, 112]⟩, ⟨#[99, 104, 97, 114, 103, 101]⟩] : List ByteArray) → (k = 1 ∨ k = 3 ∨ k = 4) →
      ∀ (m : Nat), m ≤ 2 → ∀ (n i : Nat) (s : List TExpr) (x h : Int), i ≤ m → m - i < n → s.length = i → (∀ a ∈ s, exprW drTerm a) → GC b ⟨c.b, x, h⟩ → Dr b (actW drTerm pos) (m_s_l8Draw_l3 N c (k, d) (nm, d0) (m : Int) n s (i : Int) x h) := by
    intro nm d0 hnm hk3 m hm n
    induction n with
    | zero => intro i _ _ _ _ h; omega
    | succ n ih =>
      intro i s x h hi hn hs ha gx
      simp only [m_s_l8Draw_l3]
      refine .ite (fun hlt => ?_) (fun hge => .ite (fun h4 => ?_) (fun _ => ?_))
      · have hlt := of_decide_eq_true hlt
        refine (expr_d hb gx).bind fun a e ge q => .bindO (app_sm (by omega) (by simp)) ?_
        rw [wr1 i (by omega)]
        exact ih (i + 1) _ _ _ (by omega) (by omega) (by simp; omega) (mem_snoc ha q) (ge.at (c := ⟨c.b, x, h⟩) gx.1)
      · have h4 : k = 4 := of_decide_eq_true h4
        exact (int_d hb gx _ (by decide)).bind fun v e ge q => j4 _ _ _ _ _ _ (ge.at (c := ⟨c.b, x, h⟩) gx.1) fun u hu => ⟨by dsimp only; omega, ha, .inr (.inr ⟨hk3, hnm, .inr ⟨h4, q⟩, hu⟩)⟩
      · exact j4 _ _ _ _ _ _ gx fun u hu => ⟨by dsimp only; omega, ha, .inr (.inr ⟨hk3, hnm, .inl rfl, hu⟩)⟩
  have j1 : Dr b (actW drTerm pos) (m_s_l8Draw_j1 N c (k, d) true) → k = 5 ∨ k = 6 → Dr b (actW drTerm pos) (m_s_l8Draw_j1 N c (k, d) true) := fun h _ => h
  have jt : k = 5 ∨ k = 6 → Dr b (actW drTerm pos) (m_s_l8Draw_j1 N c (k, d) true) := by
    intro h56
    unfold m_s_l8Draw_j1
    simp only [if_true]
    exact .ret (gd.at g.1) ⟨by simp, by simp, .inr (.inl ⟨h56, rfl, rfl, rfl, rfl⟩)⟩
  have jf : k = 1 ∨ k = 3 ∨ k = 4 → Dr b (actW drTerm pos) (m_s_l8Draw_j1 N c (k, d) false) := by
    intro h134
    unfold m_s_l8Draw_j1
    simp only [Bool.false_eq_true, if_false]
    refine (str_d hb (gd.at g.1) _ (by decide)).bind fun nm e ge hnm => ?_
    unfold m_s_l8Draw_j2
    exact .ite (fun _ => lp nm e hnm h134 2 (by omega) N 0 [] _ _ (by omega) (by omega) rfl (by simp) (ge.at g.1)) (fun _ => lp nm e hnm h134 1 (by omega) N 0 [] _ _ (by omega) (by omega) rfl (by simp) (ge.at g.1))
  have hk' : k = 1 ∨ k = 3 ∨ k = 4 ∨ k = 5 ∨ k = 6 := by
    simp at hk; omega
  by_cases k5 : k = 5
  · rw [decide_eq_true k5]; simp only [if_true]; exact jt (.inl k5)
  · rw [decide_eq_false k5]; simp only [Bool.false_eq_true, if_false]
    by_cases k6 : k = 6
    · rw [decide_eq_true k6]; exact jt (.inr k6)
    · rw [decide_eq_false k6]; exact jf (by omega)
end Go.Proofs.Ytmhckcoabhahpaa
namespace Go.Proofs.Ytmhckcoabhahpaa
open Eng
set_option linter.unusedVariables false
set_option linter.unusedSimpArgs false
/-- A term of which a variable is among vs. -/
def fitTerm (vs : List ByteArray) (a : TArg) : Prop := (∃ v, drVal v ∧ a = ⟨2, ⟨#[]⟩, v⟩) ∨ ∃ s ∈ vs, a = ⟨1, s, ⟨0, 0, ⟨#[]⟩⟩⟩
theorem fit_ok {N : Nat} (hN : 1099000000000 ≤ N) {vs : List ByteArray} (hv : vs.length ≤ 4194304) {a : TArg} (h : drTerm a) : ∃ a', m_s_l9Fit N a vs = some a' ∧ fitTerm vs a' := by
  unfold m_s_l9Fit
  rw [known_s hN a vs (by omega), Option.bind_some]
  rcases h with ⟨v, hv, rfl⟩ | ⟨s, hs, rfl⟩
  · exact ⟨_, by simp [known], .inl ⟨v, hv, rfl⟩⟩
  · by_cases hm : s ∈ vs
    · exact ⟨_, by simp [known, hm], .inr ⟨s, hm, rfl⟩⟩
    · have e1 : known vs ⟨1, s, ⟨0, 0, ⟨#[]⟩⟩⟩ = false := by simp [known, hm]
      simp only [e1, Bool.false_eq_true, if_false]
      cases vs with
      | nil => exact ⟨_, rfl, .inl ⟨⟨1, 1, ⟨#[]⟩⟩, .inl ⟨1, by omega, by omega, rfl⟩, rfl⟩⟩
      | cons x t =>
        have e2 : decide (((x :: t).length : Int) = 0) = false := decide_eq_false (by simp only [List.length_cons]; omega)
        have e3 : idx (x :: t) 0 = some x := idx_nat_lt (xs := x :: t) (i := 0) (by simp)
        simp only [e2, Bool.false_eq_true, if_false, e3, Option.bind_some]
        exact ⟨_, rfl, .inr ⟨x, by simp, rfl⟩⟩
def drPats (l : List TPat) : Prop := ∃ ps ns, l = ps ++ ns ∧ 1 ≤ ps.length ∧ ps.length ≤ 3 ∧ ns.length ≤ 1 ∧ (∀ p ∈ ps, drPat false p) ∧ ∀ p ∈ ns, drPat true p
theorem drPats_pat {l : List TPat} (h : drPats l) : ∀ p ∈ l, ∃ n, drPat n p := by
  obtain ⟨ps, ns, rfl, -, -, -, h1, h2⟩ := h
  intro p hp
  rcases List.mem_append.1 hp with h | h
  · exact ⟨_, h1 p h⟩
  · exact ⟨_, h2 p h⟩
theorem drPats_len {l : List TPat} (h : drPats l) : 1 ≤ l.length ∧ l.length ≤ 4 := by
  obtain ⟨ps, ns, rfl, h1, h2, h3, -⟩ := h
  rw [List.length_append]; omega
theorem nArgs_le {B : Nat} : ∀ {l : List TPat}, (∀ p ∈ l, p.Args.length ≤ B) → nArgs l ≤ l.length * B
  | [], _ => by simp [nArgs]
  | p :: t, h => by
    have h1 := nArgs_le (l := t) fun q hq => h q (by simp [hq])
    have h2 := h p (by simp)
    have h3 : nArgs (p :: t) = p.Args.length + nArgs t := by simp [nArgs]
    rw [h3, List.length_cons, Nat.succ_mul]; omega
theorem drPats_args {l : List TPat} (h : drPats l) : nArgs l ≤ 8 := by
  have h1 := nArgs_le (B := 2) fun p hp => (drPats_pat h p hp).elim fun n hn => hn.2.2.1
  have := drPats_len h
  omega
/-- What patterns bind. -/
def bnd (l : List TPat) : List ByteArray := (posNames l).foldl once []
theorem bnd_len {l : List TPat} (h : drPats l) : (bnd l).length ≤ 8 := by
  have h1 := onces_len (posNames l) []
  have h2 := posNames_len l
  have h3 := drPats_args h
  simp only [List.length_nil] at h1
  unfold bnd; omega
def drRule (nm : ByteArray) (r : TRule) : Prop := r.Name = nm ∧ r.Sal ∈ ([0, 0, 5, (-5), 100] : List Int) ∧ drPats r.Pats ∧ (r.Conds.length ≤ 1 ∧ ∀ c ∈ r.Conds, 1 ≤ c.Op ∧ c.Op ≤ 3 ∧ fitTerm (bnd r.Pats) c.L ∧ fitTerm (bnd r.Pats) c.R) ∧
  (1 ≤ r.Acts.length ∧ r.Acts.length ≤ 3 ∧ ∀ a ∈ r.Acts, actW (fitTerm (bnd r.Pats)) (posCount r.Pats) a)
/-- The loop that fits the arguments of an act. -/
theorem fits {N : Nat} (hN : 1099000000000 ≤ N) {b : List Int} {vs : List ByteArray} (hv : vs.length ≤ 4194304) (s11 : List TAct) (s12 : Int) (K : List TAct → Int → Int → Int → Option (TRule × Tl1Cur)) (x10 : TAct × Tl1Cur) {R : TRule → Prop} {m : Nat} (hm : m ≤ 4194304)
    (hK : ∀ es : List TExpr, es.length = m → (∀ e ∈ es, exprW (fitTerm vs) e) → Dr b R ((app s11 [⟨x10.1.Kind, x10.1.Name, es, x10.1.N, x10.1.Undo⟩]).bind fun x14 => K x14 (IntKind.i64.wrap (s12 - 1)) x10.2.i x10.2.h)) :
    ∀ (n : Nat) (todo done : List TExpr), todo.length < n → done.length + todo.length = m → (∀ e ∈ done, exprW (fitTerm vs) e) → (∀ e ∈ todo, exprW drTerm e) → Dr b R (m_s_l9Draw_l5 N vs s11 s12 K x10 n (done ++ todo) (done.length : Int)) := by
  intro n
  induction n with
  | zero => intro _ _ h; omega
  | succ n ih =>
    intro todo done hn hl hd ht
    simp only [m_s_l9Draw_l5]
    cases todo with
    | nil =>
      have e1 : decide ((done.length : Int) < ((done ++ ([] : List TExpr)).length : Int)) = false := decide_eq_false (by simp)
      rw [e1]
      simp only [Bool.false_eq_true, if_false, List.append_nil]
      exact hK done (by simpa using hl) hd
    | cons e t =>
      have e1 : decide ((done.length : Int) < ((done ++ e :: t).length : Int)) = true := decide_eq_true (by simp; omega)
      have e2 : idx (done ++ e :: t) (done.length : Int) = some e := by
        rw [idx_nat_lt (show done.length < (done ++ e :: t).length by simp)]; simp
      have hset : ∀ y, (done ++ e :: t).set ((done.length : Int)).toNat y = (done ++ [y]) ++ t := fun y => by
        rw [Int.toNat_natCast, List.set_append_right _ _ (Nat.le_refl _)]; simp
      simp only [List.length_cons] at hn hl
      rw [e1]
      simp only [if_true]
      refine .bindO e2 ?_
      obtain ⟨hL, hR⟩ := ht e (by simp)
      obtain ⟨l', el, hl'⟩ := fit_ok hN hv hL
      refine .bindO el ?_
      have next : ∀ y, exprW (fitTerm vs) y → Dr b R (m_s_l9Draw_l5 N vs s11 s12 K x10 n ((done ++ e :: t).set ((done.length : Int)).toNat y) (IntKind.i64.wrap ((done.length : Int) + 1))) := by
        intro y hy
        rw [hset, wr1 _ (by omega)]
        have := ih t (done ++ [y]) (by omega) (by simp; omega) (mem_snoc hd hy) (fun a ha => ht a (by simp [ha]))
        simpa using this
      rcases hR with ⟨hO, hR⟩ | ⟨hO, hR⟩
      · have e3 : (!seq e.Op ⟨#[]⟩) = false := by rw [seq_eq, hO]; simp
        rw [e3]
        exact next _ ⟨hl', .inl ⟨hO, hR⟩⟩
      · have e3 : (!seq e.Op ⟨#[]⟩) = true := by
          have : e.Op ≠ ⟨#[]⟩ := (show ∀ s ∈ ([⟨#[43]⟩, ⟨#[45]⟩] : List ByteArray), s ≠ ⟨#[]⟩ by decide) _ hO
          rw [seq_eq]; simp [this]
        rw [e3]
        obtain ⟨r', er, hr'⟩ := fit_ok hN hv hR
        exact .bindO er (next _ ⟨hl', .inr ⟨hO, hr'⟩⟩)
theorem posVars_d {N : Nat} (hN : 1099000000000 ≤ N) (r : TRule) (h : drPats r.Pats) : m_s_PosVars N r = some (bnd r.Pats) := by
  have h1 := drPats_len h
  have h2 := drPats_args h
  exact posVars_s hN r (by omega) (by omega) fun p hp => by
    obtain ⟨n, hn⟩ := drPats_pat h p hp
    have := hn.2.2.1
    omega
theorem rule_d {N : Nat} (hN : 1099000000000 ≤ N) {b : List Int} (hb : b.length ≤ 1048576) {c : Tl1Cur} (g : GC b c) (nm : ByteArray) : Dr b (drRule nm) (m_s_l9Draw N c nm) := by
  unfold m_s_l9Draw
  refine (int_d hb g _ (by decide)).bind fun sal d gd hs => (below_d hb (gd.at g.1) 3 (by omega)).bind fun v0 e0 ge0 q0 => ?_
  -- the acts
  have l4 : ∀ (pats : List TPat) (conds : List TCond), drPats pats → (conds.length ≤ 1 ∧ ∀ c ∈ conds, 1 ≤ c.Op ∧ c.Op ≤ 3 ∧ fitTerm (bnd pats) c.L ∧ fitTerm (bnd pats) c.R) →
      ∀ (n : Nat) (s : List TAct) (k x h : Int), 0 ≤ k → k < n → 1 ≤ s.length + k → s.length + k ≤ 3 → (∀ a ∈ s, actW (fitTerm (bnd pats)) (posCount pats) a) → GC b ⟨c.b, x, h⟩ → Dr b (drRule nm) (m_s_l9Draw_l4 N c nm (sal, d) pats (bnd pats) conds n s k x h) := by
    intro pats conds hp hc n
    have hpl := drPats_len hp
    induction n with
    | zero => intro s k x h h0 h1; omega
    | succ n ih =>
      intro s k x h h0 h1 h2 h3 ha gx
      simp only [m_s_l9Draw_l4]
      refine .ite (fun hk => ?_) (fun hk => ?_)
      · have hk := of_decide_eq_true hk
        refine .bindO (count_s hN _ (show pats.length ≤ 1048576 by omega)) ((act_d hN hb gx _).bind fun a f gf qa => ?_)
        have hal := qa.1
        have := fits hN (b := b) (vs := bnd pats) (by have := bnd_len hp; omega) s k (m_s_l9Draw_l4 N c nm (sal, d) pats (bnd pats) conds n) (a, f) (R := drRule nm) (m := a.Args.length) (by omega) (fun es hl he => by
          refine .bindO (app_sm (by omega) (by simp)) ?_
          rw [wrm hk (by omega)]
          refine ih _ (k - 1) _ _ (by omega) (by omega) (by simp; omega) (by simp; omega) (mem_snoc ha ?_) (gf.at (c := ⟨c.b, x, h⟩) gx.1)
          refine ⟨by dsimp only; omega, he, ?_⟩
          rcases qa.2.2 with h | h | h
          · exact .inl ⟨h.1, h.2.1, by have := h.2.2.1; rw [this] at hl; exact List.eq_nil_of_length_eq_zero hl, h.2.2.2⟩
          · exact .inr (.inl ⟨h.1, h.2.1, by have := h.2.2.1; rw [this] at hl; exact List.eq_nil_of_length_eq_zero hl, h.2.2.2⟩)
          · exact .inr (.inr h)) N a.Args [] (by omega) (by simp) (by simp) qa.2.1
        exact this
      · have hk := of_decide_eq_false hk
        exact .ret gx ⟨rfl, hs, hp, hc, by dsimp only; omega, by dsimp only; omega, ha⟩
  have j3 : ∀ (pats : List TPat) (conds : List TCond), drPats pats → (conds.length ≤ 1 ∧ ∀ c ∈ conds, 1 ≤ c.Op ∧ c.Op ≤ 3 ∧ fitTerm (bnd pats) c.L ∧ fitTerm (bnd pats) c.R) → ∀ (x h : Int), GC b ⟨c.b, x, h⟩ → Dr b (drRule nm) (m_s_l9Draw_j3 N c nm (sal, d) pats (bnd pats) conds x h) := by
    intro pats conds hp hc x h gx
    unfold m_s_l9Draw_j3
    refine (below_d hb gx 3 (by omega)).bind fun v e ge q => ?_
    dsimp only
    rw [wr (show -9223372036854775808 ≤ 1 + v by omega) (by omega)]
    exact l4 pats conds hp hc N [] _ _ _ (by omega) (by omega) (by simp; omega) (by simp; omega) (by simp) (ge.at (c := ⟨c.b, x, h⟩) gx.1)
  have j2 : ∀ (pats : List TPat), drPats pats → ∀ (x h : Int), GC b ⟨c.b, x, h⟩ → Dr b (drRule nm) (m_s_l9Draw_j2 N c nm (sal, d) pats x h) := by
    intro pats hp x h gx
    unfold m_s_l9Draw_j2
    have hv : (bnd pats).length ≤ 4194304 := by have := bnd_len hp; omega
    refine .bindO (posVars_d hN _ hp) ((once_d hb gx 3).bind fun v e ge _ => .ite (fun _ => ?_) (fun _ => ?_))
    · refine (cond_d hb (ge.at (c := ⟨c.b, x, h⟩) gx.1)).bind fun cd f gf qc => ?_
      obtain ⟨l', el, hl⟩ := fit_ok hN hv qc.2.2.1
      obtain ⟨r', er, hr⟩ := fit_ok hN hv qc.2.2.2
      refine .bindO el (.bindO er (.bindO (app_sm (by simp) (by simp)) ?_))
      exact j3 pats _ hp ⟨by simp, by simp; exact ⟨qc.1, qc.2.1, hl, hr⟩⟩ _ _ (gf.at (c := ⟨c.b, x, h⟩) gx.1)
    · exact j3 pats [] hp ⟨by simp, by simp⟩ _ _ (ge.at (c := ⟨c.b, x, h⟩) gx.1)
  have l1 : ∀ (n : Nat) (s : List TPat) (k x h : Int), 0 ≤ k → k < n → 1 ≤ s.length + k → s.length + k ≤ 3 → (∀ p ∈ s, drPat false p) → GC b ⟨c.b, x, h⟩ → Dr b (drRule nm) (m_s_l9Draw_l1 N c nm (sal, d) n s k x h) := by
    intro n
    induction n with
    | zero => intro s k x h h0 h1; omega
    | succ n ih =>
      intro s k x h h0 h1 h2 h3 hp gx
      simp only [m_s_l9Draw_l1]
      refine .ite (fun hk => ?_) (fun hk => ?_)
      · have hk := of_decide_eq_true hk
        refine (pat_d hN hb gx false).bind fun p f gf qp => .bindO (app_sm (by omega) (by simp)) ?_
        rw [wrm hk (by omega)]
        exact ih _ (k - 1) _ _ (by omega) (by omega) (by simp; omega) (by simp; omega) (mem_snoc hp qp) (gf.at (c := ⟨c.b, x, h⟩) gx.1)
      · have hk := of_decide_eq_false hk
        refine (once_d hb gx 3).bind fun v f gf _ => .ite (fun _ => ?_) (fun _ => ?_)
        · refine (pat_d hN hb (gf.at (c := ⟨c.b, x, h⟩) gx.1) true).bind fun p f' gf' qp => .bindO (app_sm (by omega) (by simp)) ?_
          exact j2 _ ⟨s, [p], rfl, by omega, by omega, by simp, hp, by simpa using qp⟩ _ _ (gf'.at (c := ⟨c.b, x, h⟩) gx.1)
        · exact j2 _ ⟨s, [], by simp, by omega, by omega, by simp, hp, by simp⟩ _ _ (gf.at (c := ⟨c.b, x, h⟩) gx.1)
  dsimp only
  rw [wr (show -9223372036854775808 ≤ 1 + v0 by omega) (by omega)]
  exact l1 N [] _ _ _ (by omega) (by omega) (by simp; omega) (by simp; omega) (by simp) (ge0.at g.1)
end Go.Proofs.Ytmhckcoabhahpaa
namespace Go.Proofs.Ytmhckcoabhahpaa
open Eng
set_option linter.unusedVariables false
set_option linter.unusedSimpArgs false
def rNames : List ByteArray := [⟨#[114, 49]⟩, ⟨#[114, 50]⟩, ⟨#[114, 51]⟩, ⟨#[114, 52]⟩]
/-- A drawn definition: its rules are drawn ones with these names, in order. -/
def drDef (d : TDef) : Prop := d.Name ∈ ([⟨#[102, 108, 111, 119]⟩, ⟨#[115, 104, 105, 112]⟩, ⟨#[120]⟩] : List ByteArray) ∧ 1 ≤ d.Rules.length ∧ d.Rules.length ≤ 4 ∧ ∀ (i : Nat) (r : TRule), d.Rules[i]? = some r → ∃ nm, rNames[i]? = some nm ∧ drRule nm r
theorem def_d {N : Nat} (hN : 1099000000000 ≤ N) {b : List Int} (hb : b.length ≤ 1048576) {c : Tl1Cur} (g : GC b c) : Dr b drDef (m_s_l10Draw N c) := by
  unfold m_s_l10Draw
  refine (str_d hb g _ (by decide)).bind fun nm d gd hnm => ?_
  have lp : ∀ (n i : Nat) (s : List TRule) (x h : Int), i ≤ 4 → 4 - i < n → s.length = i → (∀ (j : Nat) (r : TRule), s[j]? = some r → ∃ nm, rNames[j]? = some nm ∧ drRule nm r) → GC b ⟨c.b, x, h⟩ → Dr b drDef (m_s_l10Draw_l1 N c (nm, d) n s (i : Int) x h) := by
    intro n
    induction n with
    | zero => intro i _ _ _ _ h; omega
    | succ n ih =>
      intro i s x h hi hn hs hr gx
      simp only [m_s_l10Draw_l1]
      refine (below_d hb gx 4 (by omega)).bind fun v e ge q => ?_
      dsimp only
      rw [wr (show -9223372036854775808 ≤ 1 + v by omega) (by omega)]
      by_cases h1 : (i : Int) < 1 + v ∧ i < 4
      · have e1 : decide ((i : Int) < 1 + v) = true := decide_eq_true h1.1
        have e2 : decide ((i : Int) < 4) = true := decide_eq_true (by omega)
        have e3 : idx rNames (i : Int) = some (rNames[i]'(by unfold rNames; simp; omega)) := idx_nat_lt (by unfold rNames; simp; omega)
        simp only [e1, e2, if_true, Option.bind_some]
        refine .bindO e3 ((rule_d hN hb (ge.at (c := ⟨c.b, x, h⟩) gx.1) _).bind fun r f gf qr => .bindO (app_sm (by omega) (by simp)) ?_)
        rw [wr1 i (by omega)]
        refine ih (i + 1) _ _ _ (by omega) (by omega) (by simp; omega) ?_ (gf.at (c := ⟨c.b, x, h⟩) gx.1)
        intro j r' hj
        by_cases hji : j < s.length
        · rw [List.getElem?_append_left hji] at hj; exact hr j r' hj
        · rw [List.getElem?_append_right (by omega)] at hj
          have : j = i := by
            have := (List.getElem?_eq_some_iff.1 hj).1
            simp at this; omega
          subst this
          have h0 : j - s.length = 0 := by omega
          rw [h0] at hj
          simp at hj
          subst hj
          exact ⟨_, List.getElem?_eq_getElem _, qr⟩
      · have e1 : (if decide ((i : Int) < 1 + v) = true then some (decide ((i : Int) < 4)) else some false) = some false := by
          by_cases h2 : (i : Int) < 1 + v
          · have h3 : ¬ (i : Int) < 4 := by omega
            simp [h2, h3]
          · simp [h2]
        rw [e1, Option.bind_some]
        simp only [Bool.false_eq_true, if_false]
        exact .ret (ge.at (c := ⟨c.b, x, h⟩) gx.1) ⟨hnm, by dsimp only; omega, by dsimp only; omega, hr⟩
  exact lp N 0 [] _ _ (by omega) (by omega) rfl (by simp) (gd.at g.1)
end Go.Proofs.Ytmhckcoabhahpaa
namespace Go.Proofs.Ytmhckcoabhahpaa
open Eng
set_option linter.unusedVariables false
set_option linter.unusedSimpArgs false
def drMatch (m : TMatch) : Prop := m.Ids.length ≤ 4 ∧ m.Binds = [] ∧ 0 ≤ m.Rule ∧ m.Rule ≤ 2
theorem match_d {N : Nat} (hN : 1099000000000 ≤ N) {b : List Int} (hb : b.length ≤ 1048576) {c : Tl1Cur} (g : GC b c) : Dr b drMatch (m_s_l11Match N c) := by
  unfold m_s_l11Match
  refine (below_d hb g 3 (by omega)).bind fun r d gd hr => (below_d hb (gd.at g.1) 4 (by omega)).bind fun v e ge hv => ?_
  have lp : ∀ (n : Nat) (s : List Int) (k x h : Int), 0 ≤ k → k < n → s.length + k ≤ 4 → GC b ⟨c.b, x, h⟩ → Dr b drMatch (m_s_l11Match_l1 N c (r, d) n s k x h) := by
    intro n
    induction n with
    | zero => intro s k x h h0 h1; omega
    | succ n ih =>
      intro s k x h h0 h1 h2 gx
      simp only [m_s_l11Match_l1]
      refine .ite (fun hk => ?_) (fun _ => .ret gx ⟨by dsimp only; omega, rfl, hr.1, by dsimp only; omega⟩)
      have hk := of_decide_eq_true hk
      refine (below_d hb gx 3 (by omega)).bind fun w f gf _ => .bindO (app_sm (by omega) (by simp)) ?_
      rw [wrm hk (by omega)]
      exact ih _ (k - 1) _ _ (by omega) (by omega) (by simp; omega) (gf.at (c := ⟨c.b, x, h⟩) gx.1)
  exact lp N [] v _ _ hv.1 (by omega) (by simp; omega) (ge.at g.1)
end Go.Proofs.Ytmhckcoabhahpaa
namespace Go.Proofs.Ytmhckcoabhahpaa
open Eng
set_option linter.unusedVariables false
set_option linter.unusedSimpArgs false
theorem draw_ok {N : Nat} (hN : 1099000000000 ≤ N) {b : List Int} (hb : b.length ≤ 1048576) : ∃ d x y, m_s_DrawUrgent N b = some (d, x, y) ∧ drMatch x ∧ drMatch y := by
  unfold m_s_DrawUrgent
  obtain ⟨c, e0, g0⟩ := new_ok hN b hb
  rw [e0, Option.bind_some]
  obtain ⟨d, c1, e1, g1, hd⟩ := def_d hN hb g0
  rw [e1, Option.bind_some]
  obtain ⟨x, c2, e2, g2, hx⟩ := match_d hN hb (g1.at g0.1)
  simp only [e2, Option.bind_some]
  obtain ⟨y, c3, e3, g3, hy⟩ := match_d hN hb (g2.at (c := c) g0.1)
  simp only [e3, Option.bind_some]
  exact ⟨d, x, y, rfl, hx, hy⟩
theorem law_FnUrgent {N : Nat} (hN : 1099000000000 ≤ N) (b : List Int) : m_l_FnUrgent N b = some true := by
  unfold m_l_FnUrgent m_l_big
  by_cases hb : b.length ≤ 1048576
  · have c1 : decide (1048576 < (b.length : Int)) = false := decide_eq_false (by omega)
    obtain ⟨d, x, y, e, hx, hy⟩ := draw_ok hN hb
    have lx : x.Ids.length ≤ 1048576 := by have := hx.1; omega
    have ly : y.Ids.length ≤ 1048576 := by have := hy.1; omega
    have an := urg_anti d x y
    simp only [c1, Option.bind_some, Bool.false_eq_true, if_false, e, urg_i hN d x y lx, urg_i hN d y x ly, urg_s hN d x y lx, urg_i hN d x x lx, urg_irr, bne_self_eq_false, same_i (show 1048578 ≤ N by omega) x y lx, andS, an]
    by_cases h1 : (d.Rules.length : Int) ≤ x.Rule
    · have hr : hasR d x = false := by unfold hasR; rw [decide_eq_false (show ¬ x.Rule < (d.Rules.length : Int) by omega)]; simp
      have u1 : urg d x y = false := by unfold urg; rw [hr]; simp
      have u2 : urg d y x = false := by unfold urg; rw [hr]; simp
      simp [h1, u1, u2]
    · by_cases h2 : (d.Rules.length : Int) ≤ y.Rule
      · have hr : hasR d y = false := by unfold hasR; rw [decide_eq_false (show ¬ y.Rule < (d.Rules.length : Int) by omega)]; simp
        have u1 : urg d x y = false := by unfold urg; rw [hr]; simp
        have u2 : urg d y x = false := by unfold urg; rw [hr]; simp
        simp [h1, h2, u1, u2]
      · have r1 : hasR d x = true := by unfold hasR; rw [decide_eq_true hx.2.2.1, decide_eq_true (show x.Rule < (d.Rules.length : Int) by omega)]; rfl
        have r2 : hasR d y = true := by unfold hasR; rw [decide_eq_true hy.2.2.1, decide_eq_true (show y.Rule < (d.Rules.length : Int) by omega)]; rfl
        have ht := urg_tot r1 r2
        simp only [h1, h2, decide_false, Bool.false_eq_true, if_false, Option.bind_some, orS, ht]
        cases same x y <;> rfl
  · have c1 : decide (1048576 < (b.length : Int)) = true := decide_eq_true (by omega)
    simp only [c1, Option.bind_some, if_true]
namespace fnUrgent
theorem law {x0 : List Int} (w0 : (WfL (WfI .u8)) x0) : m_l_FnUrgent 1099511627776 x0 = some true := law_FnUrgent (by omega) x0
end fnUrgent
end Go.Proofs.Ytmhckcoabhahpaa
