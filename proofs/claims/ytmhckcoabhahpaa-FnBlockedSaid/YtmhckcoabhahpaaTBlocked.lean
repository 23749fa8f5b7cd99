/- Plain laws, one after the other: PLBlocked. -/
import Derived.Test.YtmhckcoabhahpaaPLib
import Derived.Test.YtmhckcoabhahpaaWBlockedPur
import Derived.Test.YtmhckcoabhahpaaWBlockedMod
/-
  Plain laws of common loops, for the cores. No program.
-/
namespace Go.Proofs.Ytmhckcoabhahpaa
open Eng
set_option linter.unusedVariables false
set_option linter.unusedSimpArgs false
theorem app_ok {α : Type} {xs ys : List α} (h : xs.length + ys.length ≤ 4294967296) : app xs ys = some (xs ++ ys) := by unfold app; rw [if_pos h]
theorem app_nil {α : Type} {ys : List α} (h : ys.length ≤ 4294967296) : app ([] : List α) ys = some ys := by rw [app_ok (by simpa using h)]; rfl
theorem andS (a b : Bool) : (if a = true then some b else some false) = some (a && b) := by cases a <;> rfl
theorem orS (a b : Bool) : (if a = true then some true else some b) = some (a || b) := by cases a <;> rfl
end Go.Proofs.Ytmhckcoabhahpaa
/-
  Plain laws of loops over lists, one law for all. No program.
-/
namespace Go.Proofs.Ytmhckcoabhahpaa
open Eng
set_option linter.unusedVariables false
set_option linter.unusedSimpArgs false
/-- A loop over a row from place i on, with a state s, computes G of what is left and s; I is what holds of the state and what is left. -/
theorem lp {σ α β : Type} (xs : List α) (hl : xs.length ≤ 4294967296) (f : Nat → σ → Int → Option β) (G : List α → σ → Option β) (I : σ → List α → Prop)
    (hs : ∀ n s (i : Nat) (x : α) (t : List α), xs.drop i = x :: t → x ∈ xs → i < xs.length → idx xs (i : Int) = some x → decide ((i : Int) < (xs.length : Int)) = true → IntKind.i64.wrap ((i : Int) + 1) = ((i + 1 : Nat) : Int) → I s (x :: t) →
      (∀ s', I s' t → f n s' ((i + 1 : Nat) : Int) = G t s') → f (n + 1) s i = G (x :: t) s)
    (he : ∀ n s (i : Nat), i = xs.length → decide ((i : Int) < (xs.length : Int)) = false → I s [] → f (n + 1) s i = G [] s) :
    ∀ (n i : Nat) (s : σ), i ≤ xs.length → xs.length - i < n → I s (xs.drop i) → f n s i = G (xs.drop i) s := by
  intro n
  induction n with
  | zero => intro i s _ h; omega
  | succ n ih =>
    intro i s hi hn hI
    by_cases hlt : i < xs.length
    · have hd := List.drop_eq_getElem_cons hlt
      rw [hd] at hI ⊢
      exact hs n s i _ _ hd (List.getElem_mem hlt) hlt (idx_nat_lt hlt) (decide_eq_true (by omega)) (wr1 i (by omega)) hI (fun s' hs' => ih (i + 1) s' (by omega) (by omega) hs')
    · have hd : xs.drop i = [] := List.drop_of_length_le (by omega)
      rw [hd] at hI ⊢
      exact he n s i (by omega) (decide_eq_false (by omega)) hI
/-- The same from the start. -/
theorem lp' {σ α β : Type} {N : Nat} (hN : 1099000000000 ≤ N) (xs : List α) (hl : xs.length ≤ 4294967296) (f : Nat → σ → Int → Option β) (G : List α → σ → Option β) (I : σ → List α → Prop) (s : σ) (h0 : I s xs)
    (hs : ∀ n s (i : Nat) (x : α) (t : List α), xs.drop i = x :: t → x ∈ xs → i < xs.length → idx xs (i : Int) = some x → decide ((i : Int) < (xs.length : Int)) = true → IntKind.i64.wrap ((i : Int) + 1) = ((i + 1 : Nat) : Int) → I s (x :: t) →
      (∀ s', I s' t → f n s' ((i + 1 : Nat) : Int) = G t s') → f (n + 1) s i = G (x :: t) s)
    (he : ∀ n s (i : Nat), i = xs.length → decide ((i : Int) < (xs.length : Int)) = false → I s [] → f (n + 1) s i = G [] s) : f N s 0 = G xs s := by
  have := lp xs hl f G I hs he N 0 s (by omega) (by omega) (by simpa using h0)
  simpa using this
/-- A loop without a state. -/
theorem lp0 {α β : Type} {N : Nat} (hN : 1099000000000 ≤ N) (xs : List α) (hl : xs.length ≤ 4294967296) (f : Nat → Int → Option β) (G : List α → Option β)
    (hs : ∀ n (i : Nat) (x : α) (t : List α), xs.drop i = x :: t → x ∈ xs → i < xs.length → idx xs (i : Int) = some x → decide ((i : Int) < (xs.length : Int)) = true → IntKind.i64.wrap ((i : Int) + 1) = ((i + 1 : Nat) : Int) →
      f n ((i + 1 : Nat) : Int) = G t → f (n + 1) i = G (x :: t))
    (he : ∀ n (i : Nat), i = xs.length → decide ((i : Int) < (xs.length : Int)) = false → f (n + 1) i = G []) : f N 0 = G xs := by
  have := lp' (σ := Unit) hN xs hl (fun n _ i => f n i) (fun t _ => G t) (fun _ _ => True) () trivial (fun n _ i x t h1 h2 h3 h4 h5 h6 _ h8 => hs n i x t h1 h2 h3 h4 h5 h6 (h8 () trivial)) (fun n _ i h1 h2 _ => he n i h1 h2)
  simpa using this
theorem orNB (a b : Bool) : (if (!a) = true then some true else some b) = some (!a || b) := by cases a <;> rfl
end Go.Proofs.Ytmhckcoabhahpaa
namespace Go.Proofs.Ytmhckcoabhahpaa
open Eng
set_option linter.unusedVariables false
set_option linter.unusedSimpArgs false
instance memDec (v : ByteArray) (xs : List ByteArray) : Decidable (v ∈ xs) := @List.instDecidableMemOfLawfulBEq _ instBEqOfDecidableEq _ v xs
theorem hasS {N : Nat} (hN : 1099000000000 ≤ N) (xs : List ByteArray) (v : ByteArray) (hl : xs.length ≤ 4294967296) : m_s_l6Has N xs v = some (decide (v ∈ xs)) := by
  unfold m_s_l6Has
  refine lp0 hN xs hl _ (fun t => some (decide (v ∈ t))) (fun n i x t h1 h2 h3 h4 h5 h6 h7 => ?_) (fun n i h1 h2 => ?_)
  · simp only [m_s_l6Has_l1, h5, if_true, h4, Option.bind_some, h6, h7, seq_eq]
    by_cases h : x = v
    · simp [h]
    · have h' : ¬ v = x := fun e => h e.symm
      simp [h, h']
  · simp only [m_s_l6Has_l1, h2, Bool.false_eq_true, if_false]; simp
/-- v at the end, if it is not there yet. -/
def once (s : List ByteArray) (v : ByteArray) : List ByteArray := if v ∈ s then s else s ++ [v]
theorem once_len (s : List ByteArray) (v : ByteArray) : (once s v).length ≤ s.length + 1 := by unfold once; split <;> simp
theorem mem_once {s : List ByteArray} {v x : ByteArray} : x ∈ once s v ↔ x ∈ s ∨ x = v := by
  unfold once; split
  · rename_i h
    constructor
    · exact .inl
    · rintro (h' | rfl)
      · exact h'
      · exact h
  · simp
theorem mem_onces {x : ByteArray} : ∀ {vs s : List ByteArray}, x ∈ vs.foldl once s ↔ x ∈ s ∨ x ∈ vs
  | [], s => by simp
  | v :: vs, s => by rw [List.foldl_cons, mem_onces, mem_once, List.mem_cons, or_assoc]
theorem once_old {s : List ByteArray} {v : ByteArray} (h : v ∈ s) : once s v = s := by unfold once; rw [if_pos h]
theorem onces_len : ∀ (vs s : List ByteArray), (vs.foldl once s).length ≤ s.length + vs.length
  | [], s => by simp
  | v :: vs, s => by have := onces_len vs (once s v); have := once_len s v; simp only [List.foldl_cons, List.length_cons]; omega
theorem onces_once (s u : List ByteArray) (v : ByteArray) : (once u v).foldl once s = once (u.foldl once s) v := by
  by_cases h : v ∈ u
  · rw [once_old h, once_old (mem_onces.2 (.inr h))]
  · have : once u v = u ++ [v] := by unfold once; rw [if_neg h]
    rw [this, List.foldl_append]; rfl
theorem onces_onces : ∀ (vs u s : List ByteArray), (vs.foldl once u).foldl once s = vs.foldl once (u.foldl once s)
  | [], u, s => rfl
  | v :: vs, u, s => by rw [List.foldl_cons, onces_onces vs (once u v) s, onces_once, List.foldl_cons]
/-- Doubles taken out beforehand change nothing. -/
theorem onces_dedup (vs s : List ByteArray) : (vs.foldl once []).foldl once s = vs.foldl once s := onces_onces vs [] s
end Go.Proofs.Ytmhckcoabhahpaa
namespace Go.Proofs.Ytmhckcoabhahpaa
open Eng
set_option linter.unusedVariables false
set_option linter.unusedSimpArgs false
/-- The names of the variables among arguments. -/
def argVars : List TArg → List ByteArray
  | [] => []
  | a :: t => if a.K = 1 then a.S :: argVars t else argVars t
theorem argVars_len : ∀ (l : List TArg), (argVars l).length ≤ l.length
  | [] => by simp [argVars]
  | a :: t => by have := argVars_len t; unfold argVars; split <;> simp <;> omega
theorem vars_s {N : Nat} (hN : 1099000000000 ≤ N) (p : TPat) (hl : p.Args.length ≤ 1048576) : m_s_VarsOf N p = some ((argVars p.Args).foldl once []) := by
  unfold m_s_VarsOf
  refine lp' hN p.Args (by omega) (m_s_VarsOf_l1 N p) (fun t s => some ((argVars t).foldl once s)) (fun s t => s.length + t.length ≤ 4294967290) [] (by simp; omega) (fun n s i x t h1 h2 h3 h4 h5 h6 hI ih => ?_) (fun n s i h1 h2 hI => ?_)
  · simp only [List.length_cons] at hI
    simp only [m_s_VarsOf_l1, h5, if_true, h4, Option.bind_some, h6, argVars, hasS hN s x.S (by omega)]
    by_cases h : x.K = 1
    · simp only [h, decide_true, if_true, Option.bind_some, List.foldl_cons]
      have := ih (once s x.S) (by have := once_len s x.S; omega)
      unfold once at this ⊢
      by_cases hm : x.S ∈ s
      · simp only [hm, if_true] at this
        simpa [hm] using this
      · simp only [hm, if_false] at this
        simp only [hm, decide_false, Bool.not_false, if_true, app_ok (show s.length + [x.S].length ≤ 4294967296 by simp; omega), Option.bind_some, if_false]
        exact this
    · simp only [h, decide_false, Bool.false_eq_true, if_false, Option.bind_some]
      exact ih _ (by omega)
  · simp only [m_s_VarsOf_l1, h2, Bool.false_eq_true, if_false]; rfl
/-- The names of what patterns bind that are not Not. -/
def posNames : List TPat → List ByteArray
  | [] => []
  | p :: t => if p.Not then posNames t else argVars p.Args ++ posNames t
def nArgs (l : List TPat) : Nat := (l.map fun p => p.Args.length).sum
theorem posNames_len : ∀ (l : List TPat), (posNames l).length ≤ nArgs l
  | [] => by simp [posNames, nArgs]
  | p :: t => by
    have h1 := posNames_len t
    have h2 := argVars_len p.Args
    have h3 : nArgs (p :: t) = p.Args.length + nArgs t := by simp [nArgs]
    rw [h3]
    unfold posNames
    split
    · omega
    · rw [List.length_append]; omega
theorem posVars_s {N : Nat} (hN : 1099000000000 ≤ N) (r : TRule) (hl : r.Pats.length ≤ 1048576) (ha : nArgs r.Pats ≤ 1048576) (hp : ∀ p ∈ r.Pats, p.Args.length ≤ 1048576) : m_s_PosVars N r = some ((posNames r.Pats).foldl once []) := by
  unfold m_s_PosVars
  refine lp' hN r.Pats (by omega) (m_s_PosVars_l1 N r) (fun t s => some ((posNames t).foldl once s)) (fun s t => s.length + nArgs t ≤ 4294967290) [] (by simp; omega) (fun n s i x t h1 h2 h3 h4 h5 h6 hI ih => ?_) (fun n s i h1 h2 hI => ?_)
  · have hI' : s.length + (x.Args.length + nArgs t) ≤ 4294967290 := by simpa [nArgs] using hI
    have hpx := hp x h2
    simp only [m_s_PosVars_l1, h5, if_true, h4, Option.bind_some, vars_s hN x hpx, posNames]
    have hvl := onces_len (argVars x.Args) []
    have hal := argVars_len x.Args
    simp only [List.length_nil, Nat.zero_add] at hvl
    have key : m_s_PosVars_l2 N r i (m_s_PosVars_l1 N r n) ((argVars x.Args).foldl once []) N s 0 = if x.Not then some ((posNames t).foldl once s) else some ((posNames t).foldl once (((argVars x.Args).foldl once []).foldl once s)) := by
      cases hx : x.Not with
      | true =>
        obtain ⟨m, rfl⟩ : ∃ m, N = m + 1 := ⟨N - 1, by omega⟩
        have ih0 := ih s (by omega)
        simp only [m_s_PosVars_l2, h4, Option.bind_some, hx, Bool.not_true, h6, ih0]
        split <;> rfl
      | false =>
        refine lp' hN ((argVars x.Args).foldl once []) (by omega) (m_s_PosVars_l2 N r i (m_s_PosVars_l1 N r n) ((argVars x.Args).foldl once [])) (fun u s => some ((posNames t).foldl once (u.foldl once s))) (fun s u => s.length + u.length + nArgs t ≤ 4294967290) s (by omega) (fun n' s' i' y u g1 g2 g3 g4 g5 g6 gI gih => ?_) (fun n' s' i' g1 g2 gI => ?_)
        · simp only [List.length_cons] at gI
          simp only [m_s_PosVars_l2, g5, if_true, h4, Option.bind_some, hx, Bool.not_false, g4, hasS hN s' y (by omega), List.foldl_cons, g6]
          have := gih (once s' y) (by have := once_len s' y; omega)
          unfold once at this ⊢
          by_cases hm : y ∈ s'
          · simp only [hm, if_true] at this
            simpa [hm] using this
          · simp only [hm, if_false] at this
            simp only [hm, decide_false, Bool.not_false, if_true, app_ok (show s'.length + [y].length ≤ 4294967296 by simp; omega), Option.bind_some, if_false]
            exact this
        · simp only [m_s_PosVars_l2, g2, Bool.false_eq_true, if_false, Option.bind_some, h6]
          exact ih s' (by simp at gI; omega)
    rw [show (m_s_PosVars_l2 N r i (m_s_PosVars_l1 N r n) ((argVars x.Args).foldl once []) N s 0) = _ from key]
    cases hx : x.Not with
    | true => simp
    | false => simp [List.foldl_append, onces_dedup]
  · simp only [m_s_PosVars_l1, h2, Bool.false_eq_true, if_false]; rfl
end Go.Proofs.Ytmhckcoabhahpaa
namespace Go.Proofs.Ytmhckcoabhahpaa
open Eng
set_option linter.unusedVariables false
set_option linter.unusedSimpArgs false
/-- How many patterns are not Not. -/
def posCount : List TPat → Nat
  | [] => 0
  | p :: t => if p.Not then posCount t else posCount t + 1
theorem count_s {N : Nat} (hN : 1099000000000 ≤ N) (r : TRule) (hl : r.Pats.length ≤ 1048576) : m_s_PosCount N r = some (posCount r.Pats : Int) := by
  unfold m_s_PosCount
  have := lp' hN r.Pats (by omega) (m_s_PosCount_l1 N r) (fun t s => some (s + (posCount t : Int))) (fun s t => 0 ≤ s ∧ s + t.length ≤ 1048576) (0 : Int) (by simp; omega) (fun n s i x t h1 h2 h3 h4 h5 h6 hI ih => by
    simp only [List.length_cons] at hI
    simp only [m_s_PosCount_l1, h5, if_true, h4, Option.bind_some, h6, posCount]
    cases hx : x.Not with
    | true => simpa using ih s (by omega)
    | false =>
      rw [wr (n := s + 1) (by omega) (by omega)]
      have := ih (s + 1) (by omega)
      simp only [Bool.not_false, if_true, this, Bool.false_eq_true, if_false]
      congr 1; omega) (fun n s i h1 h2 hI => by simp only [m_s_PosCount_l1, h2, Bool.false_eq_true, if_false, posCount]; simp)
  simpa using this
end Go.Proofs.Ytmhckcoabhahpaa
namespace Go.Proofs.Ytmhckcoabhahpaa
open Eng
set_option linter.unusedVariables false
set_option linter.unusedSimpArgs false
def known (vs : List ByteArray) (a : TArg) : Bool := !decide (a.K = 1) || decide (a.S ∈ vs)
theorem known_s {N : Nat} (hN : 1099000000000 ≤ N) (a : TArg) (vs : List ByteArray) (h : vs.length ≤ 4294967296) : m_s_l9Known N a vs = some (known vs a) := by
  unfold m_s_l9Known known
  simp only [hasS hN vs a.S h, Option.bind_some, orNB]
end Go.Proofs.Ytmhckcoabhahpaa
namespace Go.Proofs.Ytmhckcoabhahpaa
open Eng
set_option linter.unusedVariables false
set_option linter.unusedSimpArgs false
def zv : TVal := ⟨0, 0, ⟨#[]⟩⟩
/-- What a name is bound to. -/
def look (p : List TBind) (n : ByteArray) : TVal × Bool := match p.find? (fun b => seq b.Name n) with
  | some b => (b.V, true)
  | none => (zv, false)
theorem look_cons (b : TBind) (p : List TBind) (n : ByteArray) : look (b :: p) n = if seq b.Name n = true then (b.V, true) else look p n := by
  unfold look; rw [List.find?_cons]
  cases seq b.Name n <;> simp
theorem look_s {N : Nat} (hN : 1099000000000 ≤ N) (p : List TBind) (n : ByteArray) (hl : p.length ≤ 4294967296) : m_s_BindOf N p n = some (look p n) := by
  unfold m_s_BindOf
  have : ∀ (k i : Nat), i ≤ p.length → p.length - i < k → m_s_BindOf_l1 N p n k i = some (look (p.drop i) n) := by
    intro k
    induction k with
    | zero => intro i _ h; omega
    | succ k ih =>
      intro i hi hk
      simp only [m_s_BindOf_l1]
      by_cases hlt : i < p.length
      · have c1 : decide ((i : Int) < (p.length : Int)) = true := decide_eq_true (by omega)
        rw [List.drop_eq_getElem_cons hlt, look_cons]
        simp only [c1, if_true, idx_nat_lt hlt, Option.bind_some, wr1 i (by omega), ih (i + 1) (by omega) (by omega)]
        cases seq p[i].Name n <;> rfl
      · have c1 : decide ((i : Int) < (p.length : Int)) = false := decide_eq_false (by omega)
        simp only [c1, Bool.false_eq_true, if_false]
        rw [List.drop_of_length_le (by omega)]; rfl
  exact this N 0 (by omega) (by omega)
/-- A pattern's questions, one after the other, against a fact's fields. b0: what is answered if one fails. -/
def matchArgs (b0 : List TBind) : List TArg → List TVal → List TBind → List TBind × Bool
  | a :: as, v :: vs, s =>
    if a.K = 2 then (if eqT_TVal a.V v = true then matchArgs b0 as vs s else (b0, false))
    else if a.K = 1 then (if (look s a.S).2 = true then (if eqT_TVal (look s a.S).1 v = true then matchArgs b0 as vs s else (b0, false)) else matchArgs b0 as vs (s ++ [⟨a.S, v⟩]))
    else matchArgs b0 as vs s
  | _, _, s => (s, true)
theorem match_loopS {N : Nat} (hN : 1099000000000 ≤ N) (p : TPat) (f : TFact) (b : List TBind) (he : p.Args.length = f.Fields.length) (hl : p.Args.length ≤ 1048576) (hb : b.length ≤ 2147483648) : ∀ (n i : Nat) (s : List TBind), i ≤ p.Args.length → p.Args.length - i < n → s.length ≤ 2147483648 + i →
    m_s_MatchPat_l1 N p f b n s i = some (matchArgs b (p.Args.drop i) (f.Fields.drop i) s) := by
  intro n
  induction n with
  | zero => intro i s _ h; omega
  | succ n ih =>
    intro i s hi hn hs
    simp only [m_s_MatchPat_l1]
    by_cases hlt : i < p.Args.length
    · have c1 : decide ((i : Int) < (p.Args.length : Int)) = true := decide_eq_true (by omega)
      have hlt' : i < f.Fields.length := by omega
      rw [List.drop_eq_getElem_cons hlt, List.drop_eq_getElem_cons hlt', matchArgs]
      simp only [c1, if_true, idx_nat_lt hlt, idx_nat_lt hlt', Option.bind_some, look_s hN s _ (show s.length ≤ 4294967296 by omega), app_nil (show b.length ≤ 4294967296 by omega), app_ok (show s.length + [(⟨p.Args[i].S, f.Fields[i]⟩ : TBind)].length ≤ 4294967296 by simp; omega), wr1 i (by omega), andS, orS]
      have ih1 := ih (i + 1) s (by omega) (by omega) (by omega)
      have ih2 := ih (i + 1) (s ++ [⟨p.Args[i].S, f.Fields[i]⟩]) (by omega) (by omega) (by simp; omega)
      by_cases k2 : p.Args[i].K = 2
      · have k1 : ¬ p.Args[i].K = 1 := by omega
        simp only [k2, k1, decide_true, decide_false, if_true, if_false, Bool.true_and, Bool.false_and, Bool.or_false, Bool.false_eq_true, Option.bind_some, show ¬ (2 : Int) = 1 by omega]
        cases eqT_TVal p.Args[i].V f.Fields[i] with
        | true => simpa using ih1
        | false => simp
      · by_cases k1 : p.Args[i].K = 1
        · simp only [k1, decide_true, decide_false, if_true, if_false, Bool.true_and, Bool.false_and, Bool.false_or, Bool.false_eq_true, Option.bind_some, show ¬ (1 : Int) = 2 by omega]
          cases (look s p.Args[i].S).2 with
          | true =>
            simp only [if_true, Bool.not_true, Bool.true_and, Bool.false_eq_true, if_false]
            cases eqT_TVal (look s p.Args[i].S).1 f.Fields[i] with
            | true => simpa using ih1
            | false => simp
          | false => simpa using ih2
        · simp only [k1, k2, decide_false, if_false, Bool.false_and, Bool.false_or, Bool.or_false, Bool.false_eq_true, Option.bind_some]
          simpa using ih1
    · have c1 : decide ((i : Int) < (p.Args.length : Int)) = false := decide_eq_false (by omega)
      simp only [c1, Bool.false_eq_true, if_false]
      rw [List.drop_of_length_le (by omega)]
      rfl
def matchPat (p : TPat) (f : TFact) (b : List TBind) : List TBind × Bool := if seq p.Kind f.Kind = true ∧ p.Args.length = f.Fields.length then matchArgs b p.Args f.Fields b else (b, false)
theorem match_s {N : Nat} (hN : 1099000000000 ≤ N) (p : TPat) (f : TFact) (b : List TBind) (hl : p.Args.length ≤ 1048576) (hb : b.length ≤ 2147483648) : m_s_MatchPat N p f b = some (matchPat p f b) := by
  unfold m_s_MatchPat matchPat
  rw [app_nil (by omega)]
  simp only [Option.bind_some, orS]
  cases hk : seq p.Kind f.Kind with
  | false => simp
  | true =>
    by_cases he : p.Args.length = f.Fields.length
    · have he' : decide ((p.Args.length : Int) = (f.Fields.length : Int)) = true := decide_eq_true (by omega)
      have := (match_loopS hN p f b he hl hb N 0 b (by omega) (by omega) (by omega))
      simp only [he', he, Bool.not_true, Bool.or_false, Bool.false_eq_true, if_false, true_and, if_true]
      simpa using this
    · have he' : decide ((p.Args.length : Int) = (f.Fields.length : Int)) = false := decide_eq_false (by omega)
      simp [he', he]
end Go.Proofs.Ytmhckcoabhahpaa
namespace Go.Proofs.Ytmhckcoabhahpaa
open Eng
set_option linter.unusedVariables false
set_option linter.unusedSimpArgs false
theorem look_i {N : Nat} (hN : 1099000000000 ≤ N) (p : List TBind) (n : ByteArray) (hl : p.length ≤ 4294967296) : m_i_BindOf N p n = some (look p n) := by
  unfold m_i_BindOf
  have : ∀ (k i : Nat), i ≤ p.length → p.length - i < k → m_i_BindOf_l1 N p n k i = some (look (p.drop i) n) := by
    intro k
    induction k with
    | zero => intro i _ h; omega
    | succ k ih =>
      intro i hi hk
      simp only [m_i_BindOf_l1]
      by_cases hlt : i < p.length
      · have c1 : decide ((i : Int) < (p.length : Int)) = true := decide_eq_true (by omega)
        rw [List.drop_eq_getElem_cons hlt, look_cons]
        simp only [c1, if_true, idx_nat_lt hlt, Option.bind_some, wr1 i (by omega), ih (i + 1) (by omega) (by omega)]
        cases seq p[i].Name n <;> rfl
      · have c1 : decide ((i : Int) < (p.length : Int)) = false := decide_eq_false (by omega)
        simp only [c1, Bool.false_eq_true, if_false]
        rw [List.drop_of_length_le (by omega)]; rfl
  exact this N 0 (by omega) (by omega)
theorem match_loopI {N : Nat} (hN : 1099000000000 ≤ N) (p : TPat) (f : TFact) (b : List TBind) (he : p.Args.length = f.Fields.length) (hl : p.Args.length ≤ 1048576) (hb : b.length ≤ 2147483648) : ∀ (n i : Nat) (s : List TBind), i ≤ p.Args.length → p.Args.length - i < n → s.length ≤ 2147483648 + i →
    m_i_MatchPat_l1 N p f b n s i = some (matchArgs b (p.Args.drop i) (f.Fields.drop i) s) := by
  intro n
  induction n with
  | zero => intro i s _ h; omega
  | succ n ih =>
    intro i s hi hn hs
    simp only [m_i_MatchPat_l1]
    by_cases hlt : i < p.Args.length
    · have c1 : decide ((i : Int) < (p.Args.length : Int)) = true := decide_eq_true (by omega)
      have hlt' : i < f.Fields.length := by omega
      rw [List.drop_eq_getElem_cons hlt, List.drop_eq_getElem_cons hlt', matchArgs]
      simp only [c1, if_true, idx_nat_lt hlt, idx_nat_lt hlt', Option.bind_some, look_i hN s _ (show s.length ≤ 4294967296 by omega), m_sl_Clone_Si_Bind_i_Bind, app_nil (show b.length ≤ 4294967296 by omega), app_ok (show s.length + [(⟨p.Args[i].S, f.Fields[i]⟩ : TBind)].length ≤ 4294967296 by simp; omega), wr1 i (by omega), andS, orS]
      have ih1 := ih (i + 1) s (by omega) (by omega) (by omega)
      have ih2 := ih (i + 1) (s ++ [⟨p.Args[i].S, f.Fields[i]⟩]) (by omega) (by omega) (by simp; omega)
      by_cases k2 : p.Args[i].K = 2
      · have k1 : ¬ p.Args[i].K = 1 := by omega
        simp only [k2, k1, decide_true, decide_false, if_true, if_false, Bool.true_and, Bool.false_and, Bool.or_false, Bool.false_eq_true, Option.bind_some, show ¬ (2 : Int) = 1 by omega]
        cases eqT_TVal p.Args[i].V f.Fields[i] with
        | true => simpa using ih1
        | false => simp
      · by_cases k1 : p.Args[i].K = 1
        · simp only [k1, decide_true, decide_false, if_true, if_false, Bool.true_and, Bool.false_and, Bool.false_or, Bool.false_eq_true, Option.bind_some, show ¬ (1 : Int) = 2 by omega]
          cases (look s p.Args[i].S).2 with
          | true =>
            simp only [if_true, Bool.not_true, Bool.true_and, Bool.false_eq_true, if_false]
            cases eqT_TVal (look s p.Args[i].S).1 f.Fields[i] with
            | true => simpa using ih1
            | false => simp
          | false => simpa using ih2
        · simp only [k1, k2, decide_false, if_false, Bool.false_and, Bool.false_or, Bool.or_false, Bool.false_eq_true, Option.bind_some]
          simpa using ih1
    · have c1 : decide ((i : Int) < (p.Args.length : Int)) = false := decide_eq_false (by omega)
      simp only [c1, Bool.false_eq_true, if_false]
      rw [List.drop_of_length_le (by omega)]
      rfl
theorem seq_comm' (a b : ByteArray) : seq a b = seq b a := by rw [seq_eq, seq_eq]; simp [eq_comm]
theorem match_i {N : Nat} (hN : 1099000000000 ≤ N) (p : TPat) (f : TFact) (b : List TBind) (hl : p.Args.length ≤ 1048576) (hb : b.length ≤ 2147483648) : m_i_MatchPat N p f b = some (matchPat p f b) := by
  unfold m_i_MatchPat matchPat m_sl_Clone_Si_Bind_i_Bind
  rw [app_nil (by omega), seq_comm' f.Kind p.Kind]
  simp only [Option.bind_some, orS]
  cases hk : seq p.Kind f.Kind with
  | false => simp
  | true =>
    by_cases he : p.Args.length = f.Fields.length
    · have he' : decide ((f.Fields.length : Int) = (p.Args.length : Int)) = true := decide_eq_true (by omega)
      have := (match_loopI hN p f b he hl hb N 0 b (by omega) (by omega) (by omega))
      simp only [he', he, Bool.not_true, Bool.or_false, Bool.false_eq_true, if_false, true_and, if_true]
      simpa using this
    · have he' : decide ((f.Fields.length : Int) = (p.Args.length : Int)) = false := decide_eq_false (by omega)
      simp [he', he]
end Go.Proofs.Ytmhckcoabhahpaa
namespace Go.Proofs.Ytmhckcoabhahpaa
open Eng
set_option linter.unusedVariables false
set_option linter.unusedSimpArgs false
def hits (p : TPat) (l : List TBind) (xs : List TItem) : Nat := xs.countP fun x => (matchPat p x.F l).2
def blocked (ps : List TPat) (xs : List TItem) (l : List TBind) : Bool := ps.any fun p => p.Not && xs.any fun x => (matchPat p x.F l).2
theorem hits_pos (p : TPat) (l : List TBind) (xs : List TItem) : decide ((0 : Int) < (hits p l xs : Int)) = xs.any fun x => (matchPat p x.F l).2 := by
  rw [Bool.eq_iff_iff, decide_eq_true_eq, List.any_eq_true]
  have : (0 : Int) < (hits p l xs : Int) ↔ 0 < hits p l xs := by omega
  rw [this, hits, List.countP_pos_iff]
theorem blocked_s {N : Nat} (hN : 1099000000000 ≤ N) (r : TRule) (s : TStore) (l : List TBind) (hr : r.Pats.length ≤ 1048576) (hp : ∀ p ∈ r.Pats, p.Args.length ≤ 1048576) (hs : s.Items.length ≤ 1048576) (hb : l.length ≤ 2147483648) : m_s_Blocked N r s l = some (blocked r.Pats s.Items l) := by
  unfold m_s_Blocked
  refine lp0 hN r.Pats (by omega) (m_s_Blocked_l1 N r s l) (fun t => some (blocked t s.Items l)) (fun n i x t g1 g2 g3 g4 g5 g6 g7 => ?_) (fun n i g1 g2 => ?_)
  · simp only [m_s_Blocked_l1, g5, if_true]
    have inner : m_s_Blocked_l2 N r s l i (m_s_Blocked_l1 N r s l n) N 0 = some ((x.Not && s.Items.any fun y => (matchPat x y.F l).2) || blocked t s.Items l) := by
      refine lp0 hN s.Items (by omega) (m_s_Blocked_l2 N r s l i (m_s_Blocked_l1 N r s l n)) (fun u => some ((x.Not && u.any fun y => (matchPat x y.F l).2) || blocked t s.Items l)) (fun n' i' y u k1 k2 k3 k4 k5 k6 k7 => ?_) (fun n' i' k1 k2 => ?_)
      · simp only [m_s_Blocked_l2, k5, if_true, g4, Option.bind_some, k4, match_s hN x y.F l (hp x g2) hb, k6, k7, g6, g7, List.any_cons]
        cases x.Not <;> cases (matchPat x y.F l).2 <;> simp
      · simp only [m_s_Blocked_l2, k2, Bool.false_eq_true, if_false, Option.bind_some, g6, g7]; simp
    rw [inner]; unfold blocked; rw [List.any_cons]
  · simp only [m_s_Blocked_l1, g2, Bool.false_eq_true, if_false]; rfl
end Go.Proofs.Ytmhckcoabhahpaa
namespace Go.Proofs.Ytmhckcoabhahpaa
open Eng
set_option linter.unusedVariables false
set_option linter.unusedSimpArgs false
theorem hits_i {N : Nat} (hN : 1099000000000 ≤ N) (p : TPat) (s : TStore) (l : List TBind) (hp : p.Args.length ≤ 1048576) (hs : s.Items.length ≤ 1048576) (hb : l.length ≤ 2147483648) : m_i_hitsIn N p s l = some (hits p l s.Items : Int) := by
  unfold m_i_hitsIn
  have := lp' hN s.Items (by omega) (m_i_hitsIn_l1 N p s l) (fun t k => some (k + (hits p l t : Int))) (fun k t => 0 ≤ k ∧ k + t.length ≤ 1048576) (0 : Int) (by simp; omega) (fun n k i x t h1 h2 h3 h4 h5 h6 hI ih => by
    simp only [List.length_cons] at hI
    simp only [m_i_hitsIn_l1, h5, if_true, h4, Option.bind_some, match_i hN p x.F l hp hb, h6]
    unfold hits at ih ⊢
    rw [List.countP_cons]
    cases (matchPat p x.F l).2 with
    | true =>
      rw [wr (n := k + 1) (by omega) (by omega)]
      simp only [if_true, ih (k + 1) (by omega)]; congr 1; omega
    | false => simpa using ih k (by omega)) (fun n k i h1 h2 hI => by simp only [m_i_hitsIn_l1, h2, Bool.false_eq_true, if_false, hits]; simp)
  simpa using this
theorem blocked_i {N : Nat} (hN : 1099000000000 ≤ N) (r : TRule) (s : TStore) (l : List TBind) (hr : r.Pats.length ≤ 1048576) (hp : ∀ p ∈ r.Pats, p.Args.length ≤ 1048576) (hs : s.Items.length ≤ 1048576) (hb : l.length ≤ 2147483648) : m_i_Blocked N r s l = some (blocked r.Pats s.Items l) := by
  unfold m_i_Blocked
  refine lp0 hN r.Pats (by omega) (m_i_Blocked_l1 N r s l) (fun t => some (blocked t s.Items l)) (fun n i x t g1 g2 g3 g4 g5 g6 g7 => ?_) (fun n i g1 g2 => ?_)
  · simp only [m_i_Blocked_l1, g5, if_true, g4, Option.bind_some, hits_i hN x s l (hp x g2) hs hb, hits_pos, g6, g7, andS]
    unfold blocked
    rw [List.any_cons]
    cases (x.Not && s.Items.any fun y => (matchPat x y.F l).2) <;> simp
  · simp only [m_i_Blocked_l1, g2, Bool.false_eq_true, if_false]; rfl
end Go.Proofs.Ytmhckcoabhahpaa
namespace Go.Proofs.Ytmhckcoabhahpaa
open Eng
set_option linter.unusedVariables false
set_option linter.unusedSimpArgs false
theorem sameVs {N : Nat} (hN : 1099000000000 ≤ N) (x y : List TVal) (hl : x.length ≤ 4294967296) : m_s_l3SameVals N x y = some (decide (x = y)) := by
  unfold m_s_l3SameVals
  by_cases c : x.length = y.length
  · rw [if_neg (by simp; omega)]
    refine (eqloop (m_s_l3SameVals_l1 N x y) x y c (by omega) (fun a b => some (decide (a = b))) (fun a _ b _ => rfl) (fun k i => by simp only [m_s_l3SameVals_l1, eqT_TVal_eq, Option.bind_some]) N 0 (by omega) (by omega)).trans ?_
    simp
  · rw [if_pos (by simp; omega)]
    have : ¬ x = y := fun e => c (by rw [e])
    simp [this]
end Go.Proofs.Ytmhckcoabhahpaa
namespace Go.Proofs.Ytmhckcoabhahpaa
open Eng
set_option linter.unusedVariables false
set_option linter.unusedSimpArgs false
theorem sameF_s {N : Nat} (hN : 1099000000000 ≤ N) (x y : TFact) (hl : x.Fields.length ≤ 4294967296) : m_s_SameFact N x y = some (decide (x = y)) := by
  unfold m_s_SameFact
  simp only [sameVs hN _ _ hl, Option.bind_some, andS, seq_eq]
  obtain ⟨a, b⟩ := x; obtain ⟨c, d⟩ := y
  simp only [TFact.mk.injEq, Bool.decide_and]
/-- The Id of the first item with this fact; 0: there is none. -/
def idOf (xs : List TItem) (f : TFact) : Int := match xs.find? (fun x => decide (x.F = f)) with | some x => x.Id | none => 0
theorem idOf_cons (x : TItem) (xs : List TItem) (f : TFact) : idOf (x :: xs) f = if x.F = f then x.Id else idOf xs f := by
  unfold idOf
  rw [List.find?_cons]
  by_cases h : x.F = f <;> simp [h]
theorem idOf_s {N : Nat} (hN : 1099000000000 ≤ N) (s : TStore) (f : TFact) (hl : s.Items.length ≤ 1048576) (hx : ∀ x ∈ s.Items, x.F.Fields.length ≤ 1048576) : m_s_IdOf N s f = some (idOf s.Items f) := by
  unfold m_s_IdOf
  refine lp0 hN s.Items (by omega) (m_s_IdOf_l1 N s f) (fun t => some (idOf t f)) (fun n i x t h1 h2 h3 h4 h5 h6 h7 => ?_) (fun n i h1 h2 => ?_)
  · simp only [m_s_IdOf_l1, h5, if_true, h4, Option.bind_some, sameF_s hN x.F f (by have := hx x h2; omega), h6, h7, idOf_cons]
    by_cases h : x.F = f <;> simp [h]
  · simp only [m_s_IdOf_l1, h2, Bool.false_eq_true, if_false]; rfl
end Go.Proofs.Ytmhckcoabhahpaa
namespace Go.Proofs.Ytmhckcoabhahpaa
open Eng
set_option linter.unusedVariables false
set_option linter.unusedSimpArgs false
theorem and_le (i : Int) (m : Nat) (h : m < 4611686018427387904) : 0 ≤ andI .i64 i (m : Int) ∧ andI .i64 i (m : Int) ≤ (m : Int) := by
  unfold andI
  have h1 : ((BitVec.ofInt IntKind.i64.bits i) &&& (BitVec.ofInt IntKind.i64.bits (m : Int))).toNat ≤ m := by
    rw [BitVec.toNat_and]
    have h2 : (BitVec.ofInt IntKind.i64.bits (m : Int)).toNat = m := by
      rw [BitVec.toNat_ofInt]
      have : ((2 ^ IntKind.i64.bits : Nat) : Int) = 18446744073709551616 := by decide
      rw [this, Int.emod_eq_of_lt (by omega) (by omega)]
      simp
    rw [h2]; exact Nat.and_le_right
  rw [wr (by omega) (by omega)]
  omega
theorem and255 (i : Int) : 0 ≤ andI .i64 i 255 ∧ andI .i64 i 255 ≤ 255 := and_le i 255 (by omega)
/-- A cursor over the bytes b. -/
def GC (b : List Int) (c : Tl1Cur) : Prop := c.b = b ∧ 0 ≤ c.i ∧ c.i ≤ (b.length : Int)
theorem GC.re {b : List Int} {c d : Tl1Cur} (h : GC b c) (h' : d.b = b) : GC b (⟨d.b, c.i, c.h⟩ : Tl1Cur) := ⟨h', h.2⟩
theorem new_ok {N : Nat} (hN : 1099000000000 ≤ N) (b : List Int) (hb : b.length ≤ 1048576) : ∃ c, m_s_l1New N b = some c ∧ GC b c := by
  unfold m_s_l1New
  have : ∀ (n i : Nat) (h : Int), i ≤ b.length → b.length - i < n → ∃ c, m_s_l1New_l1 N b n h i = some c ∧ GC b c := by
    intro n
    induction n with
    | zero => intro i h _ h'; omega
    | succ n ih =>
      intro i h hi hn
      simp only [m_s_l1New_l1]
      by_cases hlt : i < b.length
      · have c1 : decide ((i : Int) < (b.length : Int)) = true := decide_eq_true (by omega)
        simp only [c1, if_true, Option.bind_some, idx_nat_lt hlt, wr1 i (by omega)]
        split
        · exact ih (i + 1) _ (by omega) (by omega)
        · exact ⟨_, rfl, rfl, by simp, by simp⟩
      · have c1 : decide ((i : Int) < (b.length : Int)) = false := decide_eq_false (by omega)
        simp only [c1, Bool.false_eq_true, if_false, Option.bind_some]
        exact ⟨_, rfl, rfl, by simp, by simp⟩
  exact this N 0 _ (by omega) (by omega)
theorem byte_ok {N : Nat} (b : List Int) (hb : b.length ≤ 1048576) (c : Tl1Cur) (hc : GC b c) : ∃ v d, m_s_l1Byte N c = some (v, d) ∧ GC b d ∧ 0 ≤ v ∧ v ≤ 255 := by
  obtain ⟨rfl, h0, h1⟩ := hc
  unfold m_s_l1Byte
  by_cases hlt : c.i < (c.b.length : Int)
  · obtain ⟨i, hi⟩ : ∃ i : Nat, c.i = (i : Int) := ⟨c.i.toNat, by omega⟩
    have c1 : decide (c.i < (c.b.length : Int)) = true := decide_eq_true hlt
    rw [hi] at h0 h1 hlt ⊢
    rw [hi] at c1
    simp only [c1, if_true, idx_nat_lt (show i < c.b.length by omega), Option.bind_some, wr1 i (by omega)]
    exact ⟨_, _, rfl, ⟨rfl, by simp; omega, by simp; omega⟩, and255 _⟩
  · have c1 : decide (c.i < (c.b.length : Int)) = false := decide_eq_false hlt
    simp only [c1, Bool.false_eq_true, if_false]
    exact ⟨_, _, rfl, ⟨rfl, h0, h1⟩, and255 _⟩
theorem rem_ok {v n : Int} (hv : 0 ≤ v) (hn : 0 < n) : ∃ r, remI v n = some r ∧ 0 ≤ r ∧ r < n := by
  unfold remI
  rw [if_neg (by omega), Int.tmod_eq_emod_of_nonneg hv]
  exact ⟨_, rfl, Int.emod_nonneg _ (by omega), Int.emod_lt_of_pos _ hn⟩
theorem below_ok {N : Nat} (b : List Int) (hb : b.length ≤ 1048576) (c : Tl1Cur) (hc : GC b c) (n : Int) : ∃ v d, m_s_l1Below N c n = some (v, d) ∧ GC b d ∧ 0 ≤ v ∧ (0 < n → v < n) ∧ (n ≤ 0 → v = 0) := by
  unfold m_s_l1Below
  by_cases h0 : n ≤ 0
  · simp only [h0, decide_true, if_true]
    exact ⟨_, _, rfl, hc, by omega, by omega, fun _ => rfl⟩
  · simp only [h0, decide_false, Bool.false_eq_true, if_false]
    by_cases h1 : n ≤ 256
    · simp only [h1, decide_true, if_true]
      obtain ⟨v, d, e, g, a1, a2⟩ := byte_ok (N := N) b hb c hc
      obtain ⟨r, er, r0, r1⟩ := rem_ok a1 (show 0 < n by omega)
      simp only [e, Option.bind_some, er]
      exact ⟨_, _, rfl, g.re hc.1 |> fun _ => ⟨hc.1, g.2⟩, r0, fun _ => r1, fun h => h.elim⟩
    · simp only [h1, decide_false, Bool.false_eq_true, if_false]
      obtain ⟨v1, d1, e1, g1, a1, a1'⟩ := byte_ok (N := N) b hb c hc
      simp only [e1, Option.bind_some]
      obtain ⟨v2, d2, e2, g2, a2, a2'⟩ := byte_ok (N := N) b hb ⟨c.b, d1.i, d1.h⟩ ⟨hc.1, g1.2⟩
      simp only [e2, Option.bind_some]
      obtain ⟨v3, d3, e3, g3, a3, a3'⟩ := byte_ok (N := N) b hb ⟨c.b, d2.i, d2.h⟩ ⟨hc.1, g2.2⟩
      simp only [e3, Option.bind_some]
      rw [wr (n := v1 * 65536) (by omega) (by omega), wr (n := v2 * 256) (by omega) (by omega), wr (n := v1 * 65536 + v2 * 256) (by omega) (by omega), wr (n := v1 * 65536 + v2 * 256 + v3) (by omega) (by omega)]
      obtain ⟨r, er, r0, r1⟩ := rem_ok (show 0 ≤ v1 * 65536 + v2 * 256 + v3 by omega) (show 0 < n by omega)
      simp only [er, Option.bind_some]
      exact ⟨_, _, rfl, ⟨hc.1, g3.2⟩, r0, fun _ => r1, fun h => h.elim⟩
theorem wrm {s : Int} (h : 0 < s) (h' : s ≤ 4611686018427387904) : IntKind.i64.wrap (s - 1) = s - 1 := wr (by omega) (by omega)
end Go.Proofs.Ytmhckcoabhahpaa
namespace Go.Proofs.Ytmhckcoabhahpaa
open Eng
set_option linter.unusedVariables false
set_option linter.unusedSimpArgs false
/-- A draw does not fail; what is drawn has Q. -/
def Dr {α : Type} (b : List Int) (Q : α → Prop) (o : Option (α × Tl1Cur)) : Prop := ∃ v d, o = some (v, d) ∧ GC b d ∧ Q v
theorem Dr.bind {α β : Type} {b : List Int} {Q : α → Prop} {R : β → Prop} {o : Option (α × Tl1Cur)} {f : α × Tl1Cur → Option (β × Tl1Cur)} (h : Dr b Q o) (k : ∀ v d, GC b d → Q v → Dr b R (f (v, d))) : Dr b R (o.bind f) := by
  obtain ⟨v, d, rfl, g, q⟩ := h; exact k v d g q
theorem Dr.bindO {γ β : Type} {b : List Int} {R : β → Prop} {x : γ} {o : Option γ} {f : γ → Option (β × Tl1Cur)} (h : o = some x) (k : Dr b R (f x)) : Dr b R (o.bind f) := by
  rw [h]; exact k
theorem Dr.ret {α : Type} {b : List Int} {Q : α → Prop} {v : α} {c : Tl1Cur} (g : GC b c) (q : Q v) : Dr b Q (some (v, c)) := ⟨v, c, rfl, g, q⟩
theorem Dr.ite {α : Type} {b : List Int} {Q : α → Prop} {x y : Option (α × Tl1Cur)} {p : Bool} (h1 : p = true → Dr b Q x) (h2 : p = false → Dr b Q y) : Dr b Q (if p = true then x else y) := by
  cases p with
  | true => exact h1 rfl
  | false => exact h2 rfl
theorem GC.at {b : List Int} {c d : Tl1Cur} (g : GC b d) (h : c.b = b) : GC b (⟨c.b, d.i, d.h⟩ : Tl1Cur) := ⟨h, g.2⟩
theorem below_d {N : Nat} {b : List Int} (hb : b.length ≤ 1048576) {c : Tl1Cur} (g : GC b c) (n : Int) (hn : 0 < n) : Dr b (fun v => 0 ≤ v ∧ v < n) (m_s_l1Below N c n) := by
  obtain ⟨v, d, e, g, h1, h2, -⟩ := below_ok (N := N) b hb c g n
  exact ⟨v, d, e, g, h1, h2 hn⟩
theorem below_d' {N : Nat} {b : List Int} (hb : b.length ≤ 1048576) {c : Tl1Cur} (g : GC b c) (n : Int) : Dr b (fun v => 0 ≤ v ∧ (0 < n → v < n)) (m_s_l1Below N c n) := by
  obtain ⟨v, d, e, g, h1, h2, -⟩ := below_ok (N := N) b hb c g n
  exact ⟨v, d, e, g, h1, h2⟩
/-- Two rows, the second not long. -/
theorem app_sm {α : Type} {xs ys : List α} (h : xs.length ≤ 4194304) (h' : ys.length ≤ 4194304) : app xs ys = some (xs ++ ys) := app_ok (by omega)
theorem mem_snoc {α : Type} {P : α → Prop} {xs : List α} {x : α} (h : ∀ a ∈ xs, P a) (h' : P x) : ∀ a ∈ xs ++ [x], P a := fun a ha => by
  rcases List.mem_append.1 ha with h1 | h1
  · exact h a h1
  · simp at h1; rw [h1]; exact h'
end Go.Proofs.Ytmhckcoabhahpaa
namespace Go.Proofs.Ytmhckcoabhahpaa
open Eng
theorem once_d {N : Nat} {b : List Int} (hb : b.length ≤ 1048576) {c : Tl1Cur} (g : GC b c) (n : Int) : Dr b (fun _ => True) (m_s_l1Once N c n) := by
  unfold m_s_l1Once
  exact (below_d' hb g n).bind fun v d gd _ => .ret (gd.at g.1) trivial
end Go.Proofs.Ytmhckcoabhahpaa
namespace Go.Proofs.Ytmhckcoabhahpaa
open Eng
theorem str_d {N : Nat} {b : List Int} (hb : b.length ≤ 1048576) {c : Tl1Cur} (g : GC b c) (l : List ByteArray) (h : 0 < l.length) : Dr b (fun s => s ∈ l) (m_s_l1Str N c l) := by
  unfold m_s_l1Str
  refine (below_d hb g (l.length : Int) (by omega)).bind fun v d gd q => ?_
  obtain ⟨j, rfl⟩ : ∃ j : Nat, v = (j : Int) := ⟨v.toNat, by omega⟩
  exact .bindO (idx_nat_lt (show j < l.length by omega)) (.ret (gd.at g.1) (List.getElem_mem _))
end Go.Proofs.Ytmhckcoabhahpaa
namespace Go.Proofs.Ytmhckcoabhahpaa
open Eng
theorem int_d {N : Nat} {b : List Int} (hb : b.length ≤ 1048576) {c : Tl1Cur} (g : GC b c) (l : List Int) (h : 0 < l.length) : Dr b (fun s => s ∈ l) (m_s_l1Int N c l) := by
  unfold m_s_l1Int
  refine (below_d hb g (l.length : Int) (by omega)).bind fun v d gd q => ?_
  obtain ⟨j, rfl⟩ : ∃ j : Nat, v = (j : Int) := ⟨v.toNat, by omega⟩
  exact .bindO (idx_nat_lt (show j < l.length by omega)) (.ret (gd.at g.1) (List.getElem_mem _))
end Go.Proofs.Ytmhckcoabhahpaa
namespace Go.Proofs.Ytmhckcoabhahpaa
open Eng
def drVal (v : TVal) : Prop := (∃ n : Int, 1 ≤ n ∧ n ≤ 3 ∧ v = ⟨1, n, ⟨#[]⟩⟩) ∨ ∃ s ∈ ([⟨#[97]⟩, ⟨#[98]⟩] : List ByteArray), v = ⟨2, 0, s⟩
theorem small_d {N : Nat} {b : List Int} (hb : b.length ≤ 1048576) {c : Tl1Cur} (g : GC b c) : Dr b drVal (m_s_l3Small N c) := by
  unfold m_s_l3Small
  refine (once_d hb g 2).bind fun v d gd _ => .ite (fun _ => ?_) fun _ => ?_
  · exact (below_d hb (gd.at g.1) 3 (by omega)).bind fun w e ge q => .ret (ge.at g.1) (.inl ⟨_, by dsimp only; rw [wr (by omega) (by omega)]; omega, by dsimp only; rw [wr (by omega) (by omega)]; omega, rfl⟩)
  · exact (str_d hb (gd.at g.1) _ (by decide)).bind fun w e ge q => .ret (ge.at g.1) (.inr ⟨w, q, rfl⟩)
end Go.Proofs.Ytmhckcoabhahpaa
namespace Go.Proofs.Ytmhckcoabhahpaa
open Eng
set_option linter.unusedVariables false
def drArg (a : TArg) : Prop := a = ⟨3, ⟨#[]⟩, ⟨0, 0, ⟨#[]⟩⟩⟩ ∨ (∃ v, drVal v ∧ a = ⟨2, ⟨#[]⟩, v⟩) ∨ ∃ s ∈ ([⟨#[88]⟩, ⟨#[89]⟩, ⟨#[90]⟩, ⟨#[88]⟩] : List ByteArray), a = ⟨1, s, ⟨0, 0, ⟨#[]⟩⟩⟩
theorem arg_d {N : Nat} {b : List Int} (hb : b.length ≤ 1048576) {c : Tl1Cur} (g : GC b c) : Dr b drArg (m_s_l6Arg N c) := by
  unfold m_s_l6Arg
  refine (below_d hb g 6 (by omega)).bind fun v d gd _ => .ite (fun _ => .ret (gd.at g.1) (.inl rfl)) fun _ => .ite (fun _ => ?_) fun _ => ?_
  · exact (small_d hb (gd.at g.1)).bind fun w e ge q => .bindO rfl (.ret (ge.at g.1) (.inr (.inl ⟨w, q, rfl⟩)))
  · exact (str_d hb (gd.at g.1) _ (by decide)).bind fun w e ge q => .bindO rfl (.ret (ge.at g.1) (.inr (.inr ⟨w, q, rfl⟩)))
def drPat (n : Bool) (p : TPat) : Prop := p.Not = n ∧ p.Kind ∈ ([⟨#[111, 114, 100, 101, 114]⟩, ⟨#[112, 97, 105, 100]⟩, ⟨#[105, 116, 101, 109]⟩, ⟨#[111, 114, 100, 101, 114]⟩] : List ByteArray) ∧ p.Args.length ≤ 2 ∧ ∀ a ∈ p.Args, drArg a
theorem pat_d {N : Nat} (hN : 1099000000000 ≤ N) {b : List Int} (hb : b.length ≤ 1048576) {c : Tl1Cur} (g : GC b c) (nt : Bool) : Dr b (drPat nt) (m_s_l6Draw N c nt) := by
  unfold m_s_l6Draw
  refine (str_d hb g _ (by decide)).bind fun k d gd hk => ?_
  have lp : ∀ (m : Nat), m ≤ 2 → ∀ (n i : Nat) (s : List TArg) (x h : Int), i ≤ m → m - i < n → s.length = i → (∀ a ∈ s, drArg a) → GC b ⟨c.b, x, h⟩ → Dr b (drPat nt) (m_s_l6Draw_l2 N c nt (k, d) (m : Int) n s (i : Int) x h) := by
    intro m hm n
    induction n with
    | zero => intro i _ _ _ _ h; omega
    | succ n ih =>
      intro i s x h hi hn hs ha gx
      simp only [m_s_l6Draw_l2]
      refine .ite (fun hlt => ?_) (fun hge => .ret gx ⟨rfl, hk, by dsimp only; omega, ha⟩)
      have hlt := of_decide_eq_true hlt
      refine (arg_d hb gx).bind fun a e ge q => .bindO (app_sm (by omega) (by simp)) ?_
      rw [wr1 i (by omega)]
      exact ih (i + 1) _ _ _ (by omega) (by omega) (by simp; omega) (mem_snoc ha q) (ge.at (c := ⟨c.b, x, h⟩) gx.1)
  exact .ite (fun _ => lp 2 (by omega) N 0 [] _ _ (by omega) (by omega) rfl (by simp) (gd.at g.1)) (fun _ => lp 1 (by omega) N 0 [] _ _ (by omega) (by omega) rfl (by simp) (gd.at g.1))
end Go.Proofs.Ytmhckcoabhahpaa
namespace Go.Proofs.Ytmhckcoabhahpaa
open Eng
set_option linter.unusedVariables false
def drTerm (a : TArg) : Prop := (∃ v, drVal v ∧ a = ⟨2, ⟨#[]⟩, v⟩) ∨ ∃ s ∈ ([⟨#[88]⟩, ⟨#[89]⟩, ⟨#[90]⟩, ⟨#[88]⟩] : List ByteArray), a = ⟨1, s, ⟨0, 0, ⟨#[]⟩⟩⟩
theorem term_d {N : Nat} {b : List Int} (hb : b.length ≤ 1048576) {c : Tl1Cur} (g : GC b c) : Dr b drTerm (m_s_l7Arg N c) := by
  unfold m_s_l7Arg
  refine (once_d hb g 3).bind fun v d gd _ => .ite (fun _ => ?_) fun _ => ?_
  · exact (small_d hb (gd.at g.1)).bind fun w e ge q => .bindO rfl (.ret (ge.at g.1) (.inl ⟨w, q, rfl⟩))
  · exact (str_d hb (gd.at g.1) _ (by decide)).bind fun w e ge q => .bindO rfl (.ret (ge.at g.1) (.inr ⟨w, (show ∀ s ∈ ([⟨#[88]⟩, ⟨#[89]⟩] : List ByteArray), s ∈ ([⟨#[88]⟩, ⟨#[89]⟩, ⟨#[90]⟩, ⟨#[88]⟩] : List ByteArray) by simp) w q, rfl⟩))
def drCond (c : TCond) : Prop := 1 ≤ c.Op ∧ c.Op ≤ 3 ∧ drTerm c.L ∧ drTerm c.R
theorem cond_d {N : Nat} {b : List Int} (hb : b.length ≤ 1048576) {c : Tl1Cur} (g : GC b c) : Dr b drCond (m_s_l7Draw N c) := by
  unfold m_s_l7Draw
  refine (below_d hb g 3 (by omega)).bind fun v d gd q => (term_d hb (gd.at g.1)).bind fun l e ge ql => (term_d hb (ge.at g.1)).bind fun r f gf qr => .ret (gf.at g.1) ⟨?_, ?_, ql, qr⟩
  · dsimp only; rw [wr (by omega) (by omega)]; omega
  · dsimp only; rw [wr (by omega) (by omega)]; omega
end Go.Proofs.Ytmhckcoabhahpaa
namespace Go.Proofs.Ytmhckcoabhahpaa
open Eng
set_option linter.unusedVariables false
def noArg : TArg := ⟨0, ⟨#[]⟩, ⟨0, 0, ⟨#[]⟩⟩⟩
/-- An expression whose arguments have T. -/
def exprW (T : TArg → Prop) (e : TExpr) : Prop := T e.L ∧ ((e.Op = ⟨#[]⟩ ∧ e.R = noArg) ∨ e.Op ∈ ([⟨#[43]⟩, ⟨#[45]⟩] : List ByteArray) ∧ T e.R)
theorem expr_d {N : Nat} {b : List Int} (hb : b.length ≤ 1048576) {c : Tl1Cur} (g : GC b c) : Dr b (exprW drTerm) (m_s_l8Expr N c) := by
  unfold m_s_l8Expr
  refine (term_d hb g).bind fun l d gd ql => (once_d hb (gd.at g.1) 4).bind fun v e ge _ => .ite (fun _ => ?_) fun _ => ?_
  · exact (str_d hb (ge.at g.1) _ (by decide)).bind fun o f gf qo => (term_d hb (gf.at g.1)).bind fun r k gk qr => .ret (gk.at g.1) ⟨ql, .inr ⟨qo, qr⟩⟩
  · exact .ret (ge.at g.1) ⟨ql, .inl ⟨rfl, rfl⟩⟩
/-- A drawn act; pos: one more than the greatest place that may be dropped. -/
def actW (T : TArg → Prop) (pos : Int) (a : TAct) : Prop := a.Args.length ≤ 2 ∧ (∀ e ∈ a.Args, exprW T e) ∧
  ((a.Kind = 2 ∧ a.Name = ⟨#[]⟩ ∧ a.Args = [] ∧ 0 ≤ a.N ∧ (0 < pos → a.N < pos) ∧ a.Undo = ⟨#[]⟩) ∨
   ((a.Kind = 5 ∨ a.Kind = 6) ∧ a.Name = ⟨#[]⟩ ∧ a.Args = [] ∧ a.N = 0 ∧ a.Undo = ⟨#[]⟩) ∨
   ((a.Kind = 1 ∨ a.Kind = 3 ∨ a.Kind = 4) ∧ a.Name ∈ ([⟨#[111, 114, 100, 101, 114]⟩, ⟨#[112, 97, 105, 100]⟩, ⟨#[105, 116, 101, 109]⟩, ⟨#[115, 104, 105, 112]⟩, ⟨#[99, 104, 97, 114, 103, 101]⟩] : List ByteArray) ∧
     (a.N = 0 ∨ a.Kind = 4 ∧ a.N ∈ ([0, 1, 5, 100000] : List Int)) ∧ (a.Undo = ⟨#[]⟩ ∨ a.Kind = 3 ∧ a.Undo ∈ ([⟨#[114, 101, 102, 117, 110, 100]⟩, ⟨#[99, 97, 110, 99, 101, 108]⟩] : List ByteArray))))
theorem act_d {N : Nat} (hN : 1099000000000 ≤ N) {b : List Int} (hb : b.length ≤ 1048576) {c : Tl1Cur} (g : GC b c) (pos : Int) : Dr b (actW drTerm pos) (m_s_l8Draw N c pos) := by
  unfold m_s_l8Draw
  refine (int_d hb g _ (by decide)).bind fun k d gd hk => ?_
  dsimp only
  by_cases k2 : k = 2
  · refine .ite (fun _ => ?_) (fun h => absurd k2 (of_decide_eq_false h))
    exact (below_d' hb (gd.at g.1) pos).bind fun v e ge q => .ret (ge.at g.1) ⟨by simp, by simp, .inl ⟨k2, rfl, rfl, q.1, q.2, rfl⟩⟩
  refine .ite (fun h => absurd (of_decide_eq_true h) k2) (fun _ => ?_)
  have j5 : ∀ (nm : ByteArray) (d0 : Tl1Cur) (s3 : List TExpr) (n : Int) (q : Bool) (x h : Int), GC b ⟨c.b, x, h⟩ → (q = true → k = 3) →
      (∀ u, (u = (⟨#[]⟩ : ByteArray) ∨ k = 3 ∧ u ∈ ([⟨#[114, 101, 102, 117, 110, 100]⟩, ⟨#[99, 97, 110, 99, 101, 108]⟩] : List ByteArray)) → actW drTerm pos ⟨k, nm, s3, n, u⟩) → Dr b (actW drTerm pos) (m_s_l8Draw_j5 N c (k, d) (nm, d0) s3 n q x h) := by
    intro nm d0 s3 n q x h gx hq hu
    unfold m_s_l8Draw_j5
    refine .ite (fun hq' => ?_) (fun _ => .ret gx (hu _ (.inl rfl)))
    exact (str_d hb gx _ (by decide)).bind fun u e ge qu => .ret (ge.at (c := ⟨c.b, x, h⟩) gx.1) (hu _ (.inr ⟨hq hq', qu⟩))
  have j4 : ∀ (nm : ByteArray) (d0 : Tl1Cur) (s3 : List TExpr) (n : Int) (x h : Int), GC b ⟨c.b, x, h⟩ →
      (∀ u, (u = (⟨#[]⟩ : ByteArray) ∨ k = 3 ∧ u ∈ ([⟨#[114, 101, 102, 117, 110, 100]⟩, ⟨#[99, 97, 110, 99, 101, 108]⟩] : List ByteArray)) → actW drTerm pos ⟨k, nm, s3, n, u⟩) → Dr b (actW drTerm pos) (m_s_l8Draw_j4 N c (k, d) (nm, d0) s3 x h n) := by
    intro nm d0 s3 n x h gx hu
    unfold m_s_l8Draw_j4
    refine .ite (fun h3 => ?_) (fun _ => j5 _ _ _ _ _ _ _ gx (fun h => by simp at h) hu)
    exact (once_d hb gx 2).bind fun u e ge _ => j5 _ _ _ _ _ _ _ (ge.at (c := ⟨c.b, x, h⟩) gx.1) (fun _ => of_decide_eq_true h3) hu
  have lp : ∀ (nm : ByteArray) (d0 : Tl1Cur), nm ∈ ([⟨#[111, 114, 100, 101, 114]⟩, ⟨#[112, 97, 105, 100]⟩, ⟨#[105, 116, 101, 109]⟩, ⟨#[115, 104, 105, 112]⟩, ⟨#[99, 104, 97, 114, 103, 101]⟩] : List ByteArray) → (k = 1 ∨ k = 3 ∨ k = 4) →
      ∀ (m : Nat), m ≤ 2 → ∀ (n i : Nat) (s : List TExpr) (x h : Int), i ≤ m → m - i < n → s.length = i → (∀ a ∈ s, exprW drTerm a) → GC b ⟨c.b, x, h⟩ → Dr b (actW drTerm pos) (m_s_l8Draw_l3 N c (k, d) (nm, d0) (m : Int) n s (i : Int) x h) := by
    intro nm d0 hnm hk3 m hm n
    induction n with
    | zero => intro i _ _ _ _ h; omega
    | succ n ih =>
      intro i s x h hi hn hs ha gx
      simp only [m_s_l8Draw_l3]
      refine .ite (fun hlt => ?_) (fun hge => .ite (fun h4 => ?_) (fun _ => ?_))
      · have hlt := of_decide_eq_true hlt
        refine (expr_d hb gx).bind fun a e ge q => .bindO (app_sm (by omega) (by simp)) ?_
        rw [wr1 i (by omega)]
        exact ih (i + 1) _ _ _ (by omega) (by omega) (by simp; omega) (mem_snoc ha q) (ge.at (c := ⟨c.b, x, h⟩) gx.1)
      · have h4 : k = 4 := of_decide_eq_true h4
        exact (int_d hb gx _ (by decide)).bind fun v e ge q => j4 _ _ _ _ _ _ (ge.at (c := ⟨c.b, x, h⟩) gx.1) fun u hu => ⟨by dsimp only; omega, ha, .inr (.inr ⟨hk3, hnm, .inr ⟨h4, q⟩, hu⟩)⟩
      · exact j4 _ _ _ _ _ _ gx fun u hu => ⟨by dsimp only; omega, ha, .inr (.inr ⟨hk3, hnm, .inl rfl, hu⟩)⟩
  have j1 : Dr b (actW drTerm pos) (m_s_l8Draw_j1 N c (k, d) true) → k = 5 ∨ k = 6 → Dr b (actW drTerm pos) (m_s_l8Draw_j1 N c (k, d) true) := fun h _ => h
  have jt : k = 5 ∨ k = 6 → Dr b (actW drTerm pos) (m_s_l8Draw_j1 N c (k, d) true) := by
    intro h56
    unfold m_s_l8Draw_j1
    simp only [if_true]
    exact .ret (gd.at g.1) ⟨by simp, by simp, .inr (.inl ⟨h56, rfl, rfl, rfl, rfl⟩)⟩
  have jf : k = 1 ∨ k = 3 ∨ k = 4 → Dr b (actW drTerm pos) (m_s_l8Draw_j1 N c (k, d) false) := by
    intro h134
    unfold m_s_l8Draw_j1
    simp only [Bool.false_eq_true, if_false]
    refine (str_d hb (gd.at g.1) _ (by decide)).bind fun nm e ge hnm => ?_
    unfold m_s_l8Draw_j2
    exact .ite (fun _ => lp nm e hnm h134 2 (by omega) N 0 [] _ _ (by omega) (by omega) rfl (by simp) (ge.at g.1)) (fun _ => lp nm e hnm h134 1 (by omega) N 0 [] _ _ (by omega) (by omega) rfl (by simp) (ge.at g.1))
  have hk' : k = 1 ∨ k = 3 ∨ k = 4 ∨ k = 5 ∨ k = 6 := by
    simp at hk; omega
  by_cases k5 : k = 5
  · rw [decide_eq_true k5]; simp only [if_true]; exact jt (.inl k5)
  · rw [decide_eq_false k5]; simp only [Bool.false_eq_true, if_false]
    by_cases k6 : k = 6
    · rw [decide_eq_true k6]; exact jt (.inr k6)
    · rw [decide_eq_false k6]; exact jf (by omega)
end Go.Proofs.Ytmhckcoabhahpaa
namespace Go.Proofs.Ytmhckcoabhahpaa
open Eng
set_option linter.unusedVariables false
set_option linter.unusedSimpArgs false
/-- A term of which a variable is among vs. -/
def fitTerm (vs : List ByteArray) (a : TArg) : Prop := (∃ v, drVal v ∧ a = ⟨2, ⟨#[]⟩, v⟩) ∨ ∃ s ∈ vs, a = ⟨1, s, ⟨0, 0, ⟨#[]⟩⟩⟩
theorem fit_ok {N : Nat} (hN : 1099000000000 ≤ N) {vs : List ByteArray} (hv : vs.length ≤ 4194304) {a : TArg} (h : drTerm a) : ∃ a', m_s_l9Fit N a vs = some a' ∧ fitTerm vs a' := by
  unfold m_s_l9Fit
  rw [known_s hN a vs (by omega), Option.bind_some]
  rcases h with ⟨v, hv, rfl⟩ | ⟨s, hs, rfl⟩
  · exact ⟨_, by simp [known], .inl ⟨v, hv, rfl⟩⟩
  · by_cases hm : s ∈ vs
    · exact ⟨_, by simp [known, hm], .inr ⟨s, hm, rfl⟩⟩
    · have e1 : known vs ⟨1, s, ⟨0, 0, ⟨#[]⟩⟩⟩ = false := by simp [known, hm]
      simp only [e1, Bool.false_eq_true, if_false]
      cases vs with
      | nil => exact ⟨_, rfl, .inl ⟨⟨1, 1, ⟨#[]⟩⟩, .inl ⟨1, by omega, by omega, rfl⟩, rfl⟩⟩
      | cons x t =>
        have e2 : decide (((x :: t).length : Int) = 0) = false := decide_eq_false (by simp only [List.length_cons]; omega)
        have e3 : idx (x :: t) 0 = some x := idx_nat_lt (xs := x :: t) (i := 0) (by simp)
        simp only [e2, Bool.false_eq_true, if_false, e3, Option.bind_some]
        exact ⟨_, rfl, .inr ⟨x, by simp, rfl⟩⟩
def drPats (l : List TPat) : Prop := ∃ ps ns, l = ps ++ ns ∧ 1 ≤ ps.length ∧ ps.length ≤ 3 ∧ ns.length ≤ 1 ∧ (∀ p ∈ ps, drPat false p) ∧ ∀ p ∈ ns, drPat true p
theorem drPats_pat {l : List TPat} (h : drPats l) : ∀ p ∈ l, ∃ n, drPat n p := by
  obtain ⟨ps, ns, rfl, -, -, -, h1, h2⟩ := h
  intro p hp
  rcases List.mem_append.1 hp with h | h
  · exact ⟨_, h1 p h⟩
  · exact ⟨_, h2 p h⟩
theorem drPats_len {l : List TPat} (h : drPats l) : 1 ≤ l.length ∧ l.length ≤ 4 := by
  obtain ⟨ps, ns, rfl, h1, h2, h3, -⟩ := h
  rw [List.length_append]; omega
theorem nArgs_le {B : Nat} : ∀ {l : List TPat}, (∀ p ∈ l, p.Args.length ≤ B) → nArgs l ≤ l.length * B
  | [], _ => by simp [nArgs]
  | p :: t, h => by
    have h1 := nArgs_le (l := t) fun q hq => h q (by simp [hq])
    have h2 := h p (by simp)
    have h3 : nArgs (p :: t) = p.Args.length + nArgs t := by simp [nArgs]
    rw [h3, List.length_cons, Nat.succ_mul]; omega
theorem drPats_args {l : List TPat} (h : drPats l) : nArgs l ≤ 8 := by
  have h1 := nArgs_le (B := 2) fun p hp => (drPats_pat h p hp).elim fun n hn => hn.2.2.1
  have := drPats_len h
  omega
/-- What patterns bind. -/
def bnd (l : List TPat) : List ByteArray := (posNames l).foldl once []
theorem bnd_len {l : List TPat} (h : drPats l) : (bnd l).length ≤ 8 := by
  have h1 := onces_len (posNames l) []
  have h2 := posNames_len l
  have h3 := drPats_args h
  simp only [List.length_nil] at h1
  unfold bnd; omega
def drRule (nm : ByteArray) (r : TRule) : Prop := r.Name = nm ∧ r.Sal ∈ ([0, 0, 5, (-5), 100] : List Int) ∧ drPats r.Pats ∧ (r.Conds.length ≤ 1 ∧ ∀ c ∈ r.Conds, 1 ≤ c.Op ∧ c.Op ≤ 3 ∧ fitTerm (bnd r.Pats) c.L ∧ fitTerm (bnd r.Pats) c.R) ∧
  (1 ≤ r.Acts.length ∧ r.Acts.length ≤ 3 ∧ ∀ a ∈ r.Acts, actW (fitTerm (bnd r.Pats)) (posCount r.Pats) a)
/-- The loop that fits the arguments of an act. -/
theorem fits {N : Nat} (hN : 1099000000000 ≤ N) {b : List Int} {vs : List ByteArray} (hv : vs.length ≤ 4194304) (s11 : List TAct) (s12 : Int) (K : List TAct → Int → Int → Int → Option (TRule × Tl1Cur)) (x10 : TAct × Tl1Cur) {R : TRule → Prop} {m : Nat} (hm : m ≤ 4194304)
    (hK : ∀ es : List TExpr, es.length = m → (∀ e ∈ es, exprW (fitTerm vs) e) → Dr b R ((app s11 [⟨x10.1.Kind, x10.1.Name, es, x10.1.N, x10.1.Undo⟩]).bind fun x14 => K x14 (IntKind.i64.wrap (s12 - 1)) x10.2.i x10.2.h)) :
    ∀ (n : Nat) (todo done : List TExpr), todo.length < n → done.length + todo.length = m → (∀ e ∈ done, exprW (fitTerm vs) e) → (∀ e ∈ todo, exprW drTerm e) → Dr b R (m_s_l9Draw_l5 N vs s11 s12 K x10 n (done ++ todo) (done.length : Int)) := by
  intro n
  induction n with
  | zero => intro _ _ h; omega
  | succ n ih =>
    intro todo done hn hl hd ht
    simp only [m_s_l9Draw_l5]
    cases todo with
    | nil =>
      have e1 : decide ((done.length : Int) < ((done ++ ([] : List TExpr)).length : Int)) = false := decide_eq_false (by simp)
      rw [e1]
      simp only [Bool.false_eq_true, if_false, List.append_nil]
      exact hK done (by simpa using hl) hd
    | cons e t =>
      have e1 : decide ((done.length : Int) < ((done ++ e :: t).length : Int)) = true := decide_eq_true (by simp; omega)
      have e2 : idx (done ++ e :: t) (done.length : Int) = some e := by
        rw [idx_nat_lt (show done.length < (done ++ e :: t).length by simp)]; simp
      have hset : ∀ y, (done ++ e :: t).set ((done.length : Int)).toNat y = (done ++ [y]) ++ t := fun y => by
        rw [Int.toNat_natCast, List.set_append_right _ _ (Nat.le_refl _)]; simp
      simp only [List.length_cons] at hn hl
      rw [e1]
      simp only [if_true]
      refine .bindO e2 ?_
      obtain ⟨hL, hR⟩ := ht e (by simp)
      obtain ⟨l', el, hl'⟩ := fit_ok hN hv hL
      refine .bindO el ?_
      have next : ∀ y, exprW (fitTerm vs) y → Dr b R (m_s_l9Draw_l5 N vs s11 s12 K x10 n ((done ++ e :: t).set ((done.length : Int)).toNat y) (IntKind.i64.wrap ((done.length : Int) + 1))) := by
        intro y hy
        rw [hset, wr1 _ (by omega)]
        have := ih t (done ++ [y]) (by omega) (by simp; omega) (mem_snoc hd hy) (fun a ha => ht a (by simp [ha]))
        simpa using this
      rcases hR with ⟨hO, hR⟩ | ⟨hO, hR⟩
      · have e3 : (!seq e.Op ⟨#[]⟩) = false := by rw [seq_eq, hO]; simp
        rw [e3]
        exact next _ ⟨hl', .inl ⟨hO, hR⟩⟩
      · have e3 : (!seq e.Op ⟨#[]⟩) = true := by
          have : e.Op ≠ ⟨#[]⟩ := (show ∀ s ∈ ([⟨#[43]⟩, ⟨#[45]⟩] : List ByteArray), s ≠ ⟨#[]⟩ by decide) _ hO
          rw [seq_eq]; simp [this]
        rw [e3]
        obtain ⟨r', er, hr'⟩ := fit_ok hN hv hR
        exact .bindO er (next _ ⟨hl', .inr ⟨hO, hr'⟩⟩)
theorem posVars_d {N : Nat} (hN : 1099000000000 ≤ N) (r : TRule) (h : drPats r.Pats) : m_s_PosVars N r = some (bnd r.Pats) := by
  have h1 := drPats_len h
  have h2 := drPats_args h
  exact posVars_s hN r (by omega) (by omega) fun p hp => by
    obtain ⟨n, hn⟩ := drPats_pat h p hp
    have := hn.2.2.1
    omega
theorem rule_d {N : Nat} (hN : 1099000000000 ≤ N) {b : List Int} (hb : b.length ≤ 1048576) {c : Tl1Cur} (g : GC b c) (nm : ByteArray) : Dr b (drRule nm) (m_s_l9Draw N c nm) := by
  unfold m_s_l9Draw
  refine (int_d hb g _ (by decide)).bind fun sal d gd hs => (below_d hb (gd.at g.1) 3 (by omega)).bind fun v0 e0 ge0 q0 => ?_
  -- the acts
  have l4 : ∀ (pats : List TPat) (conds : List TCond), drPats pats → (conds.length ≤ 1 ∧ ∀ c ∈ conds, 1 ≤ c.Op ∧ c.Op ≤ 3 ∧ fitTerm (bnd pats) c.L ∧ fitTerm (bnd pats) c.R) →
      ∀ (n : Nat) (s : List TAct) (k x h : Int), 0 ≤ k → k < n → 1 ≤ s.length + k → s.length + k ≤ 3 → (∀ a ∈ s, actW (fitTerm (bnd pats)) (posCount pats) a) → GC b ⟨c.b, x, h⟩ → Dr b (drRule nm) (m_s_l9Draw_l4 N c nm (sal, d) pats (bnd pats) conds n s k x h) := by
    intro pats conds hp hc n
    have hpl := drPats_len hp
    induction n with
    | zero => intro s k x h h0 h1; omega
    | succ n ih =>
      intro s k x h h0 h1 h2 h3 ha gx
      simp only [m_s_l9Draw_l4]
      refine .ite (fun hk => ?_) (fun hk => ?_)
      · have hk := of_decide_eq_true hk
        refine .bindO (count_s hN _ (show pats.length ≤ 1048576 by omega)) ((act_d hN hb gx _).bind fun a f gf qa => ?_)
        have hal := qa.1
        have := fits hN (b := b) (vs := bnd pats) (by have := bnd_len hp; omega) s k (m_s_l9Draw_l4 N c nm (sal, d) pats (bnd pats) conds n) (a, f) (R := drRule nm) (m := a.Args.length) (by omega) (fun es hl he => by
          refine .bindO (app_sm (by omega) (by simp)) ?_
          rw [wrm hk (by omega)]
          refine ih _ (k - 1) _ _ (by omega) (by omega) (by simp; omega) (by simp; omega) (mem_snoc ha ?_) (gf.at (c := ⟨c.b, x, h⟩) gx.1)
          refine ⟨by dsimp only; omega, he, ?_⟩
          rcases qa.2.2 with h | h | h
          · exact .inl ⟨h.1, h.2.1, by have := h.2.2.1; rw [this] at hl; exact List.eq_nil_of_length_eq_zero hl, h.2.2.2⟩
          · exact .inr (.inl ⟨h.1, h.2.1, by have := h.2.2.1; rw [this] at hl; exact List.eq_nil_of_length_eq_zero hl, h.2.2.2⟩)
          · exact .inr (.inr h)) N a.Args [] (by omega) (by simp) (by simp) qa.2.1
        exact this
      · have hk := of_decide_eq_false hk
        exact .ret gx ⟨rfl, hs, hp, hc, by dsimp only; omega, by dsimp only; omega, ha⟩
  have j3 : ∀ (pats : List TPat) (conds : List TCond), drPats pats → (conds.length ≤ 1 ∧ ∀ c ∈ conds, 1 ≤ c.Op ∧ c.Op ≤ 3 ∧ fitTerm (bnd pats) c.L ∧ fitTerm (bnd pats) c.R) → ∀ (x h : Int), GC b ⟨c.b, x, h⟩ → Dr b (drRule nm) (m_s_l9Draw_j3 N c nm (sal, d) pats (bnd pats) conds x h) := by
    intro pats conds hp hc x h gx
    unfold m_s_l9Draw_j3
    refine (below_d hb gx 3 (by omega)).bind fun v e ge q => ?_
    dsimp only
    rw [wr (show -9223372036854775808 ≤ 1 + v by omega) (by omega)]
    exact l4 pats conds hp hc N [] _ _ _ (by omega) (by omega) (by simp; omega) (by simp; omega) (by simp) (ge.at (c := ⟨c.b, x, h⟩) gx.1)
  have j2 : ∀ (pats : List TPat), drPats pats → ∀ (x h : Int), GC b ⟨c.b, x, h⟩ → Dr b (drRule nm) (m_s_l9Draw_j2 N c nm (sal, d) pats x h) := by
    intro pats hp x h gx
    unfold m_s_l9Draw_j2
    have hv : (bnd pats).length ≤ 4194304 := by have := bnd_len hp; omega
    refine .bindO (posVars_d hN _ hp) ((once_d hb gx 3).bind fun v e ge _ => .ite (fun _ => ?_) (fun _ => ?_))
    · refine (cond_d hb (ge.at (c := ⟨c.b, x, h⟩) gx.1)).bind fun cd f gf qc => ?_
      obtain ⟨l', el, hl⟩ := fit_ok hN hv qc.2.2.1
      obtain ⟨r', er, hr⟩ := fit_ok hN hv qc.2.2.2
      refine .bindO el (.bindO er (.bindO (app_sm (by simp) (by simp)) ?_))
      exact j3 pats _ hp ⟨by simp, by simp; exact ⟨qc.1, qc.2.1, hl, hr⟩⟩ _ _ (gf.at (c := ⟨c.b, x, h⟩) gx.1)
    · exact j3 pats [] hp ⟨by simp, by simp⟩ _ _ (ge.at (c := ⟨c.b, x, h⟩) gx.1)
  have l1 : ∀ (n : Nat) (s : List TPat) (k x h : Int), 0 ≤ k → k < n → 1 ≤ s.length + k → s.length + k ≤ 3 → (∀ p ∈ s, drPat false p) → GC b ⟨c.b, x, h⟩ → Dr b (drRule nm) (m_s_l9Draw_l1 N c nm (sal, d) n s k x h) := by
    intro n
    induction n with
    | zero => intro s k x h h0 h1; omega
    | succ n ih =>
      intro s k x h h0 h1 h2 h3 hp gx
      simp only [m_s_l9Draw_l1]
      refine .ite (fun hk => ?_) (fun hk => ?_)
      · have hk := of_decide_eq_true hk
        refine (pat_d hN hb gx false).bind fun p f gf qp => .bindO (app_sm (by omega) (by simp)) ?_
        rw [wrm hk (by omega)]
        exact ih _ (k - 1) _ _ (by omega) (by omega) (by simp; omega) (by simp; omega) (mem_snoc hp qp) (gf.at (c := ⟨c.b, x, h⟩) gx.1)
      · have hk := of_decide_eq_false hk
        refine (once_d hb gx 3).bind fun v f gf _ => .ite (fun _ => ?_) (fun _ => ?_)
        · refine (pat_d hN hb (gf.at (c := ⟨c.b, x, h⟩) gx.1) true).bind fun p f' gf' qp => .bindO (app_sm (by omega) (by simp)) ?_
          exact j2 _ ⟨s, [p], rfl, by omega, by omega, by simp, hp, by simpa using qp⟩ _ _ (gf'.at (c := ⟨c.b, x, h⟩) gx.1)
        · exact j2 _ ⟨s, [], by simp, by omega, by omega, by simp, hp, by simp⟩ _ _ (gf.at (c := ⟨c.b, x, h⟩) gx.1)
  dsimp only
  rw [wr (show -9223372036854775808 ≤ 1 + v0 by omega) (by omega)]
  exact l1 N [] _ _ _ (by omega) (by omega) (by simp; omega) (by simp; omega) (by simp) (ge0.at g.1)
end Go.Proofs.Ytmhckcoabhahpaa
namespace Go.Proofs.Ytmhckcoabhahpaa
open Eng
set_option linter.unusedVariables false
set_option linter.unusedSimpArgs false
def kinds3 : List ByteArray := [⟨#[111, 114, 100, 101, 114]⟩, ⟨#[112, 97, 105, 100]⟩, ⟨#[105, 116, 101, 109]⟩, ⟨#[111, 114, 100, 101, 114]⟩]
def drFact (f : TFact) : Prop := f.Kind ∈ kinds3 ∧ f.Fields.length ≤ 5 ∧ ∀ v ∈ f.Fields, drVal v
theorem fact_d {N : Nat} (hN : 1099000000000 ≤ N) {b : List Int} (hb : b.length ≤ 1048576) {c : Tl1Cur} (g : GC b c) : Dr b drFact (m_s_l3Draw N c) := by
  unfold m_s_l3Draw
  refine (str_d hb g _ (by decide)).bind fun k d gd hk => ?_
  have lp : ∀ (m : Nat), m ≤ 5 → ∀ (n i : Nat) (s : List TVal) (x h : Int), i ≤ m → m - i < n → s.length = i → (∀ a ∈ s, drVal a) → GC b ⟨c.b, x, h⟩ → Dr b drFact (m_s_l3Draw_l3 N c (k, d) (m : Int) n s (i : Int) x h) := by
    intro m hm n
    induction n with
    | zero => intro i _ _ _ _ h; omega
    | succ n ih =>
      intro i s x h hi hn hs ha gx
      simp only [m_s_l3Draw_l3]
      refine .ite (fun hlt => ?_) (fun hge => .ret gx ⟨hk, by dsimp only; omega, ha⟩)
      have hlt := of_decide_eq_true hlt
      refine (small_d hb gx).bind fun a e ge q => .bindO (app_sm (by omega) (by simp)) ?_
      rw [wr1 i (by omega)]
      exact ih (i + 1) _ _ _ (by omega) (by omega) (by simp; omega) (mem_snoc ha q) (ge.at (c := ⟨c.b, x, h⟩) gx.1)
  have j1 : ∀ (m : Nat), m ≤ 5 → Dr b drFact (m_s_l3Draw_j1 N c (k, d) (m : Int)) := by
    intro m hm
    unfold m_s_l3Draw_j1 m_s_l3Draw_j2
    refine (once_d hb (gd.at g.1) 12).bind fun v e ge _ => .ite (fun _ => ?_) (fun _ => ?_)
    · refine (below_d hb (ge.at g.1) 6 (by omega)).bind fun w f gf hw => ?_
      obtain ⟨j, rfl⟩ : ∃ j : Nat, w = (j : Int) := ⟨w.toNat, by omega⟩
      exact lp j (by omega) N 0 [] _ _ (by omega) (by omega) rfl (by simp) (gf.at g.1)
    · exact lp m hm N 0 [] _ _ (by omega) (by omega) rfl (by simp) (ge.at g.1)
  exact .ite (fun _ => j1 2 (by omega)) (fun _ => j1 1 (by omega))
end Go.Proofs.Ytmhckcoabhahpaa
namespace Go.Proofs.Ytmhckcoabhahpaa
open Eng
set_option linter.unusedVariables false
set_option linter.unusedSimpArgs false
def drItems (nx : Int) (l : List TItem) : Prop := 1 ≤ nx ∧ (l.length : Int) < nx ∧ (∀ x ∈ l, 1 ≤ x.Id ∧ x.Id < nx ∧ drFact x.F) ∧ l.Pairwise fun a b => a.Id < b.Id ∧ a.F ≠ b.F
def drStore (s : TStore) : Prop := s.Next ≤ 9 ∧ drItems s.Next s.Items
theorem drop_d {N : Nat} (hN : 1099000000000 ≤ N) (s : TStore) (v : Int) (hl : s.Items.length ≤ 1048576) : ∃ q, m_s_l4Drop N s v = some (q, ⟨s.Items.filter fun x => !decide (x.Id = v), s.Next⟩) := by
  unfold m_s_l4Drop
  have := lp' hN s.Items (by omega) (fun n (u : List TItem) i => (m_s_l4Drop_l1 N s v n u i).map (·.2)) (fun t u => some ⟨u ++ t.filter fun x => !decide (x.Id = v), s.Next⟩) (fun u t => u.length + t.length ≤ 1048576) [] (by simpa using hl) (fun n u i x t g1 g2 g3 g4 g5 g6 gI ih => by
    simp only [List.length_cons] at gI
    simp only [m_s_l4Drop_l1, g5, if_true, g4, Option.bind_some, g6, List.filter_cons]
    by_cases h : x.Id = v
    · simp only [h, decide_true, Bool.not_true, Bool.false_eq_true, if_false]
      exact ih u (by omega)
    · simp only [h, decide_false, Bool.not_false, if_true, app_ok (show u.length + [x].length ≤ 4294967296 by simp; omega), Option.bind_some]
      rw [ih _ (by simp; omega)]; simp) (fun n u i g1 g2 gI => by simp only [m_s_l4Drop_l1, g2, Bool.false_eq_true, if_false, Option.map_some, List.filter_nil, List.append_nil])
  simp only [List.nil_append] at this
  cases hd : m_s_l4Drop_l1 N s v N [] 0 with
  | none => rw [hd] at this; simp at this
  | some r =>
    rw [hd] at this
    simp only [Option.map_some, Option.some.injEq] at this
    exact ⟨r.1, by rw [← this]⟩
theorem assert_d {N : Nat} (hN : 1099000000000 ≤ N) (l : List TItem) (nx : Int) (f : TFact) (hf : drFact f) (h : drItems nx l) (hnx : nx ≤ 100) : ∃ q l' nx', m_s_l4Assert N ⟨l, nx⟩ f = some (q, ⟨l', nx'⟩) ∧ drItems nx' l' ∧ nx' ≤ nx + 1 := by
  obtain ⟨h1, h2, h3, h4⟩ := h
  have hl := fun x hx => (h3 x hx).2.2.2.1
  unfold m_s_l4Assert
  rw [idOf_s hN ⟨l, nx⟩ f (by show l.length ≤ _; omega) (fun x hx => by have := hl x hx; omega)]
  simp only [Option.bind_some]
  by_cases hp : 0 < idOf l f
  · simp only [hp, decide_true, if_true]
    exact ⟨_, _, _, rfl, ⟨h1, h2, h3, h4⟩, by omega⟩
  · simp only [hp, decide_false, Bool.false_eq_true, if_false]
    have hn : ∀ x ∈ l, x.F ≠ f := by
      intro x hx e
      apply hp
      unfold idOf
      cases hh : l.find? (fun x => decide (x.F = f)) with
      | none =>
        rw [List.find?_eq_none] at hh
        have := hh x hx
        simp [e] at this
      | some y =>
        have := (h3 y (List.mem_of_find?_eq_some hh)).1
        simp only; omega
    by_cases h40 : (40 : Int) ≤ (l.length : Int)
    · simp only [h40, decide_true, if_true, Option.bind_some]
      exact ⟨_, _, _, rfl, ⟨h1, h2, h3, h4⟩, by omega⟩
    · have hm : ¬ (1000000 : Int) ≤ nx := by omega
      simp only [h40, hm, decide_false, Bool.false_eq_true, if_false, Option.bind_some]
      have hc : m_s_l3Copy N f = some f := by
        unfold m_s_l3Copy
        rw [app_nil (show f.Fields.length ≤ 4294967296 by have := hf.2.1; omega)]; rfl
      simp only [hc, Option.bind_some, app_ok (show l.length + [(⟨nx, f⟩ : TItem)].length ≤ 4294967296 by simp; omega)]
      rw [wr (show -9223372036854775808 ≤ nx + 1 by omega) (by omega)]
      refine ⟨_, _, _, rfl, ⟨by omega, by simp; omega, ?_, ?_⟩, by omega⟩
      · refine mem_snoc (fun x hx => ?_) ⟨by omega, by simp only; omega, hf⟩
        have := h3 x hx
        exact ⟨this.1, by omega, this.2.2⟩
      · refine List.pairwise_append.2 ⟨h4, by simp, fun a ha b hb => ?_⟩
        simp at hb; subst hb
        exact ⟨(h3 a ha).2.1, hn a ha⟩
theorem store_d {N : Nat} (hN : 1099000000000 ≤ N) {b : List Int} (hb : b.length ≤ 1048576) {c : Tl1Cur} (g : GC b c) : Dr b drStore (m_s_l4Draw N c) := by
  unfold m_s_l4Draw
  refine (below_d hb g 9 (by omega)).bind fun v d gd hv => ?_
  have lp : ∀ (n : Nat) (l : List TItem) (k x h nx : Int), 0 ≤ k → k < n → nx + k ≤ 9 → drItems nx l → GC b ⟨c.b, x, h⟩ → Dr b drStore (m_s_l4Draw_l1 N c n l k x h nx) := by
    intro n
    induction n with
    | zero => intro l k x h nx h0 h1; omega
    | succ n ih =>
      intro l k x h nx h0 h1 h2 hl gx
      simp only [m_s_l4Draw_l1]
      refine .ite (fun hk => ?_) (fun _ => .ret gx ⟨by show nx ≤ 9; omega, hl⟩)
      have hk := of_decide_eq_true hk
      have hlen := hl.2.1
      refine (once_d hb gx 5).bind fun q e ge _ => ?_
      have gx' := ge.at (c := ⟨c.b, x, h⟩) gx.1
      have rest : Dr b drStore ((m_s_l3Draw N (⟨c.b, e.i, e.h⟩ : Tl1Cur)).bind fun x6 => (m_s_l4Assert N (⟨l, nx⟩ : TStore) x6.1).bind fun x7 => m_s_l4Draw_l1 N c n x7.2.Items (IntKind.i64.wrap (k - 1)) x6.2.i x6.2.h x7.2.Next) := by
        refine (fact_d hN hb gx').bind fun f e2 ge2 hf => ?_
        obtain ⟨q', l', nx', e3, hl', hnx'⟩ := assert_d hN l nx f hf hl (by omega)
        refine .bindO e3 ?_
        rw [wrm hk (by omega)]
        exact ih l' (k - 1) _ _ nx' (by omega) (by omega) (by omega) hl' (ge2.at (c := ⟨c.b, e.i, e.h⟩) gx'.1)
      by_cases hq : q = true ∧ 0 < l.length
      · have e0 : (if q = true then some (decide (0 < (l.length : Int))) else some false) = some true := by
          rw [hq.1, decide_eq_true (show (0 : Int) < (l.length : Int) by omega)]; rfl
        refine .bindO e0 ?_
        simp only [if_true]
        refine (below_d hb gx' (l.length : Int) (by omega)).bind fun w e2 ge2 hw => ?_
        obtain ⟨j, rfl⟩ : ∃ j : Nat, w = (j : Int) := ⟨w.toNat, by omega⟩
        refine .bindO (idx_nat_lt (show j < l.length by omega)) ?_
        obtain ⟨q', e3⟩ := drop_d hN ⟨l, nx⟩ l[j].Id (show l.length ≤ 1048576 by omega)
        refine .bindO e3 ?_
        rw [wrm hk (by omega)]
        have hfl := List.length_filter_le (fun x : TItem => !decide (x.Id = l[j].Id)) l
        exact ih _ (k - 1) _ _ nx (by omega) (by omega) (by omega) ⟨hl.1, by show ((l.filter _).length : Int) < nx; omega, fun y hy => hl.2.2.1 y (List.mem_filter.1 hy).1, hl.2.2.2.filter _⟩ (ge2.at (c := ⟨c.b, e.i, e.h⟩) gx'.1)
      · have e0 : (if q = true then some (decide (0 < (l.length : Int))) else some false) = some false := by
          cases q with
          | false => rfl
          | true =>
            have : ¬ 0 < l.length := fun h => hq ⟨rfl, h⟩
            rw [decide_eq_false (show ¬ (0 : Int) < (l.length : Int) by omega)]; rfl
        refine .bindO e0 ?_
        simp only [Bool.false_eq_true, if_false]
        exact rest
  exact lp N [] v _ _ 1 hv.1 (by omega) (by omega) ⟨by omega, by simp, by simp, by simp⟩ (gd.at g.1)
end Go.Proofs.Ytmhckcoabhahpaa
namespace Go.Proofs.Ytmhckcoabhahpaa
open Eng
set_option linter.unusedVariables false
set_option linter.unusedSimpArgs false
def drBind (x : TBind) : Prop := x.Name ∈ ([⟨#[88]⟩, ⟨#[89]⟩, ⟨#[87]⟩] : List ByteArray) ∧ drVal x.V
theorem binds_d {N : Nat} (hN : 1099000000000 ≤ N) {b : List Int} (hb : b.length ≤ 1048576) {c : Tl1Cur} (g : GC b c) : Dr b (fun l => l.length ≤ 3 ∧ ∀ x ∈ l, drBind x) (m_s_l6Binds N c) := by
  unfold m_s_l6Binds
  refine (below_d hb g 3 (by omega)).bind fun v e ge hv => ?_
  have lp : ∀ (n : Nat) (s : List TBind) (k x h : Int), 0 ≤ k → k < n → s.length + k ≤ 3 → (∀ m ∈ s, drBind m) → GC b ⟨c.b, x, h⟩ → Dr b (fun l => l.length ≤ 3 ∧ ∀ x ∈ l, drBind x) (m_s_l6Binds_l1 N c n s k x h) := by
    intro n
    induction n with
    | zero => intro s k x h h0 h1; omega
    | succ n ih =>
      intro s k x h h0 h1 h2 hs gx
      simp only [m_s_l6Binds_l1]
      refine .ite (fun hk => ?_) (fun _ => .ret gx ⟨by omega, hs⟩)
      have hk := of_decide_eq_true hk
      refine (str_d hb gx _ (by decide)).bind fun nm f gf qn => (small_d hb (gf.at (c := ⟨c.b, x, h⟩) gx.1)).bind fun w f2 gf2 qw => .bindO (app_sm (by omega) (by simp)) ?_
      rw [wrm hk (by omega)]
      exact ih _ (k - 1) _ _ (by omega) (by omega) (by simp; omega) (mem_snoc hs ⟨qn, qw⟩) (gf2.at (c := ⟨c.b, x, h⟩) gx.1)
  exact lp N [] v _ _ hv.1 (by omega) (by simp; omega) (by simp) (ge.at g.1)
end Go.Proofs.Ytmhckcoabhahpaa
namespace Go.Proofs.Ytmhckcoabhahpaa
open Eng
set_option linter.unusedVariables false
set_option linter.unusedSimpArgs false
theorem ssl_take' {α : Type} {xs : List α} {i : Nat} (h : i ≤ xs.length) : ssl xs 0 (i : Int) = some (xs.take i) := by
  unfold ssl
  simp [h]
theorem draw_ok {N : Nat} (hN : 1099000000000 ≤ N) {b : List Int} (hb : b.length ≤ 1048576) : ∃ r s l, m_s_DrawBlocked N b = some (r, s, l) ∧ r.Pats.length ≤ 16 ∧ (∀ p ∈ r.Pats, p.Args.length ≤ 16) ∧ s.Items.length ≤ 16 ∧ l.length ≤ 3 := by
  unfold m_s_DrawBlocked
  obtain ⟨c, e0, g0⟩ := new_ok hN b hb
  rw [e0, Option.bind_some]
  obtain ⟨r, c1, e1, g1, hr⟩ := rule_d hN hb g0 ⟨#[114, 49]⟩
  rw [e1, Option.bind_some]
  obtain ⟨p, c2, e2, g2, hp⟩ := pat_d hN hb (g1.at g0.1) true
  have hl := drPats_len hr.2.2.1
  obtain ⟨s, c3, e3, g3, hs⟩ := store_d hN hb (g2.at (c := c) g0.1)
  obtain ⟨l, c4, e4, g4, hl4, _⟩ := binds_d hN hb (g3.at (c := c) g0.1)
  simp only [e2, Option.bind_some, app_ok (show r.Pats.length + [p].length ≤ 4294967296 by simp; omega), e3, e4]
  refine ⟨_, _, _, rfl, by simp; omega, mem_snoc (fun q hq => ?_) (by have := hp.2.2.1; omega), by have := hs.1; have := hs.2.2.1; omega, hl4⟩
  obtain ⟨n, hn⟩ := drPats_pat hr.2.2.1 q hq
  have := hn.2.2.1; omega
theorem blocked_take {ps : List TPat} {xs : List TItem} {l : List TBind} {k : Nat} (h : blocked ps (xs.take k) l = true) : blocked ps xs l = true := by
  unfold blocked at h ⊢
  simp only [List.any_eq_true, Bool.and_eq_true] at h ⊢
  obtain ⟨p, hp, hn, x, hx, hm⟩ := h
  exact ⟨p, hp, hn, x, List.mem_of_mem_take hx, hm⟩
theorem law_FnBlocked {N : Nat} (hN : 1099000000000 ≤ N) (b : List Int) : m_l_FnBlocked N b = some true := by
  unfold m_l_FnBlocked m_l_big
  by_cases hb : b.length ≤ 1048576
  · have c1 : decide (1048576 < (b.length : Int)) = false := decide_eq_false (by omega)
    obtain ⟨r, s, l, e, h1, h2, h3, h4⟩ := draw_ok hN hb
    have hp : ∀ p ∈ r.Pats, p.Args.length ≤ 1048576 := fun p hp => by have := h2 p hp; omega
    simp only [c1, Option.bind_some, Bool.false_eq_true, if_false, e, blocked_i hN r s l (by omega) hp (by omega) (by omega), blocked_s hN r s l (by omega) hp (by omega) (by omega), bne_self_eq_false]
    have lp : ∀ (n i : Nat), i ≤ s.Items.length → s.Items.length - i < n → m_l_FnBlocked_l1 N (r, s, l) (blocked r.Pats s.Items l) n i = some true := by
      intro n
      induction n with
      | zero => intro i _ h; omega
      | succ n ih =>
        intro i hi hn
        simp only [m_l_FnBlocked_l1]
        by_cases hlt : i < s.Items.length
        · have k1 : decide ((i : Int) < (s.Items.length : Int)) = true := decide_eq_true (by omega)
          have hb1 := blocked_i hN r ⟨s.Items.take i, s.Next⟩ l (by omega) hp (by show (s.Items.take i).length ≤ _; rw [List.length_take]; omega) (by omega)
          have hz : (if blocked r.Pats (s.Items.take i) l = true then some (!blocked r.Pats s.Items l) else some false) = some false := by
            cases ht : blocked r.Pats (s.Items.take i) l with
            | false => rfl
            | true => rw [blocked_take ht]; rfl
          simp only [k1, if_true, ssl_take' hi, Option.bind_some, hb1, hz, Bool.false_eq_true, if_false, wr1 i (by omega)]
          exact ih (i + 1) (by omega) (by omega)
        · have k1 : decide ((i : Int) < (s.Items.length : Int)) = false := decide_eq_false (by omega)
          have hb1 := blocked_i hN r ⟨[], 1⟩ l (by omega) hp (by show 0 ≤ _; omega) (by omega)
          have hz : blocked r.Pats [] l = false := by unfold blocked; simp
          simp only [k1, Bool.false_eq_true, if_false, hb1, Option.bind_some, hz, Bool.not_false]
    have := lp N 0 (by omega) (by omega)
    exact this
  · have c1 : decide (1048576 < (b.length : Int)) = true := decide_eq_true (by omega)
    simp only [c1, Option.bind_some, if_true]
namespace fnBlocked
theorem law {x0 : List Int} (w0 : (WfL (WfI .u8)) x0) : m_l_FnBlocked 1099511627776 x0 = some true := law_FnBlocked (by omega) x0
end fnBlocked
end Go.Proofs.Ytmhckcoabhahpaa
