/-
  Plain laws of loops over lists, one law for all. No program.
-/
import Derived.Test.YtjhlmnbkfdkmpaaCL
namespace Go.Proofs.Ytjhlmnbkfdkmpaa
open Eng
set_option linter.unusedVariables false
set_option linter.unusedSimpArgs false

/-- A loop over a row from place i on, with a state s, computes G of what is left and s; I is what holds of the state and what is left. -/
theorem lp {σ α β : Type} (xs : List α) (hl : xs.length ≤ 4294967296) (f : Nat → σ → Int → Option β) (G : List α → σ → Option β) (I : σ → List α → Prop)
    (hs : ∀ n s (i : Nat) (x : α) (t : List α), xs.drop i = x :: t → x ∈ xs → i < xs.length → idx xs (i : Int) = some x → decide ((i : Int) < (xs.length : Int)) = true → IntKind.i64.wrap ((i : Int) + 1) = ((i + 1 : Nat) : Int) → I s (x :: t) →
      (∀ s', I s' t → f n s' ((i + 1 : Nat) : Int) = G t s') → f (n + 1) s i = G (x :: t) s)
    (he : ∀ n s (i : Nat), i = xs.length → decide ((i : Int) < (xs.length : Int)) = false → I s [] → f (n + 1) s i = G [] s) :
    ∀ (n i : Nat) (s : σ), i ≤ xs.length → xs.length - i < n → I s (xs.drop i) → f n s i = G (xs.drop i) s := by
  intro n
  induction n with
  | zero => intro i s _ h; omega
  | succ n ih =>
    intro i s hi hn hI
    by_cases hlt : i < xs.length
    · have hd := List.drop_eq_getElem_cons hlt
      rw [hd] at hI ⊢
      exact hs n s i _ _ hd (List.getElem_mem hlt) hlt (idx_nat_lt hlt) (decide_eq_true (by omega)) (wr1 i (by omega)) hI (fun s' hs' => ih (i + 1) s' (by omega) (by omega) hs')
    · have hd : xs.drop i = [] := List.drop_of_length_le (by omega)
      rw [hd] at hI ⊢
      exact he n s i (by omega) (decide_eq_false (by omega)) hI
/-- The same from the start. -/
theorem lp' {σ α β : Type} {N : Nat} (hN : 1099000000000 ≤ N) (xs : List α) (hl : xs.length ≤ 4294967296) (f : Nat → σ → Int → Option β) (G : List α → σ → Option β) (I : σ → List α → Prop) (s : σ) (h0 : I s xs)
    (hs : ∀ n s (i : Nat) (x : α) (t : List α), xs.drop i = x :: t → x ∈ xs → i < xs.length → idx xs (i : Int) = some x → decide ((i : Int) < (xs.length : Int)) = true → IntKind.i64.wrap ((i : Int) + 1) = ((i + 1 : Nat) : Int) → I s (x :: t) →
      (∀ s', I s' t → f n s' ((i + 1 : Nat) : Int) = G t s') → f (n + 1) s i = G (x :: t) s)
    (he : ∀ n s (i : Nat), i = xs.length → decide ((i : Int) < (xs.length : Int)) = false → I s [] → f (n + 1) s i = G [] s) : f N s 0 = G xs s := by
  have := lp xs hl f G I hs he N 0 s (by omega) (by omega) (by simpa using h0)
  simpa using this
/-- A loop without a state. -/
theorem lp0 {α β : Type} {N : Nat} (hN : 1099000000000 ≤ N) (xs : List α) (hl : xs.length ≤ 4294967296) (f : Nat → Int → Option β) (G : List α → Option β)
    (hs : ∀ n (i : Nat) (x : α) (t : List α), xs.drop i = x :: t → x ∈ xs → i < xs.length → idx xs (i : Int) = some x → decide ((i : Int) < (xs.length : Int)) = true → IntKind.i64.wrap ((i : Int) + 1) = ((i + 1 : Nat) : Int) →
      f n ((i + 1 : Nat) : Int) = G t → f (n + 1) i = G (x :: t))
    (he : ∀ n (i : Nat), i = xs.length → decide ((i : Int) < (xs.length : Int)) = false → f (n + 1) i = G []) : f N 0 = G xs := by
  have := lp' (σ := Unit) hN xs hl (fun n _ i => f n i) (fun t _ => G t) (fun _ _ => True) () trivial (fun n _ i x t h1 h2 h3 h4 h5 h6 _ h8 => hs n i x t h1 h2 h3 h4 h5 h6 (h8 () trivial)) (fun n _ i h1 h2 _ => he n i h1 h2)
  simpa using this
theorem dropLen {α : Type} {xs : List α} {i : Nat} {x : α} {t : List α} (h : xs.drop i = x :: t) : t.length + (i + 1) = xs.length := by
  have := congrArg List.length h
  simp at this
  omega
theorem dropEl {α : Type} {xs : List α} {i : Nat} {x : α} {t : List α} (h : xs.drop i = x :: t) : xs.drop (i + 1) = t := by
  rw [← List.drop_drop, h]; rfl
theorem andB (a b : Bool) : (if a = true then some b else some false) = some (a && b) := by cases a <;> rfl
theorem orB (a b : Bool) : (if a = true then some true else some b) = some (a || b) := by cases a <;> rfl
theorem orNB (a b : Bool) : (if (!a) = true then some true else some b) = some (!a || b) := by cases a <;> rfl
theorem notIf {β : Type} (a : Bool) (x y : β) : (if (!a) = true then x else y) = if a = true then y else x := by cases a <;> rfl
end Go.Proofs.Ytjhlmnbkfdkmpaa
