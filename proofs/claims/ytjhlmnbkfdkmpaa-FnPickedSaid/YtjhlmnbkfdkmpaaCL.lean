/-
  Plain laws of common loops, for the cores. No program.
-/
import Derived.Test.YtjhlmnbkfdkmpaaPLib
namespace Go.Proofs.Ytjhlmnbkfdkmpaa
open Eng
set_option linter.unusedVariables false
set_option linter.unusedSimpArgs false

theorem app_ok {α : Type} {xs ys : List α} (h : xs.length + ys.length ≤ 4294967296) : app xs ys = some (xs ++ ys) := by unfold app; rw [if_pos h]
theorem app_nil {α : Type} {ys : List α} (h : ys.length ≤ 4294967296) : app ([] : List α) ys = some ys := by rw [app_ok (by simpa using h)]; rfl

/-- What a loop over a row does: it stops with an answer, or goes on with a new state. -/
def scan {σ α β : Type} (step : Nat → σ → α → β ⊕ σ) (fin : σ → β) : Nat → List α → σ → β
  | _, [], s => fin s
  | i, x :: xs, s => match step i s x with
    | .inl r => r
    | .inr s' => scan step fin (i + 1) xs s'

/-- A loop over a row, element by element; I is what holds of the state before element i. -/
theorem scanloop {σ α β : Type} (f : Nat → σ → Int → Option β) (xs : List α) (hl : xs.length ≤ 4294967296) (I : Nat → σ → Prop) (step : Nat → σ → α → β ⊕ σ) (fin : σ → β)
    (hs : ∀ n s (i : Nat) (x : α), xs[i]? = some x → idx xs (i : Int) = some x → x ∈ xs → decide ((i : Int) < (xs.length : Int)) = true → IntKind.i64.wrap ((i : Int) + 1) = ((i + 1 : Nat) : Int) → i < xs.length → I i s →
      match step i s x with | .inl r => f (n + 1) s i = some r | .inr s' => I (i + 1) s' ∧ f (n + 1) s i = f n s' ((i + 1 : Nat) : Int))
    (he : ∀ n s (i : Nat), decide ((i : Int) < (xs.length : Int)) = false → i = xs.length → I i s → f (n + 1) s i = some (fin s)) :
    ∀ (n i : Nat) (s : σ), i ≤ xs.length → xs.length - i < n → I i s → f n s i = some (scan step fin i (xs.drop i) s) := by
  intro n
  induction n with
  | zero => intro i s _ h; omega
  | succ n ih =>
    intro i s hi hn hI
    by_cases hlt : i < xs.length
    · rw [List.drop_eq_getElem_cons hlt, scan]
      have := hs n s i xs[i] (List.getElem?_eq_getElem hlt) (idx_nat_lt hlt) (List.getElem_mem hlt) (decide_eq_true (by omega)) (wr1 i (by omega)) hlt hI
      split at this
      · exact this
      · rw [this.2]; exact ih (i + 1) _ (by omega) (by omega) this.1
    · rw [he n s i (decide_eq_false (by omega)) (by omega) hI, List.drop_of_length_le (by omega), scan]

/-- Is there one? -/
theorem anyloop {α : Type} (f : Nat → Int → Option Bool) (xs : List α) (hl : xs.length ≤ 4294967296) (p : α → Bool)
    (hs : ∀ n (i : Nat) (x : α), idx xs (i : Int) = some x → x ∈ xs → decide ((i : Int) < (xs.length : Int)) = true → IntKind.i64.wrap ((i : Int) + 1) = ((i + 1 : Nat) : Int) → f (n + 1) i = if p x then some true else f n ((i + 1 : Nat) : Int))
    (he : ∀ n (i : Nat), decide ((i : Int) < (xs.length : Int)) = false → f (n + 1) i = some false) :
    ∀ (n i : Nat), i ≤ xs.length → xs.length - i < n → f n i = some ((xs.drop i).any p) := by
  intro n
  induction n with
  | zero => intro i _ h; omega
  | succ n ih =>
    intro i hi hn
    by_cases hlt : i < xs.length
    · rw [List.drop_eq_getElem_cons hlt, List.any_cons, hs n i xs[i] (idx_nat_lt hlt) (List.getElem_mem hlt) (decide_eq_true (by omega)) (wr1 i (by omega)), ih (i + 1) (by omega) (by omega)]
      cases p xs[i] <;> simp
    · rw [he n i (decide_eq_false (by omega)), List.drop_of_length_le (by omega), List.any_nil]
/-- Are all, from i0 on? z: what is said at the end. -/
theorem allfrom {α : Type} (f : Nat → Int → Option Bool) (xs : List α) (hl : xs.length ≤ 4294967296) (p : α → Bool) (z : Bool) (i0 : Nat)
    (hs : ∀ n (i : Nat) (x : α), i0 ≤ i → idx xs (i : Int) = some x → x ∈ xs → decide ((i : Int) < (xs.length : Int)) = true → IntKind.i64.wrap ((i : Int) + 1) = ((i + 1 : Nat) : Int) → f (n + 1) i = if p x then f n ((i + 1 : Nat) : Int) else some false)
    (he : ∀ n (i : Nat), decide ((i : Int) < (xs.length : Int)) = false → f (n + 1) i = some z) :
    ∀ (n i : Nat), i0 ≤ i → i ≤ xs.length → xs.length - i < n → f n i = some ((xs.drop i).all p && z) := by
  intro n
  induction n with
  | zero => intro i _ _ h; omega
  | succ n ih =>
    intro i h0 hi hn
    by_cases hlt : i < xs.length
    · rw [List.drop_eq_getElem_cons hlt, List.all_cons, hs n i xs[i] h0 (idx_nat_lt hlt) (List.getElem_mem hlt) (decide_eq_true (by omega)) (wr1 i (by omega)), ih (i + 1) (by omega) (by omega) (by omega)]
      cases p xs[i] <;> simp
    · rw [he n i (decide_eq_false (by omega)), List.drop_of_length_le (by omega), List.all_nil, Bool.true_and]
/-- Where is the first? -1, if nowhere. -/
theorem findloop {α : Type} (f : Nat → Int → Option Int) (xs : List α) (hl : xs.length ≤ 4294967296) (p : α → Bool)
    (hs : ∀ n (i : Nat) (x : α), idx xs (i : Int) = some x → x ∈ xs → decide ((i : Int) < (xs.length : Int)) = true → IntKind.i64.wrap ((i : Int) + 1) = ((i + 1 : Nat) : Int) → f (n + 1) i = if p x then some (i : Int) else f n ((i + 1 : Nat) : Int))
    (he : ∀ n (i : Nat), decide ((i : Int) < (xs.length : Int)) = false → f (n + 1) i = some (-1)) :
    ∀ (n i : Nat), i ≤ xs.length → xs.length - i < n → f n i = some (match (xs.drop i).findIdx? p with | some j => ((i + j : Nat) : Int) | none => -1) := by
  intro n
  induction n with
  | zero => intro i _ h; omega
  | succ n ih =>
    intro i hi hn
    by_cases hlt : i < xs.length
    · rw [List.drop_eq_getElem_cons hlt, List.findIdx?_cons, hs n i xs[i] (idx_nat_lt hlt) (List.getElem_mem hlt) (decide_eq_true (by omega)) (wr1 i (by omega)), ih (i + 1) (by omega) (by omega)]
      cases p xs[i]
      · simp only [Bool.false_eq_true, if_false]
        cases (xs.drop (i + 1)).findIdx? p with
        | none => rfl
        | some j => simp only [Option.map_some]; congr 2; omega
      · simp
    · rw [he n i (decide_eq_false (by omega)), List.drop_of_length_le (by omega)]; rfl
theorem find_any {α : Type} (xs : List α) (p : α → Bool) : decide (0 ≤ (match xs.findIdx? p with | some j => ((0 + j : Nat) : Int) | none => -1)) = xs.any p := by
  cases h : xs.findIdx? p with
  | none =>
    rw [List.findIdx?_eq_none_iff] at h
    simp only [show ¬ (0 : Int) ≤ -1 by omega, decide_false]
    symm; rw [List.any_eq_false]; intro x hx; simp [h x hx]
  | some j =>
    simp only [Nat.zero_add, show (0 : Int) ≤ (j : Int) by omega, decide_true]
    rw [List.findIdx?_eq_some_iff_getElem] at h
    obtain ⟨hj, hp, _⟩ := h
    symm; rw [List.any_eq_true]; exact ⟨_, List.getElem_mem hj, hp⟩
theorem andS (a b : Bool) : (if a = true then some b else some false) = some (a && b) := by cases a <;> rfl
theorem orS (a b : Bool) : (if a = true then some true else some b) = some (a || b) := by cases a <;> rfl
end Go.Proofs.Ytjhlmnbkfdkmpaa
