/- Plain laws: rows of texts without doubles. -/
import Derived.Test.YtjhlmnbkfdkmpaaCL2
import Derived.Test.YtjhlmnbkfdkmpaaWPickedPur
namespace Go.Proofs.Ytjhlmnbkfdkmpaa
open Eng
set_option linter.unusedVariables false
set_option linter.unusedSimpArgs false

instance memDec (v : ByteArray) (xs : List ByteArray) : Decidable (v ∈ xs) := @List.instDecidableMemOfLawfulBEq _ instBEqOfDecidableEq _ v xs
theorem hasS {N : Nat} (hN : 1099000000000 ≤ N) (xs : List ByteArray) (v : ByteArray) (hl : xs.length ≤ 4294967296) : m_s_l6Has N xs v = some (decide (v ∈ xs)) := by
  unfold m_s_l6Has
  refine lp0 hN xs hl _ (fun t => some (decide (v ∈ t))) (fun n i x t h1 h2 h3 h4 h5 h6 h7 => ?_) (fun n i h1 h2 => ?_)
  · simp only [m_s_l6Has_l1, h5, if_true, h4, Option.bind_some, h6, h7, seq_eq]
    by_cases h : x = v
    · simp [h]
    · have h' : ¬ v = x := fun e => h e.symm
      simp [h, h']
  · simp only [m_s_l6Has_l1, h2, Bool.false_eq_true, if_false]; simp
/-- v at the end, if it is not there yet. -/
def once (s : List ByteArray) (v : ByteArray) : List ByteArray := if v ∈ s then s else s ++ [v]
theorem once_len (s : List ByteArray) (v : ByteArray) : (once s v).length ≤ s.length + 1 := by unfold once; split <;> simp
theorem mem_once {s : List ByteArray} {v x : ByteArray} : x ∈ once s v ↔ x ∈ s ∨ x = v := by
  unfold once; split
  · rename_i h
    constructor
    · exact .inl
    · rintro (h' | rfl)
      · exact h'
      · exact h
  · simp
theorem mem_onces {x : ByteArray} : ∀ {vs s : List ByteArray}, x ∈ vs.foldl once s ↔ x ∈ s ∨ x ∈ vs
  | [], s => by simp
  | v :: vs, s => by rw [List.foldl_cons, mem_onces, mem_once, List.mem_cons, or_assoc]
theorem once_old {s : List ByteArray} {v : ByteArray} (h : v ∈ s) : once s v = s := by unfold once; rw [if_pos h]
theorem onces_len : ∀ (vs s : List ByteArray), (vs.foldl once s).length ≤ s.length + vs.length
  | [], s => by simp
  | v :: vs, s => by have := onces_len vs (once s v); have := once_len s v; simp only [List.foldl_cons, List.length_cons]; omega
theorem onces_once (s u : List ByteArray) (v : ByteArray) : (once u v).foldl once s = once (u.foldl once s) v := by
  by_cases h : v ∈ u
  · rw [once_old h, once_old (mem_onces.2 (.inr h))]
  · have : once u v = u ++ [v] := by unfold once; rw [if_neg h]
    rw [this, List.foldl_append]; rfl
theorem onces_onces : ∀ (vs u s : List ByteArray), (vs.foldl once u).foldl once s = vs.foldl once (u.foldl once s)
  | [], u, s => rfl
  | v :: vs, u, s => by rw [List.foldl_cons, onces_onces vs (once u v) s, onces_once, List.foldl_cons]
/-- Doubles taken out beforehand change nothing. -/
theorem onces_dedup (vs s : List ByteArray) : (vs.foldl once []).foldl once s = vs.foldl once s := onces_onces vs [] s
theorem onces_nodup : ∀ (vs s : List ByteArray), s.Nodup → (vs.foldl once s).Nodup
  | [], s, h => h
  | v :: vs, s, h => by
    refine onces_nodup vs (once s v) ?_
    unfold once; split
    · exact h
    · rename_i hv
      refine List.nodup_append.2 ⟨h, by simp, ?_⟩
      intro a ha b hb hab
      simp at hb; subst hb; subst hab; exact hv ha
theorem onces_size {B : Nat} {vs s : List ByteArray} (h : ∀ x ∈ vs, x.size ≤ B) (h' : ∀ x ∈ s, x.size ≤ B) : ∀ x ∈ vs.foldl once s, x.size ≤ B := fun x hx => (mem_onces.1 hx).elim (h' x) (h x)
theorem szs {B : Nat} : ∀ (xs : List ByteArray), (∀ x ∈ xs, x.size ≤ B) → (xs.map fun s : ByteArray => (s.size : Int)).sum ≤ (xs.length : Int) * B
  | [], _ => by simp
  | x :: xs, h => by
    have h1 := szs xs fun y hy => h y (by simp [hy])
    have h2 := h x (by simp)
    simp only [List.map_cons, List.sum_cons, List.length_cons]
    have : ((xs.length + 1 : Nat) : Int) * (B : Int) = (xs.length : Int) * B + B := by rw [Int.natCast_add, Int.add_mul]; simp
    omega
end Go.Proofs.Ytjhlmnbkfdkmpaa
