/- Plain laws: how many arguments patterns have. -/
import Derived.Test.YtjhlmnbkfdkmpaaCL
import Derived.Test.YtjhlmnbkfdkmpaaWPickedMod
namespace Go.Proofs.Ytjhlmnbkfdkmpaa
open Eng
set_option linter.unusedVariables false
set_option linter.unusedSimpArgs false

def sumArgs (l : List TPat) : Nat := (l.map fun p => p.Args.length).sum
theorem sumArgs_cons (p : TPat) (t : List TPat) : sumArgs (p :: t) = p.Args.length + sumArgs t := by simp [sumArgs]
theorem sumArgs_drop (n : Nat) : ∀ (l : List TPat), sumArgs (l.drop n) ≤ sumArgs l := by
  induction n with
  | zero => intro l; simp
  | succ n ih =>
    intro l
    cases l with
    | nil => simp
    | cons p t => rw [List.drop_succ_cons, sumArgs_cons]; have := ih t; omega
theorem sumArgs_take (n : Nat) : ∀ (l : List TPat), sumArgs (l.take n) ≤ sumArgs l := by
  induction n with
  | zero => intro l; simp [sumArgs]
  | succ n ih =>
    intro l
    cases l with
    | nil => simp
    | cons p t => rw [List.take_succ_cons, sumArgs_cons, sumArgs_cons]; have := ih t; omega
end Go.Proofs.Ytjhlmnbkfdkmpaa
