/-
  The engine, part G: an argument of a law, as the form reads it, is data as our contracts read it.
  Nothing here names a program.
-/
import Derived.Test.YteipbimepilcfaaGreatDoorEF
import Derived.ProofKit
import Derived.Deep.Slices
namespace Go.Proofs.YteipbimepilcfaaGreatDoor.Eng
open Go.ChangeShapes Go.WideShapes Go.ChangeAt Go.RowKit Go.Deep
set_option linter.unusedVariables false
set_option linter.unusedSimpArgs false

def hp (w : World) : Hp := fun k => w.heap[k]?
theorem hp_in (w : World) : In (hp w) w := fun _ _ h => h

def Rdt (P : Program) (w : World) (t : Nat) {α : Type} (R : Hp → List Nat → List Value → α → Prop) (Wf : α → Prop) : Prop :=
  ∀ (H : Type) (enc : TypeId × Value → H) (sp : Nat → Bool) (held : Bool) (n : Nat) (cs : List Value) (x : DataW H × List MemPlace), DataW.trod enc P w 0 sp held n t cs = some x → ∃ F y, R (hp w) F cs y ∧ Kw (hp w) F ∧ Wf y

def WfI (kd : IntKind) (x : Int) : Prop := (Lit.int kd x).wf = true
def WfB (_ : Bool) : Prop := True
def WfS (s : ByteArray) : Prop := s.size ≤ maxLen
def WfL {α : Type} (W : α → Prop) (xs : List α) : Prop := xs.length ≤ maxLen ∧ ∀ x ∈ xs, W x

variable {P : Program} {w : World}

theorem rd_str {t : Nat} (h : P.underlying t = some .string) : Rdt P w t RS WfS := fun H enc sp held n cs x hx => by
  obtain ⟨m, hc, _, hw⟩ := DataW.trod_string h hx
  exact ⟨[], m, ⟨hc, rfl⟩, Kw.nil, hw⟩

theorem flat_of {r : Reach} {b0 t : Nat} {v c : Value} {T : TypeDesc} (hv : Value.okWide P w r b0 t v) (hu : P.underlying t = some T) (hT : (match T with | .int _ => true | .bool => true | .string => true | _ => false) = true) (hc : v.cells.toList = [c]) : v = c := by
  cases v with
  | agg cs => exfalso; cases T <;> simp_all [Value.okWide, Cell.okWide, Cell.ok]
  | _ => simpa [Value.cells] using hc
theorem str_of {r : Reach} {b0 t : Nat} {v c : Value} (hv : Value.okWide P w r b0 t v) (hu : P.underlying t = some .string) (hc : v.cells.toList = [c]) : v = c := flat_of hv hu rfl hc
end Go.Proofs.YteipbimepilcfaaGreatDoor.Eng
