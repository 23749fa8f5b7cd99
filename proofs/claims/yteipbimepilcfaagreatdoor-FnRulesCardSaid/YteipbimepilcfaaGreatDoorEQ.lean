/-
  The engine, part Q: a field of a value; calls of closures that turn what they caught.
  Nothing here names a program.
-/
import Derived.Test.YteipbimepilcfaaGreatDoorEP
namespace Go.Proofs.YteipbimepilcfaaGreatDoor.Eng
set_option linter.unusedVariables false
set_option linter.unusedSimpArgs false
variable {P : Program} {l : List (Nat × Value)} {S : World → Prop}
def Fd1 (P : Program) (t i off : Nat) : Bool :=
  match P.underlying t with
  | some (.struct fs) => match fs[i]? with
    | some f => f.offset == off && T1 P f.type
    | none => false
  | _ => false
theorem q_field1 {t i off : Nat} {x : Operand} {C : Array Value} {v : Value} (ht : Fd1 P t i off = true) (hx : opv l x = some (.agg C)) (hv : C[off]? = some v) : OpQ P (.field t x i) l S v := fun n a w op ho hf hw => by
  unfold Fd1 at ht
  split at ht
  · rename_i fs hu
    split at ht
    · rename_i f hfi
      simp only [Bool.and_eq_true, beq_iff_eq] at ht
      obtain ⟨h1, h2⟩ := ht
      subst h1
      unfold execOp; simp only [ho, hf.eval hx]
      simp [Instr.field, Sem.run_bind, run_underlying hu, hfi, asAgg, part, run_isAgg1 h2, hv]
    · cases ht
  · cases ht
def If (P : Program) (t : Nat) : Bool := match P.underlying t with | some (.interface _) => true | _ => false
theorem q_eqI {t u : Nat} {x : Operand} (ht : If P t = true) (hx : opv l x = some .nilIface) : OpQ P (.binOp .eql t x (.const .nilIface) u) l S (.bool true) := fun k a w op ho hf hw => by
  unfold If at ht
  split at ht
  · rename_i ms hu
    have h1 : (Op.equal t .nilIface .nilIface).run P w = .ok true w := by
      show (Op.equalIn (9999 + 1) t .nilIface .nilIface).run P w = .ok true w
      unfold Op.equalIn
      simp [Sem.run_bind, run_underlying hu]
    have h0 : a.eval (.const .nilIface) = .nilIface := rfl
    unfold execOp; simp only [ho, hf.eval hx, h0]
    simp [eqGuard, binOp, Sem.run_bind, h1]
  · cases ht
end Go.Proofs.YteipbimepilcfaaGreatDoor.Eng
