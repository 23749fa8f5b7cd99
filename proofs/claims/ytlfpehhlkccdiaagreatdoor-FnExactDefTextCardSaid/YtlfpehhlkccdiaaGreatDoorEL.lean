/-
  The engine, part L: what the functions of Go's library compute that are met by a contract.
  Nothing here names a program.
-/
import Derived.Test.YtlfpehhlkccdiaaGreatDoorEK
import Derived.Lib.Join
import Derived.Lib.ItoaNum
namespace Go.Proofs.YtlfpehhlkccdiaaGreatDoor.Eng
set_option linter.unusedVariables false
/-- The table of powers of ten stands in block b. -/
def TabAt (b : Nat) (Φ : Hp) : Prop := ∃ T fz, Φ b = some (.cells (Go.Lib.pow10Tab.map fun z => Value.int .u64 z).toArray T fz)
theorem TabAt.fr {b : Nat} {Φ Φ' : Hp} (h : TabAt b Φ) (hf : FrH [] Φ Φ') : TabAt b Φ' := by
  obtain ⟨T, fz, h⟩ := h; exact ⟨T, fz, hf b _ (by simp) h⟩
end Go.Proofs.YtlfpehhlkccdiaaGreatDoor.Eng
namespace Go.Proofs.YtlfpehhlkccdiaaGreatDoor
open Eng
set_option linter.unusedVariables false
def m_strconv_Itoa (N : Nat) (n : Int) : Option ByteArray :=
  if -9223372036854775808 ≤ n ∧ n ≤ 9223372036854775807 then some ⟨(Go.Lib.itoa n).toArray⟩ else none
def m_strings_Join (N : Nat) (xs : List ByteArray) (s : ByteArray) : Option ByteArray :=
  if xs.length ≤ 140737488355328 ∧ (Go.Lib.join (xs.map (·.data.toList)) s.data.toList).length ≤ 140737488355328 then some ⟨(Go.Lib.join (xs.map (·.data.toList)) s.data.toList).toArray⟩ else none
end Go.Proofs.YtlfpehhlkccdiaaGreatDoor
