/-
  The engine, part L: what the functions of Go's library compute that are met by a contract.
  Nothing here names a program.
-/
import Derived.Test.YteipbimepilcfaaGreatDoorEK
import Derived.Lib.Join
import Derived.Lib.ItoaNum
import Derived.Lib.Atoi
import Derived.Lib.Bytealg
namespace Go.Proofs.YteipbimepilcfaaGreatDoor.Eng
set_option linter.unusedVariables false
def TabAt (b : Nat) (Φ : Hp) : Prop := ∃ T fz, Φ b = some (.cells (Go.Lib.pow10Tab.map fun z => Value.int .u64 z).toArray T fz)
theorem TabAt.y {b : Nat} {Φ Φ' : Hp} (h : TabAt b Φ) (hu : ∀ k o, Φ k = some o → Φ' k = some o) : TabAt b Φ' := by
  obtain ⟨T, fz, h⟩ := h; exact ⟨T, fz, hu b _ h⟩
theorem TabAt.fr {b : Nat} {Φ Φ' : Hp} (h : TabAt b Φ) (hf : FrH [] Φ Φ') : TabAt b Φ' := by
  obtain ⟨T, fz, h⟩ := h; exact ⟨T, fz, hf b _ (by simp) h⟩
end Go.Proofs.YteipbimepilcfaaGreatDoor.Eng
namespace Go.Proofs.YteipbimepilcfaaGreatDoor
open Eng
set_option linter.unusedVariables false
def m_strconv_Itoa (N : Nat) (n : Int) : Option ByteArray :=
  if -9223372036854775808 ≤ n ∧ n ≤ 9223372036854775807 then some ⟨(Go.Lib.itoa n).toArray⟩ else none
def m_strings_Join (N : Nat) (xs : List ByteArray) (s : ByteArray) : Option ByteArray :=
  if xs.length ≤ 140737488355328 ∧ (Go.Lib.join (xs.map (·.data.toList)) s.data.toList).length ≤ 140737488355328 then some ⟨(Go.Lib.join (xs.map (·.data.toList)) s.data.toList).toArray⟩ else none
def m_strconv_Atoi (N : Nat) (s : ByteArray) : Option Int := if s.size ≤ 18 then Go.Lib.atoi s.data.toList else none
def m_strings_IndexByte (N : Nat) (s : ByteArray) (c : Int) : Option Int := some (Go.Lib.indexByte s.data.toList c.toNat.toUInt8)
end Go.Proofs.YteipbimepilcfaaGreatDoor
