/- Plain laws: NetOf, as the program makes it. -/
import Derived.Test.YtjangilipfjcmaaGreatSNet
namespace Go.Proofs.YtjangilipfjcmaaGreat
open Eng
set_option linter.unusedVariables false
set_option linter.unusedSimpArgs false

theorem netOf_i {N : Nat} (hN : 1099000000000 ≤ N) (d : TDef) (h : SzDef d) : m_i_NetOf N d = some (if okDef d = true then netOf d else ⟨[], []⟩) := by
  unfold m_i_NetOf
  rw [def_i hN d h, Option.bind_some]
  cases hd : okDef d with
  | false => simp
  | true => simp [netIn_i hN d (okDef_net hd)]
end Go.Proofs.YtjangilipfjcmaaGreat
