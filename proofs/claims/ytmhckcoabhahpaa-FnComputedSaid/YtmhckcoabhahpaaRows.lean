/-
  No cell of these rows narrows 'for every input' (looked for: loops, veiled, ifaces, maps, wideKeys, modest, calm, conditions, laid).
  DERIVED. THE GIVEN ROWS OF THIS SEAT. 9 by the template 'for every input the law returns true; each argument reads behind the call as it read before'; 0 by the template 'total and deterministic' (their statements: YtmhckcoabhahpaaTotals.lean).
  GIVEN WITH THE SEED: the statements are not yours to turn. If you find one false, say at which input.
  Laid BY PROGRAM, IN A SANDBOX (cutbox-rows.mjs): the forced cells as the released guide's own fill.sh prints them over the translation 2b1173ec5ab99b37… (all of the seat's roots in one cut). By AI agents, Wed Nov 11 2026. No macro, syntax, notation, axiom, sorry.
-/
import Derived.Test.YtmhckcoabhahpaaChecked
import GoSem.Claim
import GoSem.ClaimJoined
import GoSem.ClaimMapViews
import Derived.JoinedTies
import Derived.KernelRfl
namespace Go.Proofs.Ytmhckcoabhahpaa
/- THE CELL 'sum', in the pinned program and in every row, IS THE sha256 OF THE DUMP (.gsa) THAT YtmhckcoabhahpaaProg.lean LOADS. Nothing in Lean hashes anything: it is a label: what it is worth is what the hold of that sum in a sandbox is worth. -/
noncomputable def Try.pinned : Pinned := { name := "ytmhckcoabhahpaa", sum := "2b1173ec5ab99b374c320196b02cf35ff38ec21b28a1a613cec519aa4e1d035f", checked := Try.checked }
namespace Rows
def none {H : Type} : Left H := { results := [], args := [] }

/-- 'laws.FnUrgent': WHATEVER THE INPUT: true; the input reads as it did. -/
def fnUrgentSpec : ChangeSpec := { name := "fnUrgent", fn := fun _ => fun
  | [d] => { results := [.lit (.bool true)], args := [d] }
  | _ => none }
def fnUrgentRow : OpenClaim := { program := "ytmhckcoabhahpaa", sum := "2b1173ec5ab99b374c320196b02cf35ff38ec21b28a1a613cec519aa4e1d035f", func := "loop.example/g00282/laws.FnUrgent", spec := "fnUrgent", apart := false }
def FnUrgentSaid : Prop := fnUrgentRow.holds Try.pinned (OpenSpec.ofChange fnUrgentSpec)

/-- ITS FALSE NEIGHBOUR: 'it returns false'. Refute it at one input. -/
def fnUrgentWrong : ChangeSpec := { name := "fnUrgent", fn := fun _ => fun
  | [d] => { results := [.lit (.bool false)], args := [d] }
  | _ => none }
def FnUrgentWrongFalsely : Prop := fnUrgentRow.holds Try.pinned (OpenSpec.ofChange fnUrgentWrong)

/-- 'laws.FnAlphas': WHATEVER THE INPUT: true; the input reads as it did. -/
def fnAlphasSpec : ChangeSpec := { name := "fnAlphas", fn := fun _ => fun
  | [d] => { results := [.lit (.bool true)], args := [d] }
  | _ => none }
def fnAlphasRow : OpenClaim := { program := "ytmhckcoabhahpaa", sum := "2b1173ec5ab99b374c320196b02cf35ff38ec21b28a1a613cec519aa4e1d035f", func := "loop.example/g00282/laws.FnAlphas", spec := "fnAlphas", apart := false }
def FnAlphasSaid : Prop := fnAlphasRow.holds Try.pinned (OpenSpec.ofChange fnAlphasSpec)

/-- ITS FALSE NEIGHBOUR: 'it returns false'. Refute it at one input. -/
def fnAlphasWrong : ChangeSpec := { name := "fnAlphas", fn := fun _ => fun
  | [d] => { results := [.lit (.bool false)], args := [d] }
  | _ => none }
def FnAlphasWrongFalsely : Prop := fnAlphasRow.holds Try.pinned (OpenSpec.ofChange fnAlphasWrong)

/-- 'laws.FnExactForget': WHATEVER THE INPUT: true; the input reads as it did. -/
def fnExactForgetSpec : ChangeSpec := { name := "fnExactForget", fn := fun _ => fun
  | [d1, d2] => { results := [.lit (.bool true)], args := [d1, d2] }
  | _ => none }
def fnExactForgetRow : OpenClaim := { program := "ytmhckcoabhahpaa", sum := "2b1173ec5ab99b374c320196b02cf35ff38ec21b28a1a613cec519aa4e1d035f", func := "loop.example/g00282/laws.FnExactForget", spec := "fnExactForget", apart := false }
def FnExactForgetSaid : Prop := fnExactForgetRow.holds Try.pinned (OpenSpec.ofChange fnExactForgetSpec)

/-- ITS FALSE NEIGHBOUR: 'it returns false'. Refute it at one input. -/
def fnExactForgetWrong : ChangeSpec := { name := "fnExactForget", fn := fun _ => fun
  | [d1, d2] => { results := [.lit (.bool false)], args := [d1, d2] }
  | _ => none }
def FnExactForgetWrongFalsely : Prop := fnExactForgetRow.holds Try.pinned (OpenSpec.ofChange fnExactForgetWrong)

/-- 'laws.FnRuleVars': WHATEVER THE INPUT: true; the input reads as it did. -/
def fnRuleVarsSpec : ChangeSpec := { name := "fnRuleVars", fn := fun _ => fun
  | [d] => { results := [.lit (.bool true)], args := [d] }
  | _ => none }
def fnRuleVarsRow : OpenClaim := { program := "ytmhckcoabhahpaa", sum := "2b1173ec5ab99b374c320196b02cf35ff38ec21b28a1a613cec519aa4e1d035f", func := "loop.example/g00282/laws.FnRuleVars", spec := "fnRuleVars", apart := false }
def FnRuleVarsSaid : Prop := fnRuleVarsRow.holds Try.pinned (OpenSpec.ofChange fnRuleVarsSpec)

/-- ITS FALSE NEIGHBOUR: 'it returns false'. Refute it at one input. -/
def fnRuleVarsWrong : ChangeSpec := { name := "fnRuleVars", fn := fun _ => fun
  | [d] => { results := [.lit (.bool false)], args := [d] }
  | _ => none }
def FnRuleVarsWrongFalsely : Prop := fnRuleVarsRow.holds Try.pinned (OpenSpec.ofChange fnRuleVarsWrong)

/-- 'laws.FnComputed': WHATEVER THE INPUT: true; the input reads as it did. -/
def fnComputedSpec : ChangeSpec := { name := "fnComputed", fn := fun _ => fun
  | [d] => { results := [.lit (.bool true)], args := [d] }
  | _ => none }
def fnComputedRow : OpenClaim := { program := "ytmhckcoabhahpaa", sum := "2b1173ec5ab99b374c320196b02cf35ff38ec21b28a1a613cec519aa4e1d035f", func := "loop.example/g00282/laws.FnComputed", spec := "fnComputed", apart := false }
def FnComputedSaid : Prop := fnComputedRow.holds Try.pinned (OpenSpec.ofChange fnComputedSpec)

/-- ITS FALSE NEIGHBOUR: 'it returns false'. Refute it at one input. -/
def fnComputedWrong : ChangeSpec := { name := "fnComputed", fn := fun _ => fun
  | [d] => { results := [.lit (.bool false)], args := [d] }
  | _ => none }
def FnComputedWrongFalsely : Prop := fnComputedRow.holds Try.pinned (OpenSpec.ofChange fnComputedWrong)

/-- 'laws.FnExactActOk': WHATEVER THE INPUT: true; the input reads as it did. -/
def fnExactActOkSpec : ChangeSpec := { name := "fnExactActOk", fn := fun _ => fun
  | [d] => { results := [.lit (.bool true)], args := [d] }
  | _ => none }
def fnExactActOkRow : OpenClaim := { program := "ytmhckcoabhahpaa", sum := "2b1173ec5ab99b374c320196b02cf35ff38ec21b28a1a613cec519aa4e1d035f", func := "loop.example/g00282/laws.FnExactActOk", spec := "fnExactActOk", apart := false }
def FnExactActOkSaid : Prop := fnExactActOkRow.holds Try.pinned (OpenSpec.ofChange fnExactActOkSpec)

/-- ITS FALSE NEIGHBOUR: 'it returns false'. Refute it at one input. -/
def fnExactActOkWrong : ChangeSpec := { name := "fnExactActOk", fn := fun _ => fun
  | [d] => { results := [.lit (.bool false)], args := [d] }
  | _ => none }
def FnExactActOkWrongFalsely : Prop := fnExactActOkRow.holds Try.pinned (OpenSpec.ofChange fnExactActOkWrong)

/-- 'laws.FnBlocked': WHATEVER THE INPUT: true; the input reads as it did. -/
def fnBlockedSpec : ChangeSpec := { name := "fnBlocked", fn := fun _ => fun
  | [d] => { results := [.lit (.bool true)], args := [d] }
  | _ => none }
def fnBlockedRow : OpenClaim := { program := "ytmhckcoabhahpaa", sum := "2b1173ec5ab99b374c320196b02cf35ff38ec21b28a1a613cec519aa4e1d035f", func := "loop.example/g00282/laws.FnBlocked", spec := "fnBlocked", apart := false }
def FnBlockedSaid : Prop := fnBlockedRow.holds Try.pinned (OpenSpec.ofChange fnBlockedSpec)

/-- ITS FALSE NEIGHBOUR: 'it returns false'. Refute it at one input. -/
def fnBlockedWrong : ChangeSpec := { name := "fnBlocked", fn := fun _ => fun
  | [d] => { results := [.lit (.bool false)], args := [d] }
  | _ => none }
def FnBlockedWrongFalsely : Prop := fnBlockedRow.holds Try.pinned (OpenSpec.ofChange fnBlockedWrong)

/-- 'laws.FnExactPosCount': WHATEVER THE INPUT: true; the input reads as it did. -/
def fnExactPosCountSpec : ChangeSpec := { name := "fnExactPosCount", fn := fun _ => fun
  | [d] => { results := [.lit (.bool true)], args := [d] }
  | _ => none }
def fnExactPosCountRow : OpenClaim := { program := "ytmhckcoabhahpaa", sum := "2b1173ec5ab99b374c320196b02cf35ff38ec21b28a1a613cec519aa4e1d035f", func := "loop.example/g00282/laws.FnExactPosCount", spec := "fnExactPosCount", apart := false }
def FnExactPosCountSaid : Prop := fnExactPosCountRow.holds Try.pinned (OpenSpec.ofChange fnExactPosCountSpec)

/-- ITS FALSE NEIGHBOUR: 'it returns false'. Refute it at one input. -/
def fnExactPosCountWrong : ChangeSpec := { name := "fnExactPosCount", fn := fun _ => fun
  | [d] => { results := [.lit (.bool false)], args := [d] }
  | _ => none }
def FnExactPosCountWrongFalsely : Prop := fnExactPosCountRow.holds Try.pinned (OpenSpec.ofChange fnExactPosCountWrong)

/-- 'laws.FnExactComputeAll': WHATEVER THE INPUT: true; the input reads as it did. -/
def fnExactComputeAllSpec : ChangeSpec := { name := "fnExactComputeAll", fn := fun _ => fun
  | [d1, d2] => { results := [.lit (.bool true)], args := [d1, d2] }
  | _ => none }
def fnExactComputeAllRow : OpenClaim := { program := "ytmhckcoabhahpaa", sum := "2b1173ec5ab99b374c320196b02cf35ff38ec21b28a1a613cec519aa4e1d035f", func := "loop.example/g00282/laws.FnExactComputeAll", spec := "fnExactComputeAll", apart := false }
def FnExactComputeAllSaid : Prop := fnExactComputeAllRow.holds Try.pinned (OpenSpec.ofChange fnExactComputeAllSpec)

/-- ITS FALSE NEIGHBOUR: 'it returns false'. Refute it at one input. -/
def fnExactComputeAllWrong : ChangeSpec := { name := "fnExactComputeAll", fn := fun _ => fun
  | [d1, d2] => { results := [.lit (.bool false)], args := [d1, d2] }
  | _ => none }
def FnExactComputeAllWrongFalsely : Prop := fnExactComputeAllRow.holds Try.pinned (OpenSpec.ofChange fnExactComputeAllWrong)

/- THE SECOND FORM. 'bulk': how many values and letters a reading holds, each counted each time it is reached (what is shared counts as often as it is met; a slice's spare places count too). A statement '..UptoSaid' is the law's where the arguments, and the package variables that the reading takes, are together of bulk at most 1048576: NARROWER than '..Said'. Prove '..Said' where nothing that the law and all that it calls make is longer than what came in: it says more and counts as full. Else prove '..UptoSaid'. A law counts once. -/
mutual
def uptoBulk {H : Type} : DataW H → Nat
  | .lit (.string bytes) => bytes.length + 1
  | .lit _ => 1
  | .nil => 1
  | .ptr d => uptoBulk d + 1
  | .slice elems spare => uptoBulkAll elems + uptoBulkAll spare + 1
  | .agg parts => uptoBulkAll parts + 1
  | .iface _ d => uptoBulk d + 1
  | .map entries => uptoBulkEntries entries + 1
  | .held _ => 1
def uptoBulkAll {H : Type} : List (DataW H) → Nat
  | [] => 0
  | d :: r => uptoBulk d + uptoBulkAll r
def uptoBulkEntries {H : Type} : List (Lit × DataW H) → Nat
  | [] => 0
  | x :: r => uptoBulkEntry x + uptoBulkEntries r
def uptoBulkEntry {H : Type} : Lit × DataW H → Nat
  | (.string bytes, d) => bytes.length + uptoBulk d + 1
  | (_, d) => uptoBulk d + 1
 end
def uptoSmall : (H : Type) → List (DataW H) → Bool := fun _ ds => decide (uptoBulkAll ds ≤ 1048576)
def OpenSpec.upto (s : _root_.Go.ChangeSpec) : _root_.Go.OpenSpec := { _root_.Go.OpenSpec.ofChange s with cond := some uptoSmall }

/-- 'laws.FnUrgent', WHERE WHAT IT READS IS OF BULK AT MOST 1048576: true; the input reads as it did. -/
def fnUrgentUptoRow : OpenClaim := { program := "ytmhckcoabhahpaa", sum := "2b1173ec5ab99b374c320196b02cf35ff38ec21b28a1a613cec519aa4e1d035f", func := "loop.example/g00282/laws.FnUrgent", spec := "fnUrgent", apart := false, narrowed := true }
def FnUrgentUptoSaid : Prop := fnUrgentUptoRow.holds Try.pinned (OpenSpec.upto fnUrgentSpec)

/-- 'laws.FnAlphas', WHERE WHAT IT READS IS OF BULK AT MOST 1048576: true; the input reads as it did. -/
def fnAlphasUptoRow : OpenClaim := { program := "ytmhckcoabhahpaa", sum := "2b1173ec5ab99b374c320196b02cf35ff38ec21b28a1a613cec519aa4e1d035f", func := "loop.example/g00282/laws.FnAlphas", spec := "fnAlphas", apart := false, narrowed := true }
def FnAlphasUptoSaid : Prop := fnAlphasUptoRow.holds Try.pinned (OpenSpec.upto fnAlphasSpec)

/-- 'laws.FnExactForget', WHERE WHAT IT READS IS OF BULK AT MOST 1048576: true; the input reads as it did. -/
def fnExactForgetUptoRow : OpenClaim := { program := "ytmhckcoabhahpaa", sum := "2b1173ec5ab99b374c320196b02cf35ff38ec21b28a1a613cec519aa4e1d035f", func := "loop.example/g00282/laws.FnExactForget", spec := "fnExactForget", apart := false, narrowed := true }
def FnExactForgetUptoSaid : Prop := fnExactForgetUptoRow.holds Try.pinned (OpenSpec.upto fnExactForgetSpec)

/-- 'laws.FnRuleVars', WHERE WHAT IT READS IS OF BULK AT MOST 1048576: true; the input reads as it did. -/
def fnRuleVarsUptoRow : OpenClaim := { program := "ytmhckcoabhahpaa", sum := "2b1173ec5ab99b374c320196b02cf35ff38ec21b28a1a613cec519aa4e1d035f", func := "loop.example/g00282/laws.FnRuleVars", spec := "fnRuleVars", apart := false, narrowed := true }
def FnRuleVarsUptoSaid : Prop := fnRuleVarsUptoRow.holds Try.pinned (OpenSpec.upto fnRuleVarsSpec)

/-- 'laws.FnComputed', WHERE WHAT IT READS IS OF BULK AT MOST 1048576: true; the input reads as it did. -/
def fnComputedUptoRow : OpenClaim := { program := "ytmhckcoabhahpaa", sum := "2b1173ec5ab99b374c320196b02cf35ff38ec21b28a1a613cec519aa4e1d035f", func := "loop.example/g00282/laws.FnComputed", spec := "fnComputed", apart := false, narrowed := true }
def FnComputedUptoSaid : Prop := fnComputedUptoRow.holds Try.pinned (OpenSpec.upto fnComputedSpec)

/-- 'laws.FnExactActOk', WHERE WHAT IT READS IS OF BULK AT MOST 1048576: true; the input reads as it did. -/
def fnExactActOkUptoRow : OpenClaim := { program := "ytmhckcoabhahpaa", sum := "2b1173ec5ab99b374c320196b02cf35ff38ec21b28a1a613cec519aa4e1d035f", func := "loop.example/g00282/laws.FnExactActOk", spec := "fnExactActOk", apart := false, narrowed := true }
def FnExactActOkUptoSaid : Prop := fnExactActOkUptoRow.holds Try.pinned (OpenSpec.upto fnExactActOkSpec)

/-- 'laws.FnBlocked', WHERE WHAT IT READS IS OF BULK AT MOST 1048576: true; the input reads as it did. -/
def fnBlockedUptoRow : OpenClaim := { program := "ytmhckcoabhahpaa", sum := "2b1173ec5ab99b374c320196b02cf35ff38ec21b28a1a613cec519aa4e1d035f", func := "loop.example/g00282/laws.FnBlocked", spec := "fnBlocked", apart := false, narrowed := true }
def FnBlockedUptoSaid : Prop := fnBlockedUptoRow.holds Try.pinned (OpenSpec.upto fnBlockedSpec)

/-- 'laws.FnExactPosCount', WHERE WHAT IT READS IS OF BULK AT MOST 1048576: true; the input reads as it did. -/
def fnExactPosCountUptoRow : OpenClaim := { program := "ytmhckcoabhahpaa", sum := "2b1173ec5ab99b374c320196b02cf35ff38ec21b28a1a613cec519aa4e1d035f", func := "loop.example/g00282/laws.FnExactPosCount", spec := "fnExactPosCount", apart := false, narrowed := true }
def FnExactPosCountUptoSaid : Prop := fnExactPosCountUptoRow.holds Try.pinned (OpenSpec.upto fnExactPosCountSpec)

/-- 'laws.FnExactComputeAll', WHERE WHAT IT READS IS OF BULK AT MOST 1048576: true; the input reads as it did. -/
def fnExactComputeAllUptoRow : OpenClaim := { program := "ytmhckcoabhahpaa", sum := "2b1173ec5ab99b374c320196b02cf35ff38ec21b28a1a613cec519aa4e1d035f", func := "loop.example/g00282/laws.FnExactComputeAll", spec := "fnExactComputeAll", apart := false, narrowed := true }
def FnExactComputeAllUptoSaid : Prop := fnExactComputeAllUptoRow.holds Try.pinned (OpenSpec.upto fnExactComputeAllSpec)

end Rows
end Go.Proofs.Ytmhckcoabhahpaa
