/-
  No cell of these rows narrows 'for every input' (looked for: loops, veiled, ifaces, maps, wideKeys, modest, calm, conditions, laid).
  DERIVED. THE GIVEN ROWS OF THIS SEAT. 3 by the template 'for every input the law returns true; each argument reads behind the call as it read before'; 0 by the template 'total and deterministic' (their statements: YtjangilipfjcmaaTotals.lean).
  GIVEN WITH THE SEED: the statements are not yours to turn. If you find one false, say at which input.
  Laid BY PROGRAM, IN A SANDBOX (cutbox-rows.mjs): the forced cells as the released guide's own fill.sh prints them over the translation 4423358f0d4274f2… (all of the seat's roots in one cut). By AI agents, Wed Nov 11 2026. No macro, syntax, notation, axiom, sorry.
-/
import Derived.Test.YtjangilipfjcmaaChecked
import GoSem.Claim
import GoSem.ClaimJoined
import GoSem.ClaimMapViews
import Derived.JoinedTies
import Derived.KernelRfl
namespace Go.Proofs.Ytjangilipfjcmaa
/- THE CELL 'sum', in the pinned program and in every row, IS THE sha256 OF THE DUMP (.gsa) THAT YtjangilipfjcmaaProg.lean LOADS. Nothing in Lean hashes anything: it is a label: what it is worth is what the hold of that sum in a sandbox is worth. -/
noncomputable def Try.pinned : Pinned := { name := "ytjangilipfjcmaa", sum := "4423358f0d4274f215773644a5c012296aa62d88c0a45acccb0cc8575d25373b", checked := Try.checked }
namespace Rows
def none {H : Type} : Left H := { results := [], args := [] }

/-- 'laws.FnExactDefOk': WHATEVER THE INPUT: true; the input reads as it did. -/
def fnExactDefOkSpec : ChangeSpec := { name := "fnExactDefOk", fn := fun _ => fun
  | [d] => { results := [.lit (.bool true)], args := [d] }
  | _ => none }
def fnExactDefOkRow : OpenClaim := { program := "ytjangilipfjcmaa", sum := "4423358f0d4274f215773644a5c012296aa62d88c0a45acccb0cc8575d25373b", func := "loop.example/g00282/laws.FnExactDefOk", spec := "fnExactDefOk", unfollowed := true, recurses := true, apart := false }
def FnExactDefOkSaid : Prop := fnExactDefOkRow.holds Try.pinned (OpenSpec.ofChange fnExactDefOkSpec)

/-- ITS FALSE NEIGHBOUR: 'it returns false'. Refute it at one input. -/
def fnExactDefOkWrong : ChangeSpec := { name := "fnExactDefOk", fn := fun _ => fun
  | [d] => { results := [.lit (.bool false)], args := [d] }
  | _ => none }
def FnExactDefOkWrongFalsely : Prop := fnExactDefOkRow.holds Try.pinned (OpenSpec.ofChange fnExactDefOkWrong)

/-- 'laws.FnExactBindsFor': WHATEVER THE INPUT: true; the input reads as it did. -/
def fnExactBindsForSpec : ChangeSpec := { name := "fnExactBindsFor", fn := fun _ => fun
  | [d1, d2, d3] => { results := [.lit (.bool true)], args := [d1, d2, d3] }
  | _ => none }
def fnExactBindsForRow : OpenClaim := { program := "ytjangilipfjcmaa", sum := "4423358f0d4274f215773644a5c012296aa62d88c0a45acccb0cc8575d25373b", func := "loop.example/g00282/laws.FnExactBindsFor", spec := "fnExactBindsFor", apart := false }
def FnExactBindsForSaid : Prop := fnExactBindsForRow.holds Try.pinned (OpenSpec.ofChange fnExactBindsForSpec)

/-- ITS FALSE NEIGHBOUR: 'it returns false'. Refute it at one input. -/
def fnExactBindsForWrong : ChangeSpec := { name := "fnExactBindsFor", fn := fun _ => fun
  | [d1, d2, d3] => { results := [.lit (.bool false)], args := [d1, d2, d3] }
  | _ => none }
def FnExactBindsForWrongFalsely : Prop := fnExactBindsForRow.holds Try.pinned (OpenSpec.ofChange fnExactBindsForWrong)

/-- 'laws.FnExactPickMatch': WHATEVER THE INPUT: true; the input reads as it did. -/
def fnExactPickMatchSpec : ChangeSpec := { name := "fnExactPickMatch", fn := fun _ => fun
  | [d1, d2, d3] => { results := [.lit (.bool true)], args := [d1, d2, d3] }
  | _ => none }
def fnExactPickMatchRow : OpenClaim := { program := "ytjangilipfjcmaa", sum := "4423358f0d4274f215773644a5c012296aa62d88c0a45acccb0cc8575d25373b", func := "loop.example/g00282/laws.FnExactPickMatch", spec := "fnExactPickMatch", unfollowed := true, recurses := true, apart := false }
def FnExactPickMatchSaid : Prop := fnExactPickMatchRow.holds Try.pinned (OpenSpec.ofChange fnExactPickMatchSpec)

/-- ITS FALSE NEIGHBOUR: 'it returns false'. Refute it at one input. -/
def fnExactPickMatchWrong : ChangeSpec := { name := "fnExactPickMatch", fn := fun _ => fun
  | [d1, d2, d3] => { results := [.lit (.bool false)], args := [d1, d2, d3] }
  | _ => none }
def FnExactPickMatchWrongFalsely : Prop := fnExactPickMatchRow.holds Try.pinned (OpenSpec.ofChange fnExactPickMatchWrong)

/- THE SECOND FORM. 'bulk': how many values and letters a reading holds, each counted each time it is reached (what is shared counts as often as it is met; a slice's spare places count too). A statement '..UptoSaid' is the law's where the arguments, and the package variables that the reading takes, are together of bulk at most 1048576: NARROWER than '..Said'. Prove '..Said' where nothing that the law and all that it calls make is longer than what came in: it says more and counts as full. Else prove '..UptoSaid'. A law counts once. -/
mutual
def uptoBulk {H : Type} : DataW H → Nat
  | .lit (.string bytes) => bytes.length + 1
  | .lit _ => 1
  | .nil => 1
  | .ptr d => uptoBulk d + 1
  | .slice elems spare => uptoBulkAll elems + uptoBulkAll spare + 1
  | .agg parts => uptoBulkAll parts + 1
  | .iface _ d => uptoBulk d + 1
  | .map entries => uptoBulkEntries entries + 1
  | .held _ => 1
def uptoBulkAll {H : Type} : List (DataW H) → Nat
  | [] => 0
  | d :: r => uptoBulk d + uptoBulkAll r
def uptoBulkEntries {H : Type} : List (Lit × DataW H) → Nat
  | [] => 0
  | x :: r => uptoBulkEntry x + uptoBulkEntries r
def uptoBulkEntry {H : Type} : Lit × DataW H → Nat
  | (.string bytes, d) => bytes.length + uptoBulk d + 1
  | (_, d) => uptoBulk d + 1
 end
def uptoSmall : (H : Type) → List (DataW H) → Bool := fun _ ds => decide (uptoBulkAll ds ≤ 1048576)
def OpenSpec.upto (s : _root_.Go.ChangeSpec) : _root_.Go.OpenSpec := { _root_.Go.OpenSpec.ofChange s with cond := some uptoSmall }

/-- 'laws.FnExactDefOk', WHERE WHAT IT READS IS OF BULK AT MOST 1048576: true; the input reads as it did. -/
def fnExactDefOkUptoRow : OpenClaim := { program := "ytjangilipfjcmaa", sum := "4423358f0d4274f215773644a5c012296aa62d88c0a45acccb0cc8575d25373b", func := "loop.example/g00282/laws.FnExactDefOk", spec := "fnExactDefOk", unfollowed := true, recurses := true, apart := false, narrowed := true }
def FnExactDefOkUptoSaid : Prop := fnExactDefOkUptoRow.holds Try.pinned (OpenSpec.upto fnExactDefOkSpec)

/-- 'laws.FnExactBindsFor', WHERE WHAT IT READS IS OF BULK AT MOST 1048576: true; the input reads as it did. -/
def fnExactBindsForUptoRow : OpenClaim := { program := "ytjangilipfjcmaa", sum := "4423358f0d4274f215773644a5c012296aa62d88c0a45acccb0cc8575d25373b", func := "loop.example/g00282/laws.FnExactBindsFor", spec := "fnExactBindsFor", apart := false, narrowed := true }
def FnExactBindsForUptoSaid : Prop := fnExactBindsForUptoRow.holds Try.pinned (OpenSpec.upto fnExactBindsForSpec)

/-- 'laws.FnExactPickMatch', WHERE WHAT IT READS IS OF BULK AT MOST 1048576: true; the input reads as it did. -/
def fnExactPickMatchUptoRow : OpenClaim := { program := "ytjangilipfjcmaa", sum := "4423358f0d4274f215773644a5c012296aa62d88c0a45acccb0cc8575d25373b", func := "loop.example/g00282/laws.FnExactPickMatch", spec := "fnExactPickMatch", unfollowed := true, recurses := true, apart := false, narrowed := true }
def FnExactPickMatchUptoSaid : Prop := fnExactPickMatchUptoRow.holds Try.pinned (OpenSpec.upto fnExactPickMatchSpec)

end Rows
end Go.Proofs.Ytjangilipfjcmaa
