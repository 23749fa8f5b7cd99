/-
  No cell of these rows narrows 'for every input' (looked for: loops, veiled, ifaces, maps, wideKeys, modest, calm, conditions, laid).
  DERIVED. THE GIVEN ROWS OF THIS SEAT. 10 by the template 'for every input the law returns true; each argument reads behind the call as it read before'; 0 by the template 'total and deterministic' (their statements: YtjhlmnbkfdkmpaaTotals.lean).
  GIVEN WITH THE SEED: the statements are not yours to turn. If you find one false, say at which input.
  Laid BY PROGRAM, IN A SANDBOX (cutbox-rows.mjs): the forced cells as the released guide's own fill.sh prints them over the translation f3fda8466d20cbaf… (all of the seat's roots in one cut). By AI agents, Wed Nov 11 2026. No macro, syntax, notation, axiom, sorry.
-/
import Derived.Test.YtjhlmnbkfdkmpaaChecked
import GoSem.Claim
import GoSem.ClaimJoined
import GoSem.ClaimMapViews
import Derived.JoinedTies
import Derived.KernelRfl
namespace Go.Proofs.Ytjhlmnbkfdkmpaa
/- THE CELL 'sum', in the pinned program and in every row, IS THE sha256 OF THE DUMP (.gsa) THAT YtjhlmnbkfdkmpaaProg.lean LOADS. Nothing in Lean hashes anything: it is a label: what it is worth is what the hold of that sum in a sandbox is worth. -/
noncomputable def Try.pinned : Pinned := { name := "ytjhlmnbkfdkmpaa", sum := "f3fda8466d20cbaf7e131fa9ac8363fd236750a92ffbe09fa5b1c5763dd398ca", checked := Try.checked }
namespace Rows
def none {H : Type} : Left H := { results := [], args := [] }

/-- 'laws.FnExactRuleAt': WHATEVER THE INPUT: true; the input reads as it did. -/
def fnExactRuleAtSpec : ChangeSpec := { name := "fnExactRuleAt", fn := fun _ => fun
  | [d1, d2] => { results := [.lit (.bool true)], args := [d1, d2] }
  | _ => none }
def fnExactRuleAtRow : OpenClaim := { program := "ytjhlmnbkfdkmpaa", sum := "f3fda8466d20cbaf7e131fa9ac8363fd236750a92ffbe09fa5b1c5763dd398ca", func := "loop.example/g00282/laws.FnExactRuleAt", spec := "fnExactRuleAt", unfollowed := true, recurses := true, apart := false }
def FnExactRuleAtSaid : Prop := fnExactRuleAtRow.holds Try.pinned (OpenSpec.ofChange fnExactRuleAtSpec)

/-- ITS FALSE NEIGHBOUR: 'it returns false'. Refute it at one input. -/
def fnExactRuleAtWrong : ChangeSpec := { name := "fnExactRuleAt", fn := fun _ => fun
  | [d1, d2] => { results := [.lit (.bool false)], args := [d1, d2] }
  | _ => none }
def FnExactRuleAtWrongFalsely : Prop := fnExactRuleAtRow.holds Try.pinned (OpenSpec.ofChange fnExactRuleAtWrong)

/-- 'laws.FnExactMemNew': WHATEVER THE INPUT: true; the input reads as it did. -/
def fnExactMemNewSpec : ChangeSpec := { name := "fnExactMemNew", fn := fun _ => fun
  | [d] => { results := [.lit (.bool true)], args := [d] }
  | _ => none }
def fnExactMemNewRow : OpenClaim := { program := "ytjhlmnbkfdkmpaa", sum := "f3fda8466d20cbaf7e131fa9ac8363fd236750a92ffbe09fa5b1c5763dd398ca", func := "loop.example/g00282/laws.FnExactMemNew", spec := "fnExactMemNew", apart := false }
def FnExactMemNewSaid : Prop := fnExactMemNewRow.holds Try.pinned (OpenSpec.ofChange fnExactMemNewSpec)

/-- ITS FALSE NEIGHBOUR: 'it returns false'. Refute it at one input. -/
def fnExactMemNewWrong : ChangeSpec := { name := "fnExactMemNew", fn := fun _ => fun
  | [d] => { results := [.lit (.bool false)], args := [d] }
  | _ => none }
def FnExactMemNewWrongFalsely : Prop := fnExactMemNewRow.holds Try.pinned (OpenSpec.ofChange fnExactMemNewWrong)

/-- 'laws.FnExactSameDef': WHATEVER THE INPUT: true; the input reads as it did. -/
def fnExactSameDefSpec : ChangeSpec := { name := "fnExactSameDef", fn := fun _ => fun
  | [d1, d2] => { results := [.lit (.bool true)], args := [d1, d2] }
  | _ => none }
def fnExactSameDefRow : OpenClaim := { program := "ytjhlmnbkfdkmpaa", sum := "f3fda8466d20cbaf7e131fa9ac8363fd236750a92ffbe09fa5b1c5763dd398ca", func := "loop.example/g00282/laws.FnExactSameDef", spec := "fnExactSameDef", unfollowed := true, recurses := true, apart := false }
def FnExactSameDefSaid : Prop := fnExactSameDefRow.holds Try.pinned (OpenSpec.ofChange fnExactSameDefSpec)

/-- ITS FALSE NEIGHBOUR: 'it returns false'. Refute it at one input. -/
def fnExactSameDefWrong : ChangeSpec := { name := "fnExactSameDef", fn := fun _ => fun
  | [d1, d2] => { results := [.lit (.bool false)], args := [d1, d2] }
  | _ => none }
def FnExactSameDefWrongFalsely : Prop := fnExactSameDefRow.holds Try.pinned (OpenSpec.ofChange fnExactSameDefWrong)

/-- 'laws.FnExactKindsOf': WHATEVER THE INPUT: true; the input reads as it did. -/
def fnExactKindsOfSpec : ChangeSpec := { name := "fnExactKindsOf", fn := fun _ => fun
  | [d] => { results := [.lit (.bool true)], args := [d] }
  | _ => none }
def fnExactKindsOfRow : OpenClaim := { program := "ytjhlmnbkfdkmpaa", sum := "f3fda8466d20cbaf7e131fa9ac8363fd236750a92ffbe09fa5b1c5763dd398ca", func := "loop.example/g00282/laws.FnExactKindsOf", spec := "fnExactKindsOf", apart := false }
def FnExactKindsOfSaid : Prop := fnExactKindsOfRow.holds Try.pinned (OpenSpec.ofChange fnExactKindsOfSpec)

/-- ITS FALSE NEIGHBOUR: 'it returns false'. Refute it at one input. -/
def fnExactKindsOfWrong : ChangeSpec := { name := "fnExactKindsOf", fn := fun _ => fun
  | [d] => { results := [.lit (.bool false)], args := [d] }
  | _ => none }
def FnExactKindsOfWrongFalsely : Prop := fnExactKindsOfRow.holds Try.pinned (OpenSpec.ofChange fnExactKindsOfWrong)

/-- 'laws.FnPicked': WHATEVER THE INPUT: true; the input reads as it did. -/
def fnPickedSpec : ChangeSpec := { name := "fnPicked", fn := fun _ => fun
  | [d] => { results := [.lit (.bool true)], args := [d] }
  | _ => none }
def fnPickedRow : OpenClaim := { program := "ytjhlmnbkfdkmpaa", sum := "f3fda8466d20cbaf7e131fa9ac8363fd236750a92ffbe09fa5b1c5763dd398ca", func := "loop.example/g00282/laws.FnPicked", spec := "fnPicked", unfollowed := true, recurses := true, apart := false }
def FnPickedSaid : Prop := fnPickedRow.holds Try.pinned (OpenSpec.ofChange fnPickedSpec)

/-- ITS FALSE NEIGHBOUR: 'it returns false'. Refute it at one input. -/
def fnPickedWrong : ChangeSpec := { name := "fnPicked", fn := fun _ => fun
  | [d] => { results := [.lit (.bool false)], args := [d] }
  | _ => none }
def FnPickedWrongFalsely : Prop := fnPickedRow.holds Try.pinned (OpenSpec.ofChange fnPickedWrong)

/-- 'laws.FnExactPosVars': WHATEVER THE INPUT: true; the input reads as it did. -/
def fnExactPosVarsSpec : ChangeSpec := { name := "fnExactPosVars", fn := fun _ => fun
  | [d] => { results := [.lit (.bool true)], args := [d] }
  | _ => none }
def fnExactPosVarsRow : OpenClaim := { program := "ytjhlmnbkfdkmpaa", sum := "f3fda8466d20cbaf7e131fa9ac8363fd236750a92ffbe09fa5b1c5763dd398ca", func := "loop.example/g00282/laws.FnExactPosVars", spec := "fnExactPosVars", apart := false }
def FnExactPosVarsSaid : Prop := fnExactPosVarsRow.holds Try.pinned (OpenSpec.ofChange fnExactPosVarsSpec)

/-- ITS FALSE NEIGHBOUR: 'it returns false'. Refute it at one input. -/
def fnExactPosVarsWrong : ChangeSpec := { name := "fnExactPosVars", fn := fun _ => fun
  | [d] => { results := [.lit (.bool false)], args := [d] }
  | _ => none }
def FnExactPosVarsWrongFalsely : Prop := fnExactPosVarsRow.holds Try.pinned (OpenSpec.ofChange fnExactPosVarsWrong)

/-- 'laws.FnExactUrgent': WHATEVER THE INPUT: true; the input reads as it did. -/
def fnExactUrgentSpec : ChangeSpec := { name := "fnExactUrgent", fn := fun _ => fun
  | [d1, d2, d3] => { results := [.lit (.bool true)], args := [d1, d2, d3] }
  | _ => none }
def fnExactUrgentRow : OpenClaim := { program := "ytjhlmnbkfdkmpaa", sum := "f3fda8466d20cbaf7e131fa9ac8363fd236750a92ffbe09fa5b1c5763dd398ca", func := "loop.example/g00282/laws.FnExactUrgent", spec := "fnExactUrgent", apart := false }
def FnExactUrgentSaid : Prop := fnExactUrgentRow.holds Try.pinned (OpenSpec.ofChange fnExactUrgentSpec)

/-- ITS FALSE NEIGHBOUR: 'it returns false'. Refute it at one input. -/
def fnExactUrgentWrong : ChangeSpec := { name := "fnExactUrgent", fn := fun _ => fun
  | [d1, d2, d3] => { results := [.lit (.bool false)], args := [d1, d2, d3] }
  | _ => none }
def FnExactUrgentWrongFalsely : Prop := fnExactUrgentRow.holds Try.pinned (OpenSpec.ofChange fnExactUrgentWrong)

/-- 'laws.FnExactBlocked': WHATEVER THE INPUT: true; the input reads as it did. -/
def fnExactBlockedSpec : ChangeSpec := { name := "fnExactBlocked", fn := fun _ => fun
  | [d1, d2, d3] => { results := [.lit (.bool true)], args := [d1, d2, d3] }
  | _ => none }
def fnExactBlockedRow : OpenClaim := { program := "ytjhlmnbkfdkmpaa", sum := "f3fda8466d20cbaf7e131fa9ac8363fd236750a92ffbe09fa5b1c5763dd398ca", func := "loop.example/g00282/laws.FnExactBlocked", spec := "fnExactBlocked", apart := false }
def FnExactBlockedSaid : Prop := fnExactBlockedRow.holds Try.pinned (OpenSpec.ofChange fnExactBlockedSpec)

/-- ITS FALSE NEIGHBOUR: 'it returns false'. Refute it at one input. -/
def fnExactBlockedWrong : ChangeSpec := { name := "fnExactBlocked", fn := fun _ => fun
  | [d1, d2, d3] => { results := [.lit (.bool false)], args := [d1, d2, d3] }
  | _ => none }
def FnExactBlockedWrongFalsely : Prop := fnExactBlockedRow.holds Try.pinned (OpenSpec.ofChange fnExactBlockedWrong)

/-- 'laws.FnNets': WHATEVER THE INPUT: true; the input reads as it did. -/
def fnNetsSpec : ChangeSpec := { name := "fnNets", fn := fun _ => fun
  | [d] => { results := [.lit (.bool true)], args := [d] }
  | _ => none }
def fnNetsRow : OpenClaim := { program := "ytjhlmnbkfdkmpaa", sum := "f3fda8466d20cbaf7e131fa9ac8363fd236750a92ffbe09fa5b1c5763dd398ca", func := "loop.example/g00282/laws.FnNets", spec := "fnNets", unfollowed := true, recurses := true, apart := false }
def FnNetsSaid : Prop := fnNetsRow.holds Try.pinned (OpenSpec.ofChange fnNetsSpec)

/-- ITS FALSE NEIGHBOUR: 'it returns false'. Refute it at one input. -/
def fnNetsWrong : ChangeSpec := { name := "fnNets", fn := fun _ => fun
  | [d] => { results := [.lit (.bool false)], args := [d] }
  | _ => none }
def FnNetsWrongFalsely : Prop := fnNetsRow.holds Try.pinned (OpenSpec.ofChange fnNetsWrong)

/-- 'laws.FnExactRuleOk': WHATEVER THE INPUT: true; the input reads as it did. -/
def fnExactRuleOkSpec : ChangeSpec := { name := "fnExactRuleOk", fn := fun _ => fun
  | [d] => { results := [.lit (.bool true)], args := [d] }
  | _ => none }
def fnExactRuleOkRow : OpenClaim := { program := "ytjhlmnbkfdkmpaa", sum := "f3fda8466d20cbaf7e131fa9ac8363fd236750a92ffbe09fa5b1c5763dd398ca", func := "loop.example/g00282/laws.FnExactRuleOk", spec := "fnExactRuleOk", apart := false }
def FnExactRuleOkSaid : Prop := fnExactRuleOkRow.holds Try.pinned (OpenSpec.ofChange fnExactRuleOkSpec)

/-- ITS FALSE NEIGHBOUR: 'it returns false'. Refute it at one input. -/
def fnExactRuleOkWrong : ChangeSpec := { name := "fnExactRuleOk", fn := fun _ => fun
  | [d] => { results := [.lit (.bool false)], args := [d] }
  | _ => none }
def FnExactRuleOkWrongFalsely : Prop := fnExactRuleOkRow.holds Try.pinned (OpenSpec.ofChange fnExactRuleOkWrong)

/- THE SECOND FORM. 'bulk': how many values and letters a reading holds, each counted each time it is reached (what is shared counts as often as it is met; a slice's spare places count too). A statement '..UptoSaid' is the law's where the arguments, and the package variables that the reading takes, are together of bulk at most 1048576: NARROWER than '..Said'. Prove '..Said' where nothing that the law and all that it calls make is longer than what came in: it says more and counts as full. Else prove '..UptoSaid'. A law counts once. -/
mutual
def uptoBulk {H : Type} : DataW H → Nat
  | .lit (.string bytes) => bytes.length + 1
  | .lit _ => 1
  | .nil => 1
  | .ptr d => uptoBulk d + 1
  | .slice elems spare => uptoBulkAll elems + uptoBulkAll spare + 1
  | .agg parts => uptoBulkAll parts + 1
  | .iface _ d => uptoBulk d + 1
  | .map entries => uptoBulkEntries entries + 1
  | .held _ => 1
def uptoBulkAll {H : Type} : List (DataW H) → Nat
  | [] => 0
  | d :: r => uptoBulk d + uptoBulkAll r
def uptoBulkEntries {H : Type} : List (Lit × DataW H) → Nat
  | [] => 0
  | x :: r => uptoBulkEntry x + uptoBulkEntries r
def uptoBulkEntry {H : Type} : Lit × DataW H → Nat
  | (.string bytes, d) => bytes.length + uptoBulk d + 1
  | (_, d) => uptoBulk d + 1
 end
def uptoSmall : (H : Type) → List (DataW H) → Bool := fun _ ds => decide (uptoBulkAll ds ≤ 1048576)
def OpenSpec.upto (s : _root_.Go.ChangeSpec) : _root_.Go.OpenSpec := { _root_.Go.OpenSpec.ofChange s with cond := some uptoSmall }

/-- 'laws.FnExactRuleAt', WHERE WHAT IT READS IS OF BULK AT MOST 1048576: true; the input reads as it did. -/
def fnExactRuleAtUptoRow : OpenClaim := { program := "ytjhlmnbkfdkmpaa", sum := "f3fda8466d20cbaf7e131fa9ac8363fd236750a92ffbe09fa5b1c5763dd398ca", func := "loop.example/g00282/laws.FnExactRuleAt", spec := "fnExactRuleAt", unfollowed := true, recurses := true, apart := false, narrowed := true }
def FnExactRuleAtUptoSaid : Prop := fnExactRuleAtUptoRow.holds Try.pinned (OpenSpec.upto fnExactRuleAtSpec)

/-- 'laws.FnExactMemNew', WHERE WHAT IT READS IS OF BULK AT MOST 1048576: true; the input reads as it did. -/
def fnExactMemNewUptoRow : OpenClaim := { program := "ytjhlmnbkfdkmpaa", sum := "f3fda8466d20cbaf7e131fa9ac8363fd236750a92ffbe09fa5b1c5763dd398ca", func := "loop.example/g00282/laws.FnExactMemNew", spec := "fnExactMemNew", apart := false, narrowed := true }
def FnExactMemNewUptoSaid : Prop := fnExactMemNewUptoRow.holds Try.pinned (OpenSpec.upto fnExactMemNewSpec)

/-- 'laws.FnExactSameDef', WHERE WHAT IT READS IS OF BULK AT MOST 1048576: true; the input reads as it did. -/
def fnExactSameDefUptoRow : OpenClaim := { program := "ytjhlmnbkfdkmpaa", sum := "f3fda8466d20cbaf7e131fa9ac8363fd236750a92ffbe09fa5b1c5763dd398ca", func := "loop.example/g00282/laws.FnExactSameDef", spec := "fnExactSameDef", unfollowed := true, recurses := true, apart := false, narrowed := true }
def FnExactSameDefUptoSaid : Prop := fnExactSameDefUptoRow.holds Try.pinned (OpenSpec.upto fnExactSameDefSpec)

/-- 'laws.FnExactKindsOf', WHERE WHAT IT READS IS OF BULK AT MOST 1048576: true; the input reads as it did. -/
def fnExactKindsOfUptoRow : OpenClaim := { program := "ytjhlmnbkfdkmpaa", sum := "f3fda8466d20cbaf7e131fa9ac8363fd236750a92ffbe09fa5b1c5763dd398ca", func := "loop.example/g00282/laws.FnExactKindsOf", spec := "fnExactKindsOf", apart := false, narrowed := true }
def FnExactKindsOfUptoSaid : Prop := fnExactKindsOfUptoRow.holds Try.pinned (OpenSpec.upto fnExactKindsOfSpec)

/-- 'laws.FnPicked', WHERE WHAT IT READS IS OF BULK AT MOST 1048576: true; the input reads as it did. -/
def fnPickedUptoRow : OpenClaim := { program := "ytjhlmnbkfdkmpaa", sum := "f3fda8466d20cbaf7e131fa9ac8363fd236750a92ffbe09fa5b1c5763dd398ca", func := "loop.example/g00282/laws.FnPicked", spec := "fnPicked", unfollowed := true, recurses := true, apart := false, narrowed := true }
def FnPickedUptoSaid : Prop := fnPickedUptoRow.holds Try.pinned (OpenSpec.upto fnPickedSpec)

/-- 'laws.FnExactPosVars', WHERE WHAT IT READS IS OF BULK AT MOST 1048576: true; the input reads as it did. -/
def fnExactPosVarsUptoRow : OpenClaim := { program := "ytjhlmnbkfdkmpaa", sum := "f3fda8466d20cbaf7e131fa9ac8363fd236750a92ffbe09fa5b1c5763dd398ca", func := "loop.example/g00282/laws.FnExactPosVars", spec := "fnExactPosVars", apart := false, narrowed := true }
def FnExactPosVarsUptoSaid : Prop := fnExactPosVarsUptoRow.holds Try.pinned (OpenSpec.upto fnExactPosVarsSpec)

/-- 'laws.FnExactUrgent', WHERE WHAT IT READS IS OF BULK AT MOST 1048576: true; the input reads as it did. -/
def fnExactUrgentUptoRow : OpenClaim := { program := "ytjhlmnbkfdkmpaa", sum := "f3fda8466d20cbaf7e131fa9ac8363fd236750a92ffbe09fa5b1c5763dd398ca", func := "loop.example/g00282/laws.FnExactUrgent", spec := "fnExactUrgent", apart := false, narrowed := true }
def FnExactUrgentUptoSaid : Prop := fnExactUrgentUptoRow.holds Try.pinned (OpenSpec.upto fnExactUrgentSpec)

/-- 'laws.FnExactBlocked', WHERE WHAT IT READS IS OF BULK AT MOST 1048576: true; the input reads as it did. -/
def fnExactBlockedUptoRow : OpenClaim := { program := "ytjhlmnbkfdkmpaa", sum := "f3fda8466d20cbaf7e131fa9ac8363fd236750a92ffbe09fa5b1c5763dd398ca", func := "loop.example/g00282/laws.FnExactBlocked", spec := "fnExactBlocked", apart := false, narrowed := true }
def FnExactBlockedUptoSaid : Prop := fnExactBlockedUptoRow.holds Try.pinned (OpenSpec.upto fnExactBlockedSpec)

/-- 'laws.FnNets', WHERE WHAT IT READS IS OF BULK AT MOST 1048576: true; the input reads as it did. -/
def fnNetsUptoRow : OpenClaim := { program := "ytjhlmnbkfdkmpaa", sum := "f3fda8466d20cbaf7e131fa9ac8363fd236750a92ffbe09fa5b1c5763dd398ca", func := "loop.example/g00282/laws.FnNets", spec := "fnNets", unfollowed := true, recurses := true, apart := false, narrowed := true }
def FnNetsUptoSaid : Prop := fnNetsUptoRow.holds Try.pinned (OpenSpec.upto fnNetsSpec)

/-- 'laws.FnExactRuleOk', WHERE WHAT IT READS IS OF BULK AT MOST 1048576: true; the input reads as it did. -/
def fnExactRuleOkUptoRow : OpenClaim := { program := "ytjhlmnbkfdkmpaa", sum := "f3fda8466d20cbaf7e131fa9ac8363fd236750a92ffbe09fa5b1c5763dd398ca", func := "loop.example/g00282/laws.FnExactRuleOk", spec := "fnExactRuleOk", apart := false, narrowed := true }
def FnExactRuleOkUptoSaid : Prop := fnExactRuleOkUptoRow.holds Try.pinned (OpenSpec.upto fnExactRuleOkSpec)

end Rows
end Go.Proofs.Ytjhlmnbkfdkmpaa
