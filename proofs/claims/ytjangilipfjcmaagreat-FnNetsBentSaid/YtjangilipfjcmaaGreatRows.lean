/-
  No cell of these rows narrows 'for every input' (looked for: loops, veiled, ifaces, maps, wideKeys, modest, calm, conditions, laid).
  DERIVED. THE GIVEN ROWS OF THIS SEAT. 7 by the template 'for every input the law returns true; each argument reads behind the call as it read before'; 0 by the template 'total and deterministic' (their statements: YtjangilipfjcmaaGreatTotals.lean).
  GIVEN WITH THE SEED: the statements are not yours to turn. If you find one false, say at which input.
  Laid BY PROGRAM, IN A SANDBOX (cutbox-rows.mjs): the forced cells as the released guide's own fill.sh prints them over the translation 69a4140456274cfa… (all of the seat's roots in one cut). By AI agents, Wed Nov 11 2026. No macro, syntax, notation, axiom, sorry.
-/
import Derived.Test.YtjangilipfjcmaaGreatChecked
import GoSem.Claim
import GoSem.ClaimJoined
import GoSem.ClaimMapViews
import Derived.JoinedTies
import Derived.KernelRfl
namespace Go.Proofs.YtjangilipfjcmaaGreat
/- THE CELL 'sum', in the pinned program and in every row, IS THE sha256 OF THE DUMP (.gsa) THAT YtjangilipfjcmaaGreatProg.lean LOADS. Nothing in Lean hashes anything: it is a label: what it is worth is what the hold of that sum in a sandbox is worth. -/
noncomputable def Tryz.pinned : Pinned := { name := "ytjangilipfjcmaagreat", sum := "69a4140456274cfa02c5d11f27a6e26ef4cca2e4cb0d561d3aad6c184d7ed03d", checked := Tryz.checked }
namespace Rows
def none {H : Type} : Left H := { results := [], args := [] }

/-- 'laws.FnNetsBent': WHATEVER THE INPUT: true; the input reads as it did. -/
def fnNetsBentSpec : ChangeSpec := { name := "fnNetsBent", fn := fun _ => fun
  | [d] => { results := [.lit (.bool true)], args := [d] }
  | _ => none }
def fnNetsBentRow : OpenClaim := { program := "ytjangilipfjcmaagreat", sum := "69a4140456274cfa02c5d11f27a6e26ef4cca2e4cb0d561d3aad6c184d7ed03d", func := "loop.example/g00282/laws.FnNetsBent", spec := "fnNetsBent", unfollowed := true, recurses := true, apart := false }
def FnNetsBentSaid : Prop := fnNetsBentRow.holds Tryz.pinned (OpenSpec.ofChange fnNetsBentSpec)

/-- ITS FALSE NEIGHBOUR: 'it returns false'. Refute it at one input. -/
def fnNetsBentWrong : ChangeSpec := { name := "fnNetsBent", fn := fun _ => fun
  | [d] => { results := [.lit (.bool false)], args := [d] }
  | _ => none }
def FnNetsBentWrongFalsely : Prop := fnNetsBentRow.holds Tryz.pinned (OpenSpec.ofChange fnNetsBentWrong)

/-- 'laws.FnNone': WHATEVER THE INPUT: true; the input reads as it did. -/
def fnNoneSpec : ChangeSpec := { name := "fnNone", fn := fun _ => fun
  | [d] => { results := [.lit (.bool true)], args := [d] }
  | _ => none }
def fnNoneRow : OpenClaim := { program := "ytjangilipfjcmaagreat", sum := "69a4140456274cfa02c5d11f27a6e26ef4cca2e4cb0d561d3aad6c184d7ed03d", func := "loop.example/g00282/laws.FnNone", spec := "fnNone", recurses := true, apart := false }
def FnNoneSaid : Prop := fnNoneRow.holds Tryz.pinned (OpenSpec.ofChange fnNoneSpec)

/-- ITS FALSE NEIGHBOUR: 'it returns false'. Refute it at one input. -/
def fnNoneWrong : ChangeSpec := { name := "fnNone", fn := fun _ => fun
  | [d] => { results := [.lit (.bool false)], args := [d] }
  | _ => none }
def FnNoneWrongFalsely : Prop := fnNoneRow.holds Tryz.pinned (OpenSpec.ofChange fnNoneWrong)

/-- 'laws.FnMore': WHATEVER THE INPUT: true; the input reads as it did. -/
def fnMoreSpec : ChangeSpec := { name := "fnMore", fn := fun _ => fun
  | [d] => { results := [.lit (.bool true)], args := [d] }
  | _ => none }
def fnMoreRow : OpenClaim := { program := "ytjangilipfjcmaagreat", sum := "69a4140456274cfa02c5d11f27a6e26ef4cca2e4cb0d561d3aad6c184d7ed03d", func := "loop.example/g00282/laws.FnMore", spec := "fnMore", recurses := true, apart := false }
def FnMoreSaid : Prop := fnMoreRow.holds Tryz.pinned (OpenSpec.ofChange fnMoreSpec)

/-- ITS FALSE NEIGHBOUR: 'it returns false'. Refute it at one input. -/
def fnMoreWrong : ChangeSpec := { name := "fnMore", fn := fun _ => fun
  | [d] => { results := [.lit (.bool false)], args := [d] }
  | _ => none }
def FnMoreWrongFalsely : Prop := fnMoreRow.holds Tryz.pinned (OpenSpec.ofChange fnMoreWrong)

/-- 'laws.FnMatches': WHATEVER THE INPUT: true; the input reads as it did. -/
def fnMatchesSpec : ChangeSpec := { name := "fnMatches", fn := fun _ => fun
  | [d] => { results := [.lit (.bool true)], args := [d] }
  | _ => none }
def fnMatchesRow : OpenClaim := { program := "ytjangilipfjcmaagreat", sum := "69a4140456274cfa02c5d11f27a6e26ef4cca2e4cb0d561d3aad6c184d7ed03d", func := "loop.example/g00282/laws.FnMatches", spec := "fnMatches", recurses := true, apart := false }
def FnMatchesSaid : Prop := fnMatchesRow.holds Tryz.pinned (OpenSpec.ofChange fnMatchesSpec)

/-- ITS FALSE NEIGHBOUR: 'it returns false'. Refute it at one input. -/
def fnMatchesWrong : ChangeSpec := { name := "fnMatches", fn := fun _ => fun
  | [d] => { results := [.lit (.bool false)], args := [d] }
  | _ => none }
def FnMatchesWrongFalsely : Prop := fnMatchesRow.holds Tryz.pinned (OpenSpec.ofChange fnMatchesWrong)

/-- 'laws.FnAllMatches': WHATEVER THE INPUT: true; the input reads as it did. -/
def fnAllMatchesSpec : ChangeSpec := { name := "fnAllMatches", fn := fun _ => fun
  | [d] => { results := [.lit (.bool true)], args := [d] }
  | _ => none }
def fnAllMatchesRow : OpenClaim := { program := "ytjangilipfjcmaagreat", sum := "69a4140456274cfa02c5d11f27a6e26ef4cca2e4cb0d561d3aad6c184d7ed03d", func := "loop.example/g00282/laws.FnAllMatches", spec := "fnAllMatches", unfollowed := true, recurses := true, apart := false }
def FnAllMatchesSaid : Prop := fnAllMatchesRow.holds Tryz.pinned (OpenSpec.ofChange fnAllMatchesSpec)

/-- ITS FALSE NEIGHBOUR: 'it returns false'. Refute it at one input. -/
def fnAllMatchesWrong : ChangeSpec := { name := "fnAllMatches", fn := fun _ => fun
  | [d] => { results := [.lit (.bool false)], args := [d] }
  | _ => none }
def FnAllMatchesWrongFalsely : Prop := fnAllMatchesRow.holds Tryz.pinned (OpenSpec.ofChange fnAllMatchesWrong)

/-- 'laws.FnExactNetOk': WHATEVER THE INPUT: true; the input reads as it did. -/
def fnExactNetOkSpec : ChangeSpec := { name := "fnExactNetOk", fn := fun _ => fun
  | [d1, d2] => { results := [.lit (.bool true)], args := [d1, d2] }
  | _ => none }
def fnExactNetOkRow : OpenClaim := { program := "ytjangilipfjcmaagreat", sum := "69a4140456274cfa02c5d11f27a6e26ef4cca2e4cb0d561d3aad6c184d7ed03d", func := "loop.example/g00282/laws.FnExactNetOk", spec := "fnExactNetOk", unfollowed := true, recurses := true, apart := false }
def FnExactNetOkSaid : Prop := fnExactNetOkRow.holds Tryz.pinned (OpenSpec.ofChange fnExactNetOkSpec)

/-- ITS FALSE NEIGHBOUR: 'it returns false'. Refute it at one input. -/
def fnExactNetOkWrong : ChangeSpec := { name := "fnExactNetOk", fn := fun _ => fun
  | [d1, d2] => { results := [.lit (.bool false)], args := [d1, d2] }
  | _ => none }
def FnExactNetOkWrongFalsely : Prop := fnExactNetOkRow.holds Tryz.pinned (OpenSpec.ofChange fnExactNetOkWrong)

/-- 'laws.FnExactNetOf': WHATEVER THE INPUT: true; the input reads as it did. -/
def fnExactNetOfSpec : ChangeSpec := { name := "fnExactNetOf", fn := fun _ => fun
  | [d] => { results := [.lit (.bool true)], args := [d] }
  | _ => none }
def fnExactNetOfRow : OpenClaim := { program := "ytjangilipfjcmaagreat", sum := "69a4140456274cfa02c5d11f27a6e26ef4cca2e4cb0d561d3aad6c184d7ed03d", func := "loop.example/g00282/laws.FnExactNetOf", spec := "fnExactNetOf", unfollowed := true, recurses := true, apart := false }
def FnExactNetOfSaid : Prop := fnExactNetOfRow.holds Tryz.pinned (OpenSpec.ofChange fnExactNetOfSpec)

/-- ITS FALSE NEIGHBOUR: 'it returns false'. Refute it at one input. -/
def fnExactNetOfWrong : ChangeSpec := { name := "fnExactNetOf", fn := fun _ => fun
  | [d] => { results := [.lit (.bool false)], args := [d] }
  | _ => none }
def FnExactNetOfWrongFalsely : Prop := fnExactNetOfRow.holds Tryz.pinned (OpenSpec.ofChange fnExactNetOfWrong)

/- THE SECOND FORM. 'bulk': how many values and letters a reading holds, each counted each time it is reached (what is shared counts as often as it is met; a slice's spare places count too). A statement '..UptoSaid' is the law's where the arguments, and the package variables that the reading takes, are together of bulk at most 1048576: NARROWER than '..Said'. Prove '..Said' where nothing that the law and all that it calls make is longer than what came in: it says more and counts as full. Else prove '..UptoSaid'. A law counts once. -/
mutual
def uptoBulk {H : Type} : DataW H → Nat
  | .lit (.string bytes) => bytes.length + 1
  | .lit _ => 1
  | .nil => 1
  | .ptr d => uptoBulk d + 1
  | .slice elems spare => uptoBulkAll elems + uptoBulkAll spare + 1
  | .agg parts => uptoBulkAll parts + 1
  | .iface _ d => uptoBulk d + 1
  | .map entries => uptoBulkEntries entries + 1
  | .held _ => 1
def uptoBulkAll {H : Type} : List (DataW H) → Nat
  | [] => 0
  | d :: r => uptoBulk d + uptoBulkAll r
def uptoBulkEntries {H : Type} : List (Lit × DataW H) → Nat
  | [] => 0
  | x :: r => uptoBulkEntry x + uptoBulkEntries r
def uptoBulkEntry {H : Type} : Lit × DataW H → Nat
  | (.string bytes, d) => bytes.length + uptoBulk d + 1
  | (_, d) => uptoBulk d + 1
 end
def uptoSmall : (H : Type) → List (DataW H) → Bool := fun _ ds => decide (uptoBulkAll ds ≤ 1048576)
def OpenSpec.upto (s : _root_.Go.ChangeSpec) : _root_.Go.OpenSpec := { _root_.Go.OpenSpec.ofChange s with cond := some uptoSmall }

/-- 'laws.FnNetsBent', WHERE WHAT IT READS IS OF BULK AT MOST 1048576: true; the input reads as it did. -/
def fnNetsBentUptoRow : OpenClaim := { program := "ytjangilipfjcmaagreat", sum := "69a4140456274cfa02c5d11f27a6e26ef4cca2e4cb0d561d3aad6c184d7ed03d", func := "loop.example/g00282/laws.FnNetsBent", spec := "fnNetsBent", unfollowed := true, recurses := true, apart := false, narrowed := true }
def FnNetsBentUptoSaid : Prop := fnNetsBentUptoRow.holds Tryz.pinned (OpenSpec.upto fnNetsBentSpec)

/-- 'laws.FnNone', WHERE WHAT IT READS IS OF BULK AT MOST 1048576: true; the input reads as it did. -/
def fnNoneUptoRow : OpenClaim := { program := "ytjangilipfjcmaagreat", sum := "69a4140456274cfa02c5d11f27a6e26ef4cca2e4cb0d561d3aad6c184d7ed03d", func := "loop.example/g00282/laws.FnNone", spec := "fnNone", recurses := true, apart := false, narrowed := true }
def FnNoneUptoSaid : Prop := fnNoneUptoRow.holds Tryz.pinned (OpenSpec.upto fnNoneSpec)

/-- 'laws.FnMore', WHERE WHAT IT READS IS OF BULK AT MOST 1048576: true; the input reads as it did. -/
def fnMoreUptoRow : OpenClaim := { program := "ytjangilipfjcmaagreat", sum := "69a4140456274cfa02c5d11f27a6e26ef4cca2e4cb0d561d3aad6c184d7ed03d", func := "loop.example/g00282/laws.FnMore", spec := "fnMore", recurses := true, apart := false, narrowed := true }
def FnMoreUptoSaid : Prop := fnMoreUptoRow.holds Tryz.pinned (OpenSpec.upto fnMoreSpec)

/-- 'laws.FnMatches', WHERE WHAT IT READS IS OF BULK AT MOST 1048576: true; the input reads as it did. -/
def fnMatchesUptoRow : OpenClaim := { program := "ytjangilipfjcmaagreat", sum := "69a4140456274cfa02c5d11f27a6e26ef4cca2e4cb0d561d3aad6c184d7ed03d", func := "loop.example/g00282/laws.FnMatches", spec := "fnMatches", recurses := true, apart := false, narrowed := true }
def FnMatchesUptoSaid : Prop := fnMatchesUptoRow.holds Tryz.pinned (OpenSpec.upto fnMatchesSpec)

/-- 'laws.FnAllMatches', WHERE WHAT IT READS IS OF BULK AT MOST 1048576: true; the input reads as it did. -/
def fnAllMatchesUptoRow : OpenClaim := { program := "ytjangilipfjcmaagreat", sum := "69a4140456274cfa02c5d11f27a6e26ef4cca2e4cb0d561d3aad6c184d7ed03d", func := "loop.example/g00282/laws.FnAllMatches", spec := "fnAllMatches", unfollowed := true, recurses := true, apart := false, narrowed := true }
def FnAllMatchesUptoSaid : Prop := fnAllMatchesUptoRow.holds Tryz.pinned (OpenSpec.upto fnAllMatchesSpec)

/-- 'laws.FnExactNetOk', WHERE WHAT IT READS IS OF BULK AT MOST 1048576: true; the input reads as it did. -/
def fnExactNetOkUptoRow : OpenClaim := { program := "ytjangilipfjcmaagreat", sum := "69a4140456274cfa02c5d11f27a6e26ef4cca2e4cb0d561d3aad6c184d7ed03d", func := "loop.example/g00282/laws.FnExactNetOk", spec := "fnExactNetOk", unfollowed := true, recurses := true, apart := false, narrowed := true }
def FnExactNetOkUptoSaid : Prop := fnExactNetOkUptoRow.holds Tryz.pinned (OpenSpec.upto fnExactNetOkSpec)

/-- 'laws.FnExactNetOf', WHERE WHAT IT READS IS OF BULK AT MOST 1048576: true; the input reads as it did. -/
def fnExactNetOfUptoRow : OpenClaim := { program := "ytjangilipfjcmaagreat", sum := "69a4140456274cfa02c5d11f27a6e26ef4cca2e4cb0d561d3aad6c184d7ed03d", func := "loop.example/g00282/laws.FnExactNetOf", spec := "fnExactNetOf", unfollowed := true, recurses := true, apart := false, narrowed := true }
def FnExactNetOfUptoSaid : Prop := fnExactNetOfUptoRow.holds Tryz.pinned (OpenSpec.upto fnExactNetOfSpec)

end Rows
end Go.Proofs.YtjangilipfjcmaaGreat
