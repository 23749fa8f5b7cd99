/-
  No cell of these rows narrows 'for every input' (looked for: loops, veiled, ifaces, maps, wideKeys, modest, calm, conditions, laid).
  DERIVED. THE GIVEN ROWS OF THIS SEAT. 5 by the template 'for every input the law returns true; each argument reads behind the call as it read before'; 0 by the template 'total and deterministic' (their statements: YtedmfnmbjglmbaaGreatTotals.lean).
  GIVEN WITH THE SEED: the statements are not yours to turn. If you find one false, say at which input.
  Laid BY PROGRAM, IN A SANDBOX (cutbox-rows.mjs): the forced cells as the released guide's own fill.sh prints them over the translation b96f937df98a4ddf… (all of the seat's roots in one cut). By AI agents, Wed Nov 11 2026. No macro, syntax, notation, axiom, sorry.
-/
import Derived.Test.YtedmfnmbjglmbaaGreatChecked
import GoSem.Claim
import GoSem.ClaimJoined
import GoSem.ClaimMapViews
import Derived.JoinedTies
import Derived.KernelRfl
namespace Go.Proofs.YtedmfnmbjglmbaaGreat
/- THE CELL 'sum', in the pinned program and in every row, IS THE sha256 OF THE DUMP (.gsa) THAT YtedmfnmbjglmbaaGreatProg.lean LOADS. Nothing in Lean hashes anything: it is a label: what it is worth is what the hold of that sum in a sandbox is worth. -/
noncomputable def Tryz.pinned : Pinned := { name := "ytedmfnmbjglmbaagreat", sum := "b96f937df98a4ddf6723c0eaa712f5bac7734cae916854d018b5901e3097fc80", checked := Tryz.checked }
namespace Rows
def none {H : Type} : Left H := { results := [], args := [] }

/-- 'laws.FnBuiltUp': WHATEVER THE INPUT: true; the input reads as it did. -/
def fnBuiltUpSpec : ChangeSpec := { name := "fnBuiltUp", fn := fun _ => fun
  | [d] => { results := [.lit (.bool true)], args := [d] }
  | _ => none }
def fnBuiltUpRow : OpenClaim := { program := "ytedmfnmbjglmbaagreat", sum := "b96f937df98a4ddf6723c0eaa712f5bac7734cae916854d018b5901e3097fc80", func := "loop.example/g00282/laws.FnBuiltUp", spec := "fnBuiltUp", unfollowed := true, recurses := true, apart := false }
def FnBuiltUpSaid : Prop := fnBuiltUpRow.holds Tryz.pinned (OpenSpec.ofChange fnBuiltUpSpec)

/-- ITS FALSE NEIGHBOUR: 'it returns false'. Refute it at one input. -/
def fnBuiltUpWrong : ChangeSpec := { name := "fnBuiltUp", fn := fun _ => fun
  | [d] => { results := [.lit (.bool false)], args := [d] }
  | _ => none }
def FnBuiltUpWrongFalsely : Prop := fnBuiltUpRow.holds Tryz.pinned (OpenSpec.ofChange fnBuiltUpWrong)

/-- 'laws.FnCame': WHATEVER THE INPUT: true; the input reads as it did. -/
def fnCameSpec : ChangeSpec := { name := "fnCame", fn := fun _ => fun
  | [d] => { results := [.lit (.bool true)], args := [d] }
  | _ => none }
def fnCameRow : OpenClaim := { program := "ytedmfnmbjglmbaagreat", sum := "b96f937df98a4ddf6723c0eaa712f5bac7734cae916854d018b5901e3097fc80", func := "loop.example/g00282/laws.FnCame", spec := "fnCame", unfollowed := true, recurses := true, apart := false }
def FnCameSaid : Prop := fnCameRow.holds Tryz.pinned (OpenSpec.ofChange fnCameSpec)

/-- ITS FALSE NEIGHBOUR: 'it returns false'. Refute it at one input. -/
def fnCameWrong : ChangeSpec := { name := "fnCame", fn := fun _ => fun
  | [d] => { results := [.lit (.bool false)], args := [d] }
  | _ => none }
def FnCameWrongFalsely : Prop := fnCameRow.holds Tryz.pinned (OpenSpec.ofChange fnCameWrong)

/-- 'laws.FnWent': WHATEVER THE INPUT: true; the input reads as it did. -/
def fnWentSpec : ChangeSpec := { name := "fnWent", fn := fun _ => fun
  | [d] => { results := [.lit (.bool true)], args := [d] }
  | _ => none }
def fnWentRow : OpenClaim := { program := "ytedmfnmbjglmbaagreat", sum := "b96f937df98a4ddf6723c0eaa712f5bac7734cae916854d018b5901e3097fc80", func := "loop.example/g00282/laws.FnWent", spec := "fnWent", unfollowed := true, recurses := true, apart := false }
def FnWentSaid : Prop := fnWentRow.holds Tryz.pinned (OpenSpec.ofChange fnWentSpec)

/-- ITS FALSE NEIGHBOUR: 'it returns false'. Refute it at one input. -/
def fnWentWrong : ChangeSpec := { name := "fnWent", fn := fun _ => fun
  | [d] => { results := [.lit (.bool false)], args := [d] }
  | _ => none }
def FnWentWrongFalsely : Prop := fnWentRow.holds Tryz.pinned (OpenSpec.ofChange fnWentWrong)

/-- 'laws.FnSets': WHATEVER THE INPUT: true; the input reads as it did. -/
def fnSetsSpec : ChangeSpec := { name := "fnSets", fn := fun _ => fun
  | [d] => { results := [.lit (.bool true)], args := [d] }
  | _ => none }
def fnSetsRow : OpenClaim := { program := "ytedmfnmbjglmbaagreat", sum := "b96f937df98a4ddf6723c0eaa712f5bac7734cae916854d018b5901e3097fc80", func := "loop.example/g00282/laws.FnSets", spec := "fnSets", unfollowed := true, recurses := true, apart := false }
def FnSetsSaid : Prop := fnSetsRow.holds Tryz.pinned (OpenSpec.ofChange fnSetsSpec)

/-- ITS FALSE NEIGHBOUR: 'it returns false'. Refute it at one input. -/
def fnSetsWrong : ChangeSpec := { name := "fnSets", fn := fun _ => fun
  | [d] => { results := [.lit (.bool false)], args := [d] }
  | _ => none }
def FnSetsWrongFalsely : Prop := fnSetsRow.holds Tryz.pinned (OpenSpec.ofChange fnSetsWrong)

/-- 'laws.FnNetwork': WHATEVER THE INPUT: true; the input reads as it did. -/
def fnNetworkSpec : ChangeSpec := { name := "fnNetwork", fn := fun _ => fun
  | [d] => { results := [.lit (.bool true)], args := [d] }
  | _ => none }
def fnNetworkRow : OpenClaim := { program := "ytedmfnmbjglmbaagreat", sum := "b96f937df98a4ddf6723c0eaa712f5bac7734cae916854d018b5901e3097fc80", func := "loop.example/g00282/laws.FnNetwork", spec := "fnNetwork", unfollowed := true, recurses := true, apart := false }
def FnNetworkSaid : Prop := fnNetworkRow.holds Tryz.pinned (OpenSpec.ofChange fnNetworkSpec)

/-- ITS FALSE NEIGHBOUR: 'it returns false'. Refute it at one input. -/
def fnNetworkWrong : ChangeSpec := { name := "fnNetwork", fn := fun _ => fun
  | [d] => { results := [.lit (.bool false)], args := [d] }
  | _ => none }
def FnNetworkWrongFalsely : Prop := fnNetworkRow.holds Tryz.pinned (OpenSpec.ofChange fnNetworkWrong)

/- THE SECOND FORM. 'bulk': how many values and letters a reading holds, each counted each time it is reached (what is shared counts as often as it is met; a slice's spare places count too). A statement '..UptoSaid' is the law's where the arguments, and the package variables that the reading takes, are together of bulk at most 1048576: NARROWER than '..Said'. Prove '..Said' where nothing that the law and all that it calls make is longer than what came in: it says more and counts as full. Else prove '..UptoSaid'. A law counts once. -/
mutual
def uptoBulk {H : Type} : DataW H → Nat
  | .lit (.string bytes) => bytes.length + 1
  | .lit _ => 1
  | .nil => 1
  | .ptr d => uptoBulk d + 1
  | .slice elems spare => uptoBulkAll elems + uptoBulkAll spare + 1
  | .agg parts => uptoBulkAll parts + 1
  | .iface _ d => uptoBulk d + 1
  | .map entries => uptoBulkEntries entries + 1
  | .held _ => 1
def uptoBulkAll {H : Type} : List (DataW H) → Nat
  | [] => 0
  | d :: r => uptoBulk d + uptoBulkAll r
def uptoBulkEntries {H : Type} : List (Lit × DataW H) → Nat
  | [] => 0
  | x :: r => uptoBulkEntry x + uptoBulkEntries r
def uptoBulkEntry {H : Type} : Lit × DataW H → Nat
  | (.string bytes, d) => bytes.length + uptoBulk d + 1
  | (_, d) => uptoBulk d + 1
 end
def uptoSmall : (H : Type) → List (DataW H) → Bool := fun _ ds => decide (uptoBulkAll ds ≤ 1048576)
def OpenSpec.upto (s : _root_.Go.ChangeSpec) : _root_.Go.OpenSpec := { _root_.Go.OpenSpec.ofChange s with cond := some uptoSmall }

/-- 'laws.FnBuiltUp', WHERE WHAT IT READS IS OF BULK AT MOST 1048576: true; the input reads as it did. -/
def fnBuiltUpUptoRow : OpenClaim := { program := "ytedmfnmbjglmbaagreat", sum := "b96f937df98a4ddf6723c0eaa712f5bac7734cae916854d018b5901e3097fc80", func := "loop.example/g00282/laws.FnBuiltUp", spec := "fnBuiltUp", unfollowed := true, recurses := true, apart := false, narrowed := true }
def FnBuiltUpUptoSaid : Prop := fnBuiltUpUptoRow.holds Tryz.pinned (OpenSpec.upto fnBuiltUpSpec)

/-- 'laws.FnCame', WHERE WHAT IT READS IS OF BULK AT MOST 1048576: true; the input reads as it did. -/
def fnCameUptoRow : OpenClaim := { program := "ytedmfnmbjglmbaagreat", sum := "b96f937df98a4ddf6723c0eaa712f5bac7734cae916854d018b5901e3097fc80", func := "loop.example/g00282/laws.FnCame", spec := "fnCame", unfollowed := true, recurses := true, apart := false, narrowed := true }
def FnCameUptoSaid : Prop := fnCameUptoRow.holds Tryz.pinned (OpenSpec.upto fnCameSpec)

/-- 'laws.FnWent', WHERE WHAT IT READS IS OF BULK AT MOST 1048576: true; the input reads as it did. -/
def fnWentUptoRow : OpenClaim := { program := "ytedmfnmbjglmbaagreat", sum := "b96f937df98a4ddf6723c0eaa712f5bac7734cae916854d018b5901e3097fc80", func := "loop.example/g00282/laws.FnWent", spec := "fnWent", unfollowed := true, recurses := true, apart := false, narrowed := true }
def FnWentUptoSaid : Prop := fnWentUptoRow.holds Tryz.pinned (OpenSpec.upto fnWentSpec)

/-- 'laws.FnSets', WHERE WHAT IT READS IS OF BULK AT MOST 1048576: true; the input reads as it did. -/
def fnSetsUptoRow : OpenClaim := { program := "ytedmfnmbjglmbaagreat", sum := "b96f937df98a4ddf6723c0eaa712f5bac7734cae916854d018b5901e3097fc80", func := "loop.example/g00282/laws.FnSets", spec := "fnSets", unfollowed := true, recurses := true, apart := false, narrowed := true }
def FnSetsUptoSaid : Prop := fnSetsUptoRow.holds Tryz.pinned (OpenSpec.upto fnSetsSpec)

/-- 'laws.FnNetwork', WHERE WHAT IT READS IS OF BULK AT MOST 1048576: true; the input reads as it did. -/
def fnNetworkUptoRow : OpenClaim := { program := "ytedmfnmbjglmbaagreat", sum := "b96f937df98a4ddf6723c0eaa712f5bac7734cae916854d018b5901e3097fc80", func := "loop.example/g00282/laws.FnNetwork", spec := "fnNetwork", unfollowed := true, recurses := true, apart := false, narrowed := true }
def FnNetworkUptoSaid : Prop := fnNetworkUptoRow.holds Tryz.pinned (OpenSpec.upto fnNetworkSpec)

end Rows
end Go.Proofs.YtedmfnmbjglmbaaGreat
