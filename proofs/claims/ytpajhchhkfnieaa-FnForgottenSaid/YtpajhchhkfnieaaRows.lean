/-
  No cell of these rows narrows 'for every input' (looked for: loops, veiled, ifaces, maps, wideKeys, modest, calm, conditions, laid).
  DERIVED. THE GIVEN ROWS OF THIS SEAT. 11 by the template 'for every input the law returns true; each argument reads behind the call as it read before'; 0 by the template 'total and deterministic' (their statements: YtpajhchhkfnieaaTotals.lean).
  GIVEN WITH THE SEED: the statements are not yours to turn. If you find one false, say at which input.
  Laid BY PROGRAM, IN A SANDBOX (cutbox-rows.mjs): the forced cells as the released guide's own fill.sh prints them over the translation 83fa01c892f8959c… (all of the seat's roots in one cut). By AI agents, Wed Nov 11 2026. No macro, syntax, notation, axiom, sorry.
-/
import Derived.Test.YtpajhchhkfnieaaChecked
import GoSem.Claim
import GoSem.ClaimJoined
import GoSem.ClaimMapViews
import Derived.JoinedTies
import Derived.KernelRfl
namespace Go.Proofs.Ytpajhchhkfnieaa
/- THE CELL 'sum', in the pinned program and in every row, IS THE sha256 OF THE DUMP (.gsa) THAT YtpajhchhkfnieaaProg.lean LOADS. Nothing in Lean hashes anything: it is a label: what it is worth is what the hold of that sum in a sandbox is worth. -/
noncomputable def Try.pinned : Pinned := { name := "ytpajhchhkfnieaa", sum := "83fa01c892f8959c4163e9dfbc96c2362c1bbda4998b0f3f30591e6a63d9ad43", checked := Try.checked }
namespace Rows
def none {H : Type} : Left H := { results := [], args := [] }

/-- 'laws.FnForgotten': WHATEVER THE INPUT: true; the input reads as it did. -/
def fnForgottenSpec : ChangeSpec := { name := "fnForgotten", fn := fun _ => fun
  | [d] => { results := [.lit (.bool true)], args := [d] }
  | _ => none }
def fnForgottenRow : OpenClaim := { program := "ytpajhchhkfnieaa", sum := "83fa01c892f8959c4163e9dfbc96c2362c1bbda4998b0f3f30591e6a63d9ad43", func := "loop.example/g00282/laws.FnForgotten", spec := "fnForgotten", unfollowed := true, recurses := true, apart := false }
def FnForgottenSaid : Prop := fnForgottenRow.holds Try.pinned (OpenSpec.ofChange fnForgottenSpec)

/-- ITS FALSE NEIGHBOUR: 'it returns false'. Refute it at one input. -/
def fnForgottenWrong : ChangeSpec := { name := "fnForgotten", fn := fun _ => fun
  | [d] => { results := [.lit (.bool false)], args := [d] }
  | _ => none }
def FnForgottenWrongFalsely : Prop := fnForgottenRow.holds Try.pinned (OpenSpec.ofChange fnForgottenWrong)

/-- 'laws.FnMatchOrder': WHATEVER THE INPUT: true; the input reads as it did. -/
def fnMatchOrderSpec : ChangeSpec := { name := "fnMatchOrder", fn := fun _ => fun
  | [d] => { results := [.lit (.bool true)], args := [d] }
  | _ => none }
def fnMatchOrderRow : OpenClaim := { program := "ytpajhchhkfnieaa", sum := "83fa01c892f8959c4163e9dfbc96c2362c1bbda4998b0f3f30591e6a63d9ad43", func := "loop.example/g00282/laws.FnMatchOrder", spec := "fnMatchOrder", apart := false }
def FnMatchOrderSaid : Prop := fnMatchOrderRow.holds Try.pinned (OpenSpec.ofChange fnMatchOrderSpec)

/-- ITS FALSE NEIGHBOUR: 'it returns false'. Refute it at one input. -/
def fnMatchOrderWrong : ChangeSpec := { name := "fnMatchOrder", fn := fun _ => fun
  | [d] => { results := [.lit (.bool false)], args := [d] }
  | _ => none }
def FnMatchOrderWrongFalsely : Prop := fnMatchOrderRow.holds Try.pinned (OpenSpec.ofChange fnMatchOrderWrong)

/-- 'laws.FnExactSameAlpha': WHATEVER THE INPUT: true; the input reads as it did. -/
def fnExactSameAlphaSpec : ChangeSpec := { name := "fnExactSameAlpha", fn := fun _ => fun
  | [d1, d2] => { results := [.lit (.bool true)], args := [d1, d2] }
  | _ => none }
def fnExactSameAlphaRow : OpenClaim := { program := "ytpajhchhkfnieaa", sum := "83fa01c892f8959c4163e9dfbc96c2362c1bbda4998b0f3f30591e6a63d9ad43", func := "loop.example/g00282/laws.FnExactSameAlpha", spec := "fnExactSameAlpha", apart := false }
def FnExactSameAlphaSaid : Prop := fnExactSameAlphaRow.holds Try.pinned (OpenSpec.ofChange fnExactSameAlphaSpec)

/-- ITS FALSE NEIGHBOUR: 'it returns false'. Refute it at one input. -/
def fnExactSameAlphaWrong : ChangeSpec := { name := "fnExactSameAlpha", fn := fun _ => fun
  | [d1, d2] => { results := [.lit (.bool false)], args := [d1, d2] }
  | _ => none }
def FnExactSameAlphaWrongFalsely : Prop := fnExactSameAlphaRow.holds Try.pinned (OpenSpec.ofChange fnExactSameAlphaWrong)

/-- 'laws.FnExactSameMatch': WHATEVER THE INPUT: true; the input reads as it did. -/
def fnExactSameMatchSpec : ChangeSpec := { name := "fnExactSameMatch", fn := fun _ => fun
  | [d1, d2] => { results := [.lit (.bool true)], args := [d1, d2] }
  | _ => none }
def fnExactSameMatchRow : OpenClaim := { program := "ytpajhchhkfnieaa", sum := "83fa01c892f8959c4163e9dfbc96c2362c1bbda4998b0f3f30591e6a63d9ad43", func := "loop.example/g00282/laws.FnExactSameMatch", spec := "fnExactSameMatch", apart := false }
def FnExactSameMatchSaid : Prop := fnExactSameMatchRow.holds Try.pinned (OpenSpec.ofChange fnExactSameMatchSpec)

/-- ITS FALSE NEIGHBOUR: 'it returns false'. Refute it at one input. -/
def fnExactSameMatchWrong : ChangeSpec := { name := "fnExactSameMatch", fn := fun _ => fun
  | [d1, d2] => { results := [.lit (.bool false)], args := [d1, d2] }
  | _ => none }
def FnExactSameMatchWrongFalsely : Prop := fnExactSameMatchRow.holds Try.pinned (OpenSpec.ofChange fnExactSameMatchWrong)

/-- 'laws.FnExactPasses': WHATEVER THE INPUT: true; the input reads as it did. -/
def fnExactPassesSpec : ChangeSpec := { name := "fnExactPasses", fn := fun _ => fun
  | [d1, d2] => { results := [.lit (.bool true)], args := [d1, d2] }
  | _ => none }
def fnExactPassesRow : OpenClaim := { program := "ytpajhchhkfnieaa", sum := "83fa01c892f8959c4163e9dfbc96c2362c1bbda4998b0f3f30591e6a63d9ad43", func := "loop.example/g00282/laws.FnExactPasses", spec := "fnExactPasses", apart := false }
def FnExactPassesSaid : Prop := fnExactPassesRow.holds Try.pinned (OpenSpec.ofChange fnExactPassesSpec)

/-- ITS FALSE NEIGHBOUR: 'it returns false'. Refute it at one input. -/
def fnExactPassesWrong : ChangeSpec := { name := "fnExactPasses", fn := fun _ => fun
  | [d1, d2] => { results := [.lit (.bool false)], args := [d1, d2] }
  | _ => none }
def FnExactPassesWrongFalsely : Prop := fnExactPassesRow.holds Try.pinned (OpenSpec.ofChange fnExactPassesWrong)

/-- 'laws.FnExactLessMatch': WHATEVER THE INPUT: true; the input reads as it did. -/
def fnExactLessMatchSpec : ChangeSpec := { name := "fnExactLessMatch", fn := fun _ => fun
  | [d1, d2] => { results := [.lit (.bool true)], args := [d1, d2] }
  | _ => none }
def fnExactLessMatchRow : OpenClaim := { program := "ytpajhchhkfnieaa", sum := "83fa01c892f8959c4163e9dfbc96c2362c1bbda4998b0f3f30591e6a63d9ad43", func := "loop.example/g00282/laws.FnExactLessMatch", spec := "fnExactLessMatch", apart := false }
def FnExactLessMatchSaid : Prop := fnExactLessMatchRow.holds Try.pinned (OpenSpec.ofChange fnExactLessMatchSpec)

/-- ITS FALSE NEIGHBOUR: 'it returns false'. Refute it at one input. -/
def fnExactLessMatchWrong : ChangeSpec := { name := "fnExactLessMatch", fn := fun _ => fun
  | [d1, d2] => { results := [.lit (.bool false)], args := [d1, d2] }
  | _ => none }
def FnExactLessMatchWrongFalsely : Prop := fnExactLessMatchRow.holds Try.pinned (OpenSpec.ofChange fnExactLessMatchWrong)

/-- 'laws.FnExactFiredHas': WHATEVER THE INPUT: true; the input reads as it did. -/
def fnExactFiredHasSpec : ChangeSpec := { name := "fnExactFiredHas", fn := fun _ => fun
  | [d1, d2] => { results := [.lit (.bool true)], args := [d1, d2] }
  | _ => none }
def fnExactFiredHasRow : OpenClaim := { program := "ytpajhchhkfnieaa", sum := "83fa01c892f8959c4163e9dfbc96c2362c1bbda4998b0f3f30591e6a63d9ad43", func := "loop.example/g00282/laws.FnExactFiredHas", spec := "fnExactFiredHas", unfollowed := true, recurses := true, apart := false }
def FnExactFiredHasSaid : Prop := fnExactFiredHasRow.holds Try.pinned (OpenSpec.ofChange fnExactFiredHasSpec)

/-- ITS FALSE NEIGHBOUR: 'it returns false'. Refute it at one input. -/
def fnExactFiredHasWrong : ChangeSpec := { name := "fnExactFiredHas", fn := fun _ => fun
  | [d1, d2] => { results := [.lit (.bool false)], args := [d1, d2] }
  | _ => none }
def FnExactFiredHasWrongFalsely : Prop := fnExactFiredHasRow.holds Try.pinned (OpenSpec.ofChange fnExactFiredHasWrong)

/-- 'laws.FnExactSameSet': WHATEVER THE INPUT: true; the input reads as it did. -/
def fnExactSameSetSpec : ChangeSpec := { name := "fnExactSameSet", fn := fun _ => fun
  | [d1, d2] => { results := [.lit (.bool true)], args := [d1, d2] }
  | _ => none }
def fnExactSameSetRow : OpenClaim := { program := "ytpajhchhkfnieaa", sum := "83fa01c892f8959c4163e9dfbc96c2362c1bbda4998b0f3f30591e6a63d9ad43", func := "loop.example/g00282/laws.FnExactSameSet", spec := "fnExactSameSet", unfollowed := true, recurses := true, apart := false }
def FnExactSameSetSaid : Prop := fnExactSameSetRow.holds Try.pinned (OpenSpec.ofChange fnExactSameSetSpec)

/-- ITS FALSE NEIGHBOUR: 'it returns false'. Refute it at one input. -/
def fnExactSameSetWrong : ChangeSpec := { name := "fnExactSameSet", fn := fun _ => fun
  | [d1, d2] => { results := [.lit (.bool false)], args := [d1, d2] }
  | _ => none }
def FnExactSameSetWrongFalsely : Prop := fnExactSameSetRow.holds Try.pinned (OpenSpec.ofChange fnExactSameSetWrong)

/-- 'laws.FnExactEffectOk': WHATEVER THE INPUT: true; the input reads as it did. -/
def fnExactEffectOkSpec : ChangeSpec := { name := "fnExactEffectOk", fn := fun _ => fun
  | [d] => { results := [.lit (.bool true)], args := [d] }
  | _ => none }
def fnExactEffectOkRow : OpenClaim := { program := "ytpajhchhkfnieaa", sum := "83fa01c892f8959c4163e9dfbc96c2362c1bbda4998b0f3f30591e6a63d9ad43", func := "loop.example/g00282/laws.FnExactEffectOk", spec := "fnExactEffectOk", apart := false }
def FnExactEffectOkSaid : Prop := fnExactEffectOkRow.holds Try.pinned (OpenSpec.ofChange fnExactEffectOkSpec)

/-- ITS FALSE NEIGHBOUR: 'it returns false'. Refute it at one input. -/
def fnExactEffectOkWrong : ChangeSpec := { name := "fnExactEffectOk", fn := fun _ => fun
  | [d] => { results := [.lit (.bool false)], args := [d] }
  | _ => none }
def FnExactEffectOkWrongFalsely : Prop := fnExactEffectOkRow.holds Try.pinned (OpenSpec.ofChange fnExactEffectOkWrong)

/-- 'laws.FnExactAlphaOf': WHATEVER THE INPUT: true; the input reads as it did. -/
def fnExactAlphaOfSpec : ChangeSpec := { name := "fnExactAlphaOf", fn := fun _ => fun
  | [d] => { results := [.lit (.bool true)], args := [d] }
  | _ => none }
def fnExactAlphaOfRow : OpenClaim := { program := "ytpajhchhkfnieaa", sum := "83fa01c892f8959c4163e9dfbc96c2362c1bbda4998b0f3f30591e6a63d9ad43", func := "loop.example/g00282/laws.FnExactAlphaOf", spec := "fnExactAlphaOf", apart := false }
def FnExactAlphaOfSaid : Prop := fnExactAlphaOfRow.holds Try.pinned (OpenSpec.ofChange fnExactAlphaOfSpec)

/-- ITS FALSE NEIGHBOUR: 'it returns false'. Refute it at one input. -/
def fnExactAlphaOfWrong : ChangeSpec := { name := "fnExactAlphaOf", fn := fun _ => fun
  | [d] => { results := [.lit (.bool false)], args := [d] }
  | _ => none }
def FnExactAlphaOfWrongFalsely : Prop := fnExactAlphaOfRow.holds Try.pinned (OpenSpec.ofChange fnExactAlphaOfWrong)

/-- 'laws.FnExactCompute': WHATEVER THE INPUT: true; the input reads as it did. -/
def fnExactComputeSpec : ChangeSpec := { name := "fnExactCompute", fn := fun _ => fun
  | [d1, d2] => { results := [.lit (.bool true)], args := [d1, d2] }
  | _ => none }
def fnExactComputeRow : OpenClaim := { program := "ytpajhchhkfnieaa", sum := "83fa01c892f8959c4163e9dfbc96c2362c1bbda4998b0f3f30591e6a63d9ad43", func := "loop.example/g00282/laws.FnExactCompute", spec := "fnExactCompute", apart := false }
def FnExactComputeSaid : Prop := fnExactComputeRow.holds Try.pinned (OpenSpec.ofChange fnExactComputeSpec)

/-- ITS FALSE NEIGHBOUR: 'it returns false'. Refute it at one input. -/
def fnExactComputeWrong : ChangeSpec := { name := "fnExactCompute", fn := fun _ => fun
  | [d1, d2] => { results := [.lit (.bool false)], args := [d1, d2] }
  | _ => none }
def FnExactComputeWrongFalsely : Prop := fnExactComputeRow.holds Try.pinned (OpenSpec.ofChange fnExactComputeWrong)

/- THE SECOND FORM. 'bulk': how many values and letters a reading holds, each counted each time it is reached (what is shared counts as often as it is met; a slice's spare places count too). A statement '..UptoSaid' is the law's where the arguments, and the package variables that the reading takes, are together of bulk at most 1048576: NARROWER than '..Said'. Prove '..Said' where nothing that the law and all that it calls make is longer than what came in: it says more and counts as full. Else prove '..UptoSaid'. A law counts once. -/
mutual
def uptoBulk {H : Type} : DataW H → Nat
  | .lit (.string bytes) => bytes.length + 1
  | .lit _ => 1
  | .nil => 1
  | .ptr d => uptoBulk d + 1
  | .slice elems spare => uptoBulkAll elems + uptoBulkAll spare + 1
  | .agg parts => uptoBulkAll parts + 1
  | .iface _ d => uptoBulk d + 1
  | .map entries => uptoBulkEntries entries + 1
  | .held _ => 1
def uptoBulkAll {H : Type} : List (DataW H) → Nat
  | [] => 0
  | d :: r => uptoBulk d + uptoBulkAll r
def uptoBulkEntries {H : Type} : List (Lit × DataW H) → Nat
  | [] => 0
  | x :: r => uptoBulkEntry x + uptoBulkEntries r
def uptoBulkEntry {H : Type} : Lit × DataW H → Nat
  | (.string bytes, d) => bytes.length + uptoBulk d + 1
  | (_, d) => uptoBulk d + 1
 end
def uptoSmall : (H : Type) → List (DataW H) → Bool := fun _ ds => decide (uptoBulkAll ds ≤ 1048576)
def OpenSpec.upto (s : _root_.Go.ChangeSpec) : _root_.Go.OpenSpec := { _root_.Go.OpenSpec.ofChange s with cond := some uptoSmall }

/-- 'laws.FnForgotten', WHERE WHAT IT READS IS OF BULK AT MOST 1048576: true; the input reads as it did. -/
def fnForgottenUptoRow : OpenClaim := { program := "ytpajhchhkfnieaa", sum := "83fa01c892f8959c4163e9dfbc96c2362c1bbda4998b0f3f30591e6a63d9ad43", func := "loop.example/g00282/laws.FnForgotten", spec := "fnForgotten", unfollowed := true, recurses := true, apart := false, narrowed := true }
def FnForgottenUptoSaid : Prop := fnForgottenUptoRow.holds Try.pinned (OpenSpec.upto fnForgottenSpec)

/-- 'laws.FnMatchOrder', WHERE WHAT IT READS IS OF BULK AT MOST 1048576: true; the input reads as it did. -/
def fnMatchOrderUptoRow : OpenClaim := { program := "ytpajhchhkfnieaa", sum := "83fa01c892f8959c4163e9dfbc96c2362c1bbda4998b0f3f30591e6a63d9ad43", func := "loop.example/g00282/laws.FnMatchOrder", spec := "fnMatchOrder", apart := false, narrowed := true }
def FnMatchOrderUptoSaid : Prop := fnMatchOrderUptoRow.holds Try.pinned (OpenSpec.upto fnMatchOrderSpec)

/-- 'laws.FnExactSameAlpha', WHERE WHAT IT READS IS OF BULK AT MOST 1048576: true; the input reads as it did. -/
def fnExactSameAlphaUptoRow : OpenClaim := { program := "ytpajhchhkfnieaa", sum := "83fa01c892f8959c4163e9dfbc96c2362c1bbda4998b0f3f30591e6a63d9ad43", func := "loop.example/g00282/laws.FnExactSameAlpha", spec := "fnExactSameAlpha", apart := false, narrowed := true }
def FnExactSameAlphaUptoSaid : Prop := fnExactSameAlphaUptoRow.holds Try.pinned (OpenSpec.upto fnExactSameAlphaSpec)

/-- 'laws.FnExactSameMatch', WHERE WHAT IT READS IS OF BULK AT MOST 1048576: true; the input reads as it did. -/
def fnExactSameMatchUptoRow : OpenClaim := { program := "ytpajhchhkfnieaa", sum := "83fa01c892f8959c4163e9dfbc96c2362c1bbda4998b0f3f30591e6a63d9ad43", func := "loop.example/g00282/laws.FnExactSameMatch", spec := "fnExactSameMatch", apart := false, narrowed := true }
def FnExactSameMatchUptoSaid : Prop := fnExactSameMatchUptoRow.holds Try.pinned (OpenSpec.upto fnExactSameMatchSpec)

/-- 'laws.FnExactPasses', WHERE WHAT IT READS IS OF BULK AT MOST 1048576: true; the input reads as it did. -/
def fnExactPassesUptoRow : OpenClaim := { program := "ytpajhchhkfnieaa", sum := "83fa01c892f8959c4163e9dfbc96c2362c1bbda4998b0f3f30591e6a63d9ad43", func := "loop.example/g00282/laws.FnExactPasses", spec := "fnExactPasses", apart := false, narrowed := true }
def FnExactPassesUptoSaid : Prop := fnExactPassesUptoRow.holds Try.pinned (OpenSpec.upto fnExactPassesSpec)

/-- 'laws.FnExactLessMatch', WHERE WHAT IT READS IS OF BULK AT MOST 1048576: true; the input reads as it did. -/
def fnExactLessMatchUptoRow : OpenClaim := { program := "ytpajhchhkfnieaa", sum := "83fa01c892f8959c4163e9dfbc96c2362c1bbda4998b0f3f30591e6a63d9ad43", func := "loop.example/g00282/laws.FnExactLessMatch", spec := "fnExactLessMatch", apart := false, narrowed := true }
def FnExactLessMatchUptoSaid : Prop := fnExactLessMatchUptoRow.holds Try.pinned (OpenSpec.upto fnExactLessMatchSpec)

/-- 'laws.FnExactFiredHas', WHERE WHAT IT READS IS OF BULK AT MOST 1048576: true; the input reads as it did. -/
def fnExactFiredHasUptoRow : OpenClaim := { program := "ytpajhchhkfnieaa", sum := "83fa01c892f8959c4163e9dfbc96c2362c1bbda4998b0f3f30591e6a63d9ad43", func := "loop.example/g00282/laws.FnExactFiredHas", spec := "fnExactFiredHas", unfollowed := true, recurses := true, apart := false, narrowed := true }
def FnExactFiredHasUptoSaid : Prop := fnExactFiredHasUptoRow.holds Try.pinned (OpenSpec.upto fnExactFiredHasSpec)

/-- 'laws.FnExactSameSet', WHERE WHAT IT READS IS OF BULK AT MOST 1048576: true; the input reads as it did. -/
def fnExactSameSetUptoRow : OpenClaim := { program := "ytpajhchhkfnieaa", sum := "83fa01c892f8959c4163e9dfbc96c2362c1bbda4998b0f3f30591e6a63d9ad43", func := "loop.example/g00282/laws.FnExactSameSet", spec := "fnExactSameSet", unfollowed := true, recurses := true, apart := false, narrowed := true }
def FnExactSameSetUptoSaid : Prop := fnExactSameSetUptoRow.holds Try.pinned (OpenSpec.upto fnExactSameSetSpec)

/-- 'laws.FnExactEffectOk', WHERE WHAT IT READS IS OF BULK AT MOST 1048576: true; the input reads as it did. -/
def fnExactEffectOkUptoRow : OpenClaim := { program := "ytpajhchhkfnieaa", sum := "83fa01c892f8959c4163e9dfbc96c2362c1bbda4998b0f3f30591e6a63d9ad43", func := "loop.example/g00282/laws.FnExactEffectOk", spec := "fnExactEffectOk", apart := false, narrowed := true }
def FnExactEffectOkUptoSaid : Prop := fnExactEffectOkUptoRow.holds Try.pinned (OpenSpec.upto fnExactEffectOkSpec)

/-- 'laws.FnExactAlphaOf', WHERE WHAT IT READS IS OF BULK AT MOST 1048576: true; the input reads as it did. -/
def fnExactAlphaOfUptoRow : OpenClaim := { program := "ytpajhchhkfnieaa", sum := "83fa01c892f8959c4163e9dfbc96c2362c1bbda4998b0f3f30591e6a63d9ad43", func := "loop.example/g00282/laws.FnExactAlphaOf", spec := "fnExactAlphaOf", apart := false, narrowed := true }
def FnExactAlphaOfUptoSaid : Prop := fnExactAlphaOfUptoRow.holds Try.pinned (OpenSpec.upto fnExactAlphaOfSpec)

/-- 'laws.FnExactCompute', WHERE WHAT IT READS IS OF BULK AT MOST 1048576: true; the input reads as it did. -/
def fnExactComputeUptoRow : OpenClaim := { program := "ytpajhchhkfnieaa", sum := "83fa01c892f8959c4163e9dfbc96c2362c1bbda4998b0f3f30591e6a63d9ad43", func := "loop.example/g00282/laws.FnExactCompute", spec := "fnExactCompute", apart := false, narrowed := true }
def FnExactComputeUptoSaid : Prop := fnExactComputeUptoRow.holds Try.pinned (OpenSpec.upto fnExactComputeSpec)

end Rows
end Go.Proofs.Ytpajhchhkfnieaa
