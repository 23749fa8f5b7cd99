/-
  DERIVED. GIVEN WITH THE SEED: THE CARDS: each row of YteipbimepilcfaaGreatDoorRows.lean that lists a variable, with what it lists TIED to the program's text (the seventh form; the later family's looks); each row that meets fmt, with fmt's text TOLD by the authors' own Lean function (tested against real Go, not proved from fmt's source: count such statements apart). THE CARD IS WHAT COUNTS. Prove the row's statement (the work); the ties are given (YteipbimepilcfaaGreatDoorTie.lean); close each card by the builder's one call (the guide's Derived/Test/ToyasCard.lean, 'card_holds'). Laid BY PROGRAM, IN A SANDBOX (cutbox-door.mjs). By AI agents, Wed Nov 11 2026. No macro, syntax, notation, axiom, sorry.
-/
import Derived.Test.YteipbimepilcfaaGreatDoorRows
import GoSem.ClaimSeven
namespace Go.Proofs.YteipbimepilcfaaGreatDoor
namespace Rows

/-- THE TIED CARD OF 'laws.FnRules'. -/
def fnRulesCard : Claim7 := { stood := { row := fnRulesRow, standIns := [], harness := (true, "00ac558f2f972ecda995f271d96ce87534477db421c796a40c877d53a005bb1a"), looks := true }, kinds := [], alts := [], laidByText := true, laidKinds := [.data, .data, .data, .sentinel, .sentinel], laidTests := true, laidLooks := .later }
def FnRulesCardSaid : Prop := Claim7.holds Tryz.pinned (.plain (OpenSpec.ofChange fnRulesSpec)) fnRulesCard

/-- THE TIED CARD OF 'laws.FnDefs'. -/
def fnDefsCard : Claim7 := { stood := { row := fnDefsRow, standIns := [], harness := (true, "00ac558f2f972ecda995f271d96ce87534477db421c796a40c877d53a005bb1a"), looks := true }, kinds := [], alts := [], laidByText := true, laidKinds := [.data, .data, .data, .sentinel, .sentinel], laidTests := true, laidLooks := .later }
def FnDefsCardSaid : Prop := Claim7.holds Tryz.pinned (.plain (OpenSpec.ofChange fnDefsSpec)) fnDefsCard

/-- THE TIED CARD OF 'laws.FnDefsRead'. -/
def fnDefsReadCard : Claim7 := { stood := { row := fnDefsReadRow, standIns := [], harness := (true, "00ac558f2f972ecda995f271d96ce87534477db421c796a40c877d53a005bb1a"), looks := true }, kinds := [], alts := [], laidByText := true, laidKinds := [.data, .data, .data, .sentinel, .sentinel], laidTests := true, laidLooks := .later }
def FnDefsReadCardSaid : Prop := Claim7.holds Tryz.pinned (.plain (OpenSpec.ofChange fnDefsReadSpec)) fnDefsReadCard

/-- THE TIED CARD OF 'laws.FnExactParseDef'. -/
def fnExactParseDefCard : Claim7 := { stood := { row := fnExactParseDefRow, standIns := [], harness := (true, "00ac558f2f972ecda995f271d96ce87534477db421c796a40c877d53a005bb1a"), looks := true }, kinds := [], alts := [], laidByText := true, laidKinds := [.data, .data, .data, .sentinel, .sentinel], laidTests := true, laidLooks := .later }
def FnExactParseDefCardSaid : Prop := Claim7.holds Tryz.pinned (.plain (OpenSpec.ofChange fnExactParseDefSpec)) fnExactParseDefCard

/-- THE SECOND FORM's CARD OF 'laws.FnRules'. -/
def fnRulesUptoCard : Claim7 := { stood := { row := fnRulesUptoRow, standIns := [], harness := (true, "00ac558f2f972ecda995f271d96ce87534477db421c796a40c877d53a005bb1a"), looks := true }, kinds := [], alts := [], laidByText := true, laidKinds := [.data, .data, .data, .sentinel, .sentinel], laidTests := true, laidLooks := .later }
def FnRulesUptoCardSaid : Prop := Claim7.holds Tryz.pinned (.plain (OpenSpec.upto fnRulesSpec)) fnRulesUptoCard

/-- THE SECOND FORM's CARD OF 'laws.FnDefs'. -/
def fnDefsUptoCard : Claim7 := { stood := { row := fnDefsUptoRow, standIns := [], harness := (true, "00ac558f2f972ecda995f271d96ce87534477db421c796a40c877d53a005bb1a"), looks := true }, kinds := [], alts := [], laidByText := true, laidKinds := [.data, .data, .data, .sentinel, .sentinel], laidTests := true, laidLooks := .later }
def FnDefsUptoCardSaid : Prop := Claim7.holds Tryz.pinned (.plain (OpenSpec.upto fnDefsSpec)) fnDefsUptoCard

/-- THE SECOND FORM's CARD OF 'laws.FnDefsRead'. -/
def fnDefsReadUptoCard : Claim7 := { stood := { row := fnDefsReadUptoRow, standIns := [], harness := (true, "00ac558f2f972ecda995f271d96ce87534477db421c796a40c877d53a005bb1a"), looks := true }, kinds := [], alts := [], laidByText := true, laidKinds := [.data, .data, .data, .sentinel, .sentinel], laidTests := true, laidLooks := .later }
def FnDefsReadUptoCardSaid : Prop := Claim7.holds Tryz.pinned (.plain (OpenSpec.upto fnDefsReadSpec)) fnDefsReadUptoCard

/-- THE SECOND FORM's CARD OF 'laws.FnExactParseDef'. -/
def fnExactParseDefUptoCard : Claim7 := { stood := { row := fnExactParseDefUptoRow, standIns := [], harness := (true, "00ac558f2f972ecda995f271d96ce87534477db421c796a40c877d53a005bb1a"), looks := true }, kinds := [], alts := [], laidByText := true, laidKinds := [.data, .data, .data, .sentinel, .sentinel], laidTests := true, laidLooks := .later }
def FnExactParseDefUptoCardSaid : Prop := Claim7.holds Tryz.pinned (.plain (OpenSpec.upto fnExactParseDefSpec)) fnExactParseDefUptoCard
end Rows
end Go.Proofs.YteipbimepilcfaaGreatDoor
