/-
  DERIVED. GIVEN WITH THE SEED: THE CARDS: each row of YtdekenijnbhpfaaDoorRows.lean that lists a variable, with what it lists TIED to the program's text (the seventh form; the later family's looks); each row that meets fmt, with fmt's text TOLD by the authors' own Lean function (tested against real Go, not proved from fmt's source: count such statements apart). THE CARD IS WHAT COUNTS. Prove the row's statement (the work); the ties are given (YtdekenijnbhpfaaDoorTie.lean); close each card by the builder's one call (the guide's Derived/Test/ToyasCard.lean, 'card_holds'). Laid BY PROGRAM, IN A SANDBOX (cutbox-door.mjs). By AI agents, Wed Nov 11 2026. No macro, syntax, notation, axiom, sorry.
-/
import Derived.Test.YtdekenijnbhpfaaDoorRows
import GoSem.ClaimSeven
namespace Go.Proofs.YtdekenijnbhpfaaDoor
namespace Rows

/-- THE TIED CARD OF 'laws.FnExactPatternLine'. -/
def fnExactPatternLineCard : Claim7 := { stood := { row := fnExactPatternLineRow, standIns := [], harness := (true, "51e832e5fd1114ec3c4e4bf2be7090e31498a1570e358f72cfca34bb68ffdd01"), looks := true }, kinds := [], alts := [], laidByText := true, laidKinds := [.data, .data, .data], laidTests := true, laidLooks := .later }
def FnExactPatternLineCardSaid : Prop := Claim7.holds Tryd.pinned (.plain (OpenSpec.ofChange fnExactPatternLineSpec)) fnExactPatternLineCard

/-- THE TIED CARD OF 'laws.FnExactFormatClaim'. -/
def fnExactFormatClaimCard : Claim7 := { stood := { row := fnExactFormatClaimRow, standIns := [], harness := (true, "51e832e5fd1114ec3c4e4bf2be7090e31498a1570e358f72cfca34bb68ffdd01"), looks := true }, kinds := [], alts := [], laidByText := true, laidKinds := [.data, .data, .data], laidTests := true, laidLooks := .later }
def FnExactFormatClaimCardSaid : Prop := Claim7.holds Tryd.pinned (.plain (OpenSpec.ofChange fnExactFormatClaimSpec)) fnExactFormatClaimCard

/-- THE TIED CARD OF 'laws.FnExactParseFormula'. -/
def fnExactParseFormulaCard : Claim7 := { stood := { row := fnExactParseFormulaRow, standIns := [], harness := (true, "51e832e5fd1114ec3c4e4bf2be7090e31498a1570e358f72cfca34bb68ffdd01"), looks := true }, kinds := [], alts := [], laidByText := true, laidKinds := [.data, .data, .data, .sentinel, .sentinel], laidTests := true, laidLooks := .later }
def FnExactParseFormulaCardSaid : Prop := Claim7.holds Tryd.pinned (.plain (OpenSpec.ofChange fnExactParseFormulaSpec)) fnExactParseFormulaCard

/-- THE TIED CARD OF 'laws.FnExactSequenceLine'. -/
def fnExactSequenceLineCard : Claim7 := { stood := { row := fnExactSequenceLineRow, standIns := [], harness := (true, "51e832e5fd1114ec3c4e4bf2be7090e31498a1570e358f72cfca34bb68ffdd01"), looks := true }, kinds := [], alts := [], laidByText := true, laidKinds := [.data, .data, .data], laidTests := true, laidLooks := .later }
def FnExactSequenceLineCardSaid : Prop := Claim7.holds Tryd.pinned (.plain (OpenSpec.ofChange fnExactSequenceLineSpec)) fnExactSequenceLineCard

/-- THE TIED CARD OF 'laws.FnExactSlopeLine'. -/
def fnExactSlopeLineCard : Claim7 := { stood := { row := fnExactSlopeLineRow, standIns := [], harness := (true, "51e832e5fd1114ec3c4e4bf2be7090e31498a1570e358f72cfca34bb68ffdd01"), looks := true }, kinds := [], alts := [], laidByText := true, laidKinds := [.data, .data, .data], laidTests := true, laidLooks := .later }
def FnExactSlopeLineCardSaid : Prop := Claim7.holds Tryd.pinned (.plain (OpenSpec.ofChange fnExactSlopeLineSpec)) fnExactSlopeLineCard

/-- THE SECOND FORM's CARD OF 'laws.FnExactPatternLine'. -/
def fnExactPatternLineUptoCard : Claim7 := { stood := { row := fnExactPatternLineUptoRow, standIns := [], harness := (true, "51e832e5fd1114ec3c4e4bf2be7090e31498a1570e358f72cfca34bb68ffdd01"), looks := true }, kinds := [], alts := [], laidByText := true, laidKinds := [.data, .data, .data], laidTests := true, laidLooks := .later }
def FnExactPatternLineUptoCardSaid : Prop := Claim7.holds Tryd.pinned (.plain (OpenSpec.upto fnExactPatternLineSpec)) fnExactPatternLineUptoCard

/-- THE SECOND FORM's CARD OF 'laws.FnExactFormatClaim'. -/
def fnExactFormatClaimUptoCard : Claim7 := { stood := { row := fnExactFormatClaimUptoRow, standIns := [], harness := (true, "51e832e5fd1114ec3c4e4bf2be7090e31498a1570e358f72cfca34bb68ffdd01"), looks := true }, kinds := [], alts := [], laidByText := true, laidKinds := [.data, .data, .data], laidTests := true, laidLooks := .later }
def FnExactFormatClaimUptoCardSaid : Prop := Claim7.holds Tryd.pinned (.plain (OpenSpec.upto fnExactFormatClaimSpec)) fnExactFormatClaimUptoCard

/-- THE SECOND FORM's CARD OF 'laws.FnExactParseFormula'. -/
def fnExactParseFormulaUptoCard : Claim7 := { stood := { row := fnExactParseFormulaUptoRow, standIns := [], harness := (true, "51e832e5fd1114ec3c4e4bf2be7090e31498a1570e358f72cfca34bb68ffdd01"), looks := true }, kinds := [], alts := [], laidByText := true, laidKinds := [.data, .data, .data, .sentinel, .sentinel], laidTests := true, laidLooks := .later }
def FnExactParseFormulaUptoCardSaid : Prop := Claim7.holds Tryd.pinned (.plain (OpenSpec.upto fnExactParseFormulaSpec)) fnExactParseFormulaUptoCard

/-- THE SECOND FORM's CARD OF 'laws.FnExactSequenceLine'. -/
def fnExactSequenceLineUptoCard : Claim7 := { stood := { row := fnExactSequenceLineUptoRow, standIns := [], harness := (true, "51e832e5fd1114ec3c4e4bf2be7090e31498a1570e358f72cfca34bb68ffdd01"), looks := true }, kinds := [], alts := [], laidByText := true, laidKinds := [.data, .data, .data], laidTests := true, laidLooks := .later }
def FnExactSequenceLineUptoCardSaid : Prop := Claim7.holds Tryd.pinned (.plain (OpenSpec.upto fnExactSequenceLineSpec)) fnExactSequenceLineUptoCard

/-- THE SECOND FORM's CARD OF 'laws.FnExactSlopeLine'. -/
def fnExactSlopeLineUptoCard : Claim7 := { stood := { row := fnExactSlopeLineUptoRow, standIns := [], harness := (true, "51e832e5fd1114ec3c4e4bf2be7090e31498a1570e358f72cfca34bb68ffdd01"), looks := true }, kinds := [], alts := [], laidByText := true, laidKinds := [.data, .data, .data], laidTests := true, laidLooks := .later }
def FnExactSlopeLineUptoCardSaid : Prop := Claim7.holds Tryd.pinned (.plain (OpenSpec.upto fnExactSlopeLineSpec)) fnExactSlopeLineUptoCard
end Rows
end Go.Proofs.YtdekenijnbhpfaaDoor
