/-
  No cell of these rows narrows 'for every input' (looked for: loops, veiled, ifaces, maps, wideKeys, modest, calm, conditions, laid).
  DERIVED. THE GIVEN ROWS OF THIS SEAT. 11 by the template 'for every input the law returns true; each argument reads behind the call as it read before'; 0 by the template 'total and deterministic' (their statements: YthkkpdgadfhijaaTotals.lean).
  GIVEN WITH THE SEED: the statements are not yours to turn. If you find one false, say at which input.
  Laid BY PROGRAM, IN A SANDBOX (cutbox-rows.mjs): the forced cells as the released guide's own fill.sh prints them over the translation 20a9ae6afe5dbd6f… (all of the seat's roots in one cut). By AI agents, Wed Nov 11 2026. No macro, syntax, notation, axiom, sorry.
-/
import Derived.Test.YthkkpdgadfhijaaChecked
import GoSem.Claim
import GoSem.ClaimJoined
import GoSem.ClaimMapViews
import Derived.JoinedTies
import Derived.KernelRfl
namespace Go.Proofs.Ythkkpdgadfhijaa
/- THE CELL 'sum', in the pinned program and in every row, IS THE sha256 OF THE DUMP (.gsa) THAT YthkkpdgadfhijaaProg.lean LOADS. Nothing in Lean hashes anything: it is a label: what it is worth is what the hold of that sum in a sandbox is worth. -/
noncomputable def Try.pinned : Pinned := { name := "ythkkpdgadfhijaa", sum := "20a9ae6afe5dbd6fcecb994dabcc387f403ea5d3655cf82a7425c626b00341ed", checked := Try.checked }
namespace Rows
def none {H : Type} : Left H := { results := [], args := [] }

/-- 'laws.FnExactThueClasses': WHATEVER THE INPUT: true; the input reads as it did. -/
def fnExactThueClassesSpec : ChangeSpec := { name := "fnExactThueClasses", fn := fun _ => fun
  | [d] => { results := [.lit (.bool true)], args := [d] }
  | _ => none }
def fnExactThueClassesRow : OpenClaim := { program := "ythkkpdgadfhijaa", sum := "20a9ae6afe5dbd6fcecb994dabcc387f403ea5d3655cf82a7425c626b00341ed", func := "loop.example/g02079/laws.FnExactThueClasses", spec := "fnExactThueClasses", apart := false }
def FnExactThueClassesSaid : Prop := fnExactThueClassesRow.holds Try.pinned (OpenSpec.ofChange fnExactThueClassesSpec)

/-- ITS FALSE NEIGHBOUR: 'it returns false'. Refute it at one input. -/
def fnExactThueClassesWrong : ChangeSpec := { name := "fnExactThueClasses", fn := fun _ => fun
  | [d] => { results := [.lit (.bool false)], args := [d] }
  | _ => none }
def FnExactThueClassesWrongFalsely : Prop := fnExactThueClassesRow.holds Try.pinned (OpenSpec.ofChange fnExactThueClassesWrong)

/-- 'laws.FnProuhet': WHATEVER THE INPUT: true; the input reads as it did. -/
def fnProuhetSpec : ChangeSpec := { name := "fnProuhet", fn := fun _ => fun
  | [d] => { results := [.lit (.bool true)], args := [d] }
  | _ => none }
def fnProuhetRow : OpenClaim := { program := "ythkkpdgadfhijaa", sum := "20a9ae6afe5dbd6fcecb994dabcc387f403ea5d3655cf82a7425c626b00341ed", func := "loop.example/g02079/laws.FnProuhet", spec := "fnProuhet", apart := false }
def FnProuhetSaid : Prop := fnProuhetRow.holds Try.pinned (OpenSpec.ofChange fnProuhetSpec)

/-- ITS FALSE NEIGHBOUR: 'it returns false'. Refute it at one input. -/
def fnProuhetWrong : ChangeSpec := { name := "fnProuhet", fn := fun _ => fun
  | [d] => { results := [.lit (.bool false)], args := [d] }
  | _ => none }
def FnProuhetWrongFalsely : Prop := fnProuhetRow.holds Try.pinned (OpenSpec.ofChange fnProuhetWrong)

/-- 'laws.FnExactEqualClaims': WHATEVER THE INPUT: true; the input reads as it did. -/
def fnExactEqualClaimsSpec : ChangeSpec := { name := "fnExactEqualClaims", fn := fun _ => fun
  | [d1, d2] => { results := [.lit (.bool true)], args := [d1, d2] }
  | _ => none }
def fnExactEqualClaimsRow : OpenClaim := { program := "ythkkpdgadfhijaa", sum := "20a9ae6afe5dbd6fcecb994dabcc387f403ea5d3655cf82a7425c626b00341ed", func := "loop.example/g02079/laws.FnExactEqualClaims", spec := "fnExactEqualClaims", unfollowed := true, recurses := true, apart := false }
def FnExactEqualClaimsSaid : Prop := fnExactEqualClaimsRow.holds Try.pinned (OpenSpec.ofChange fnExactEqualClaimsSpec)

/-- ITS FALSE NEIGHBOUR: 'it returns false'. Refute it at one input. -/
def fnExactEqualClaimsWrong : ChangeSpec := { name := "fnExactEqualClaims", fn := fun _ => fun
  | [d1, d2] => { results := [.lit (.bool false)], args := [d1, d2] }
  | _ => none }
def FnExactEqualClaimsWrongFalsely : Prop := fnExactEqualClaimsRow.holds Try.pinned (OpenSpec.ofChange fnExactEqualClaimsWrong)

/-- 'laws.FnExactCountAvoiding': WHATEVER THE INPUT: true; the input reads as it did. -/
def fnExactCountAvoidingSpec : ChangeSpec := { name := "fnExactCountAvoiding", fn := fun _ => fun
  | [d1, d2, d3] => { results := [.lit (.bool true)], args := [d1, d2, d3] }
  | _ => none }
def fnExactCountAvoidingRow : OpenClaim := { program := "ythkkpdgadfhijaa", sum := "20a9ae6afe5dbd6fcecb994dabcc387f403ea5d3655cf82a7425c626b00341ed", func := "loop.example/g02079/laws.FnExactCountAvoiding", spec := "fnExactCountAvoiding", unfollowed := true, recurses := true, apart := false }
def FnExactCountAvoidingSaid : Prop := fnExactCountAvoidingRow.holds Try.pinned (OpenSpec.ofChange fnExactCountAvoidingSpec)

/-- ITS FALSE NEIGHBOUR: 'it returns false'. Refute it at one input. -/
def fnExactCountAvoidingWrong : ChangeSpec := { name := "fnExactCountAvoiding", fn := fun _ => fun
  | [d1, d2, d3] => { results := [.lit (.bool false)], args := [d1, d2, d3] }
  | _ => none }
def FnExactCountAvoidingWrongFalsely : Prop := fnExactCountAvoidingRow.holds Try.pinned (OpenSpec.ofChange fnExactCountAvoidingWrong)

/-- 'laws.FnExactExtensionsOf': WHATEVER THE INPUT: true; the input reads as it did. -/
def fnExactExtensionsOfSpec : ChangeSpec := { name := "fnExactExtensionsOf", fn := fun _ => fun
  | [d1, d2, d3] => { results := [.lit (.bool true)], args := [d1, d2, d3] }
  | _ => none }
def fnExactExtensionsOfRow : OpenClaim := { program := "ythkkpdgadfhijaa", sum := "20a9ae6afe5dbd6fcecb994dabcc387f403ea5d3655cf82a7425c626b00341ed", func := "loop.example/g02079/laws.FnExactExtensionsOf", spec := "fnExactExtensionsOf", recurses := true, apart := false }
def FnExactExtensionsOfSaid : Prop := fnExactExtensionsOfRow.holds Try.pinned (OpenSpec.ofChange fnExactExtensionsOfSpec)

/-- ITS FALSE NEIGHBOUR: 'it returns false'. Refute it at one input. -/
def fnExactExtensionsOfWrong : ChangeSpec := { name := "fnExactExtensionsOf", fn := fun _ => fun
  | [d1, d2, d3] => { results := [.lit (.bool false)], args := [d1, d2, d3] }
  | _ => none }
def FnExactExtensionsOfWrongFalsely : Prop := fnExactExtensionsOfRow.holds Try.pinned (OpenSpec.ofChange fnExactExtensionsOfWrong)

/-- 'laws.FnExactIsUnavoidable': WHATEVER THE INPUT: true; the input reads as it did. -/
def fnExactIsUnavoidableSpec : ChangeSpec := { name := "fnExactIsUnavoidable", fn := fun _ => fun
  | [d1, d2, d3] => { results := [.lit (.bool true)], args := [d1, d2, d3] }
  | _ => none }
def fnExactIsUnavoidableRow : OpenClaim := { program := "ythkkpdgadfhijaa", sum := "20a9ae6afe5dbd6fcecb994dabcc387f403ea5d3655cf82a7425c626b00341ed", func := "loop.example/g02079/laws.FnExactIsUnavoidable", spec := "fnExactIsUnavoidable", recurses := true, apart := false }
def FnExactIsUnavoidableSaid : Prop := fnExactIsUnavoidableRow.holds Try.pinned (OpenSpec.ofChange fnExactIsUnavoidableSpec)

/-- ITS FALSE NEIGHBOUR: 'it returns false'. Refute it at one input. -/
def fnExactIsUnavoidableWrong : ChangeSpec := { name := "fnExactIsUnavoidable", fn := fun _ => fun
  | [d1, d2, d3] => { results := [.lit (.bool false)], args := [d1, d2, d3] }
  | _ => none }
def FnExactIsUnavoidableWrongFalsely : Prop := fnExactIsUnavoidableRow.holds Try.pinned (OpenSpec.ofChange fnExactIsUnavoidableWrong)

/-- 'laws.FnExactLongestAvoiding': WHATEVER THE INPUT: true; the input reads as it did. -/
def fnExactLongestAvoidingSpec : ChangeSpec := { name := "fnExactLongestAvoiding", fn := fun _ => fun
  | [d1, d2, d3] => { results := [.lit (.bool true)], args := [d1, d2, d3] }
  | _ => none }
def fnExactLongestAvoidingRow : OpenClaim := { program := "ythkkpdgadfhijaa", sum := "20a9ae6afe5dbd6fcecb994dabcc387f403ea5d3655cf82a7425c626b00341ed", func := "loop.example/g02079/laws.FnExactLongestAvoiding", spec := "fnExactLongestAvoiding", recurses := true, apart := false }
def FnExactLongestAvoidingSaid : Prop := fnExactLongestAvoidingRow.holds Try.pinned (OpenSpec.ofChange fnExactLongestAvoidingSpec)

/-- ITS FALSE NEIGHBOUR: 'it returns false'. Refute it at one input. -/
def fnExactLongestAvoidingWrong : ChangeSpec := { name := "fnExactLongestAvoiding", fn := fun _ => fun
  | [d1, d2, d3] => { results := [.lit (.bool false)], args := [d1, d2, d3] }
  | _ => none }
def FnExactLongestAvoidingWrongFalsely : Prop := fnExactLongestAvoidingRow.holds Try.pinned (OpenSpec.ofChange fnExactLongestAvoidingWrong)

/-- 'laws.FnExactLeastAvoiding': WHATEVER THE INPUT: true; the input reads as it did. -/
def fnExactLeastAvoidingSpec : ChangeSpec := { name := "fnExactLeastAvoiding", fn := fun _ => fun
  | [d1, d2, d3] => { results := [.lit (.bool true)], args := [d1, d2, d3] }
  | _ => none }
def fnExactLeastAvoidingRow : OpenClaim := { program := "ythkkpdgadfhijaa", sum := "20a9ae6afe5dbd6fcecb994dabcc387f403ea5d3655cf82a7425c626b00341ed", func := "loop.example/g02079/laws.FnExactLeastAvoiding", spec := "fnExactLeastAvoiding", recurses := true, apart := false }
def FnExactLeastAvoidingSaid : Prop := fnExactLeastAvoidingRow.holds Try.pinned (OpenSpec.ofChange fnExactLeastAvoidingSpec)

/-- ITS FALSE NEIGHBOUR: 'it returns false'. Refute it at one input. -/
def fnExactLeastAvoidingWrong : ChangeSpec := { name := "fnExactLeastAvoiding", fn := fun _ => fun
  | [d1, d2, d3] => { results := [.lit (.bool false)], args := [d1, d2, d3] }
  | _ => none }
def FnExactLeastAvoidingWrongFalsely : Prop := fnExactLeastAvoidingRow.holds Try.pinned (OpenSpec.ofChange fnExactLeastAvoidingWrong)

/-- 'laws.FnAvoidance': WHATEVER THE INPUT: true; the input reads as it did. -/
def fnAvoidanceSpec : ChangeSpec := { name := "fnAvoidance", fn := fun _ => fun
  | [d] => { results := [.lit (.bool true)], args := [d] }
  | _ => none }
def fnAvoidanceRow : OpenClaim := { program := "ythkkpdgadfhijaa", sum := "20a9ae6afe5dbd6fcecb994dabcc387f403ea5d3655cf82a7425c626b00341ed", func := "loop.example/g02079/laws.FnAvoidance", spec := "fnAvoidance", unfollowed := true, recurses := true, apart := false }
def FnAvoidanceSaid : Prop := fnAvoidanceRow.holds Try.pinned (OpenSpec.ofChange fnAvoidanceSpec)

/-- ITS FALSE NEIGHBOUR: 'it returns false'. Refute it at one input. -/
def fnAvoidanceWrong : ChangeSpec := { name := "fnAvoidance", fn := fun _ => fun
  | [d] => { results := [.lit (.bool false)], args := [d] }
  | _ => none }
def FnAvoidanceWrongFalsely : Prop := fnAvoidanceRow.holds Try.pinned (OpenSpec.ofChange fnAvoidanceWrong)

/-- 'laws.FnPatterns': WHATEVER THE INPUT: true; the input reads as it did. -/
def fnPatternsSpec : ChangeSpec := { name := "fnPatterns", fn := fun _ => fun
  | [d] => { results := [.lit (.bool true)], args := [d] }
  | _ => none }
def fnPatternsRow : OpenClaim := { program := "ythkkpdgadfhijaa", sum := "20a9ae6afe5dbd6fcecb994dabcc387f403ea5d3655cf82a7425c626b00341ed", func := "loop.example/g02079/laws.FnPatterns", spec := "fnPatterns", recurses := true, apart := false }
def FnPatternsSaid : Prop := fnPatternsRow.holds Try.pinned (OpenSpec.ofChange fnPatternsSpec)

/-- ITS FALSE NEIGHBOUR: 'it returns false'. Refute it at one input. -/
def fnPatternsWrong : ChangeSpec := { name := "fnPatterns", fn := fun _ => fun
  | [d] => { results := [.lit (.bool false)], args := [d] }
  | _ => none }
def FnPatternsWrongFalsely : Prop := fnPatternsRow.holds Try.pinned (OpenSpec.ofChange fnPatternsWrong)

/-- 'laws.FnExactClaimOfSequences': WHATEVER THE INPUT: true; the input reads as it did. -/
def fnExactClaimOfSequencesSpec : ChangeSpec := { name := "fnExactClaimOfSequences", fn := fun _ => fun
  | [d1, d2] => { results := [.lit (.bool true)], args := [d1, d2] }
  | _ => none }
def fnExactClaimOfSequencesRow : OpenClaim := { program := "ythkkpdgadfhijaa", sum := "20a9ae6afe5dbd6fcecb994dabcc387f403ea5d3655cf82a7425c626b00341ed", func := "loop.example/g02079/laws.FnExactClaimOfSequences", spec := "fnExactClaimOfSequences", unfollowed := true, recurses := true, apart := false }
def FnExactClaimOfSequencesSaid : Prop := fnExactClaimOfSequencesRow.holds Try.pinned (OpenSpec.ofChange fnExactClaimOfSequencesSpec)

/-- ITS FALSE NEIGHBOUR: 'it returns false'. Refute it at one input. -/
def fnExactClaimOfSequencesWrong : ChangeSpec := { name := "fnExactClaimOfSequences", fn := fun _ => fun
  | [d1, d2] => { results := [.lit (.bool false)], args := [d1, d2] }
  | _ => none }
def FnExactClaimOfSequencesWrongFalsely : Prop := fnExactClaimOfSequencesRow.holds Try.pinned (OpenSpec.ofChange fnExactClaimOfSequencesWrong)

/- THE SECOND FORM. 'bulk': how many values and letters a reading holds, each counted each time it is reached (what is shared counts as often as it is met; a slice's spare places count too). A statement '..UptoSaid' is the law's where the arguments, and the package variables that the reading takes, are together of bulk at most 1048576: NARROWER than '..Said'. Prove '..Said' where nothing that the law and all that it calls make is longer than what came in: it says more and counts as full. Else prove '..UptoSaid'. A law counts once. -/
mutual
def uptoBulk {H : Type} : DataW H → Nat
  | .lit (.string bytes) => bytes.length + 1
  | .lit _ => 1
  | .nil => 1
  | .ptr d => uptoBulk d + 1
  | .slice elems spare => uptoBulkAll elems + uptoBulkAll spare + 1
  | .agg parts => uptoBulkAll parts + 1
  | .iface _ d => uptoBulk d + 1
  | .map entries => uptoBulkEntries entries + 1
  | .held _ => 1
def uptoBulkAll {H : Type} : List (DataW H) → Nat
  | [] => 0
  | d :: r => uptoBulk d + uptoBulkAll r
def uptoBulkEntries {H : Type} : List (Lit × DataW H) → Nat
  | [] => 0
  | x :: r => uptoBulkEntry x + uptoBulkEntries r
def uptoBulkEntry {H : Type} : Lit × DataW H → Nat
  | (.string bytes, d) => bytes.length + uptoBulk d + 1
  | (_, d) => uptoBulk d + 1
 end
def uptoSmall : (H : Type) → List (DataW H) → Bool := fun _ ds => decide (uptoBulkAll ds ≤ 1048576)
def OpenSpec.upto (s : _root_.Go.ChangeSpec) : _root_.Go.OpenSpec := { _root_.Go.OpenSpec.ofChange s with cond := some uptoSmall }

/-- 'laws.FnExactThueClasses', WHERE WHAT IT READS IS OF BULK AT MOST 1048576: true; the input reads as it did. -/
def fnExactThueClassesUptoRow : OpenClaim := { program := "ythkkpdgadfhijaa", sum := "20a9ae6afe5dbd6fcecb994dabcc387f403ea5d3655cf82a7425c626b00341ed", func := "loop.example/g02079/laws.FnExactThueClasses", spec := "fnExactThueClasses", apart := false, narrowed := true }
def FnExactThueClassesUptoSaid : Prop := fnExactThueClassesUptoRow.holds Try.pinned (OpenSpec.upto fnExactThueClassesSpec)

/-- 'laws.FnProuhet', WHERE WHAT IT READS IS OF BULK AT MOST 1048576: true; the input reads as it did. -/
def fnProuhetUptoRow : OpenClaim := { program := "ythkkpdgadfhijaa", sum := "20a9ae6afe5dbd6fcecb994dabcc387f403ea5d3655cf82a7425c626b00341ed", func := "loop.example/g02079/laws.FnProuhet", spec := "fnProuhet", apart := false, narrowed := true }
def FnProuhetUptoSaid : Prop := fnProuhetUptoRow.holds Try.pinned (OpenSpec.upto fnProuhetSpec)

/-- 'laws.FnExactEqualClaims', WHERE WHAT IT READS IS OF BULK AT MOST 1048576: true; the input reads as it did. -/
def fnExactEqualClaimsUptoRow : OpenClaim := { program := "ythkkpdgadfhijaa", sum := "20a9ae6afe5dbd6fcecb994dabcc387f403ea5d3655cf82a7425c626b00341ed", func := "loop.example/g02079/laws.FnExactEqualClaims", spec := "fnExactEqualClaims", unfollowed := true, recurses := true, apart := false, narrowed := true }
def FnExactEqualClaimsUptoSaid : Prop := fnExactEqualClaimsUptoRow.holds Try.pinned (OpenSpec.upto fnExactEqualClaimsSpec)

/-- 'laws.FnExactCountAvoiding', WHERE WHAT IT READS IS OF BULK AT MOST 1048576: true; the input reads as it did. -/
def fnExactCountAvoidingUptoRow : OpenClaim := { program := "ythkkpdgadfhijaa", sum := "20a9ae6afe5dbd6fcecb994dabcc387f403ea5d3655cf82a7425c626b00341ed", func := "loop.example/g02079/laws.FnExactCountAvoiding", spec := "fnExactCountAvoiding", unfollowed := true, recurses := true, apart := false, narrowed := true }
def FnExactCountAvoidingUptoSaid : Prop := fnExactCountAvoidingUptoRow.holds Try.pinned (OpenSpec.upto fnExactCountAvoidingSpec)

/-- 'laws.FnExactExtensionsOf', WHERE WHAT IT READS IS OF BULK AT MOST 1048576: true; the input reads as it did. -/
def fnExactExtensionsOfUptoRow : OpenClaim := { program := "ythkkpdgadfhijaa", sum := "20a9ae6afe5dbd6fcecb994dabcc387f403ea5d3655cf82a7425c626b00341ed", func := "loop.example/g02079/laws.FnExactExtensionsOf", spec := "fnExactExtensionsOf", recurses := true, apart := false, narrowed := true }
def FnExactExtensionsOfUptoSaid : Prop := fnExactExtensionsOfUptoRow.holds Try.pinned (OpenSpec.upto fnExactExtensionsOfSpec)

/-- 'laws.FnExactIsUnavoidable', WHERE WHAT IT READS IS OF BULK AT MOST 1048576: true; the input reads as it did. -/
def fnExactIsUnavoidableUptoRow : OpenClaim := { program := "ythkkpdgadfhijaa", sum := "20a9ae6afe5dbd6fcecb994dabcc387f403ea5d3655cf82a7425c626b00341ed", func := "loop.example/g02079/laws.FnExactIsUnavoidable", spec := "fnExactIsUnavoidable", recurses := true, apart := false, narrowed := true }
def FnExactIsUnavoidableUptoSaid : Prop := fnExactIsUnavoidableUptoRow.holds Try.pinned (OpenSpec.upto fnExactIsUnavoidableSpec)

/-- 'laws.FnExactLongestAvoiding', WHERE WHAT IT READS IS OF BULK AT MOST 1048576: true; the input reads as it did. -/
def fnExactLongestAvoidingUptoRow : OpenClaim := { program := "ythkkpdgadfhijaa", sum := "20a9ae6afe5dbd6fcecb994dabcc387f403ea5d3655cf82a7425c626b00341ed", func := "loop.example/g02079/laws.FnExactLongestAvoiding", spec := "fnExactLongestAvoiding", recurses := true, apart := false, narrowed := true }
def FnExactLongestAvoidingUptoSaid : Prop := fnExactLongestAvoidingUptoRow.holds Try.pinned (OpenSpec.upto fnExactLongestAvoidingSpec)

/-- 'laws.FnExactLeastAvoiding', WHERE WHAT IT READS IS OF BULK AT MOST 1048576: true; the input reads as it did. -/
def fnExactLeastAvoidingUptoRow : OpenClaim := { program := "ythkkpdgadfhijaa", sum := "20a9ae6afe5dbd6fcecb994dabcc387f403ea5d3655cf82a7425c626b00341ed", func := "loop.example/g02079/laws.FnExactLeastAvoiding", spec := "fnExactLeastAvoiding", recurses := true, apart := false, narrowed := true }
def FnExactLeastAvoidingUptoSaid : Prop := fnExactLeastAvoidingUptoRow.holds Try.pinned (OpenSpec.upto fnExactLeastAvoidingSpec)

/-- 'laws.FnAvoidance', WHERE WHAT IT READS IS OF BULK AT MOST 1048576: true; the input reads as it did. -/
def fnAvoidanceUptoRow : OpenClaim := { program := "ythkkpdgadfhijaa", sum := "20a9ae6afe5dbd6fcecb994dabcc387f403ea5d3655cf82a7425c626b00341ed", func := "loop.example/g02079/laws.FnAvoidance", spec := "fnAvoidance", unfollowed := true, recurses := true, apart := false, narrowed := true }
def FnAvoidanceUptoSaid : Prop := fnAvoidanceUptoRow.holds Try.pinned (OpenSpec.upto fnAvoidanceSpec)

/-- 'laws.FnPatterns', WHERE WHAT IT READS IS OF BULK AT MOST 1048576: true; the input reads as it did. -/
def fnPatternsUptoRow : OpenClaim := { program := "ythkkpdgadfhijaa", sum := "20a9ae6afe5dbd6fcecb994dabcc387f403ea5d3655cf82a7425c626b00341ed", func := "loop.example/g02079/laws.FnPatterns", spec := "fnPatterns", recurses := true, apart := false, narrowed := true }
def FnPatternsUptoSaid : Prop := fnPatternsUptoRow.holds Try.pinned (OpenSpec.upto fnPatternsSpec)

/-- 'laws.FnExactClaimOfSequences', WHERE WHAT IT READS IS OF BULK AT MOST 1048576: true; the input reads as it did. -/
def fnExactClaimOfSequencesUptoRow : OpenClaim := { program := "ythkkpdgadfhijaa", sum := "20a9ae6afe5dbd6fcecb994dabcc387f403ea5d3655cf82a7425c626b00341ed", func := "loop.example/g02079/laws.FnExactClaimOfSequences", spec := "fnExactClaimOfSequences", unfollowed := true, recurses := true, apart := false, narrowed := true }
def FnExactClaimOfSequencesUptoSaid : Prop := fnExactClaimOfSequencesUptoRow.holds Try.pinned (OpenSpec.upto fnExactClaimOfSequencesSpec)

end Rows
end Go.Proofs.Ythkkpdgadfhijaa
