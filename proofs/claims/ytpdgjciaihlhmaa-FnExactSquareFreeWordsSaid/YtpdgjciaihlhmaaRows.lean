/-
  No cell of these rows narrows 'for every input' (looked for: loops, veiled, ifaces, maps, wideKeys, modest, calm, conditions, laid).
  DERIVED. THE GIVEN ROWS OF THIS SEAT. 12 by the template 'for every input the law returns true; each argument reads behind the call as it read before'; 0 by the template 'total and deterministic' (their statements: YtpdgjciaihlhmaaTotals.lean).
  GIVEN WITH THE SEED: the statements are not yours to turn. If you find one false, say at which input.
  Laid BY PROGRAM, IN A SANDBOX (cutbox-rows.mjs): the forced cells as the released guide's own fill.sh prints them over the translation decbaafd40164bda… (all of the seat's roots in one cut). By AI agents, Wed Nov 11 2026. No macro, syntax, notation, axiom, sorry.
-/
import Derived.Test.YtpdgjciaihlhmaaChecked
import GoSem.Claim
import GoSem.ClaimJoined
import GoSem.ClaimMapViews
import Derived.JoinedTies
import Derived.KernelRfl
namespace Go.Proofs.Ytpdgjciaihlhmaa
/- THE CELL 'sum', in the pinned program and in every row, IS THE sha256 OF THE DUMP (.gsa) THAT YtpdgjciaihlhmaaProg.lean LOADS. Nothing in Lean hashes anything: it is a label: what it is worth is what the hold of that sum in a sandbox is worth. -/
noncomputable def Try.pinned : Pinned := { name := "ytpdgjciaihlhmaa", sum := "decbaafd40164bda246ebf2746955a63562727ea5291da879b752099e9c8b8e5", checked := Try.checked }
namespace Rows
def none {H : Type} : Left H := { results := [], args := [] }

/-- 'laws.FnExactClaimWord': WHATEVER THE INPUT: true; the input reads as it did. -/
def fnExactClaimWordSpec : ChangeSpec := { name := "fnExactClaimWord", fn := fun _ => fun
  | [d] => { results := [.lit (.bool true)], args := [d] }
  | _ => none }
def fnExactClaimWordRow : OpenClaim := { program := "ytpdgjciaihlhmaa", sum := "decbaafd40164bda246ebf2746955a63562727ea5291da879b752099e9c8b8e5", func := "loop.example/g02079/laws.FnExactClaimWord", spec := "fnExactClaimWord", apart := false }
def FnExactClaimWordSaid : Prop := fnExactClaimWordRow.holds Try.pinned (OpenSpec.ofChange fnExactClaimWordSpec)

/-- ITS FALSE NEIGHBOUR: 'it returns false'. Refute it at one input. -/
def fnExactClaimWordWrong : ChangeSpec := { name := "fnExactClaimWord", fn := fun _ => fun
  | [d] => { results := [.lit (.bool false)], args := [d] }
  | _ => none }
def FnExactClaimWordWrongFalsely : Prop := fnExactClaimWordRow.holds Try.pinned (OpenSpec.ofChange fnExactClaimWordWrong)

/-- 'laws.FnExactThueMorphism': WHATEVER THE INPUT: true; the input reads as it did. -/
def fnExactThueMorphismSpec : ChangeSpec := { name := "fnExactThueMorphism", fn := fun _ => fun
  | [] => { results := [.lit (.bool true)], args := [] }
  | _ => none }
def fnExactThueMorphismRow : OpenClaim := { program := "ytpdgjciaihlhmaa", sum := "decbaafd40164bda246ebf2746955a63562727ea5291da879b752099e9c8b8e5", func := "loop.example/g02079/laws.FnExactThueMorphism", spec := "fnExactThueMorphism", apart := false }
def FnExactThueMorphismSaid : Prop := fnExactThueMorphismRow.holds Try.pinned (OpenSpec.ofChange fnExactThueMorphismSpec)

/-- ITS FALSE NEIGHBOUR: 'it returns false'. Refute it at one input. -/
def fnExactThueMorphismWrong : ChangeSpec := { name := "fnExactThueMorphism", fn := fun _ => fun
  | [] => { results := [.lit (.bool false)], args := [] }
  | _ => none }
def FnExactThueMorphismWrongFalsely : Prop := fnExactThueMorphismRow.holds Try.pinned (OpenSpec.ofChange fnExactThueMorphismWrong)

/-- 'laws.FnExactTernaryMorphism': WHATEVER THE INPUT: true; the input reads as it did. -/
def fnExactTernaryMorphismSpec : ChangeSpec := { name := "fnExactTernaryMorphism", fn := fun _ => fun
  | [] => { results := [.lit (.bool true)], args := [] }
  | _ => none }
def fnExactTernaryMorphismRow : OpenClaim := { program := "ytpdgjciaihlhmaa", sum := "decbaafd40164bda246ebf2746955a63562727ea5291da879b752099e9c8b8e5", func := "loop.example/g02079/laws.FnExactTernaryMorphism", spec := "fnExactTernaryMorphism", apart := false }
def FnExactTernaryMorphismSaid : Prop := fnExactTernaryMorphismRow.holds Try.pinned (OpenSpec.ofChange fnExactTernaryMorphismSpec)

/-- ITS FALSE NEIGHBOUR: 'it returns false'. Refute it at one input. -/
def fnExactTernaryMorphismWrong : ChangeSpec := { name := "fnExactTernaryMorphism", fn := fun _ => fun
  | [] => { results := [.lit (.bool false)], args := [] }
  | _ => none }
def FnExactTernaryMorphismWrongFalsely : Prop := fnExactTernaryMorphismRow.holds Try.pinned (OpenSpec.ofChange fnExactTernaryMorphismWrong)

/-- 'laws.FnExactPowerSums': WHATEVER THE INPUT: true; the input reads as it did. -/
def fnExactPowerSumsSpec : ChangeSpec := { name := "fnExactPowerSums", fn := fun _ => fun
  | [d1, d2] => { results := [.lit (.bool true)], args := [d1, d2] }
  | _ => none }
def fnExactPowerSumsRow : OpenClaim := { program := "ytpdgjciaihlhmaa", sum := "decbaafd40164bda246ebf2746955a63562727ea5291da879b752099e9c8b8e5", func := "loop.example/g02079/laws.FnExactPowerSums", spec := "fnExactPowerSums", apart := false }
def FnExactPowerSumsSaid : Prop := fnExactPowerSumsRow.holds Try.pinned (OpenSpec.ofChange fnExactPowerSumsSpec)

/-- ITS FALSE NEIGHBOUR: 'it returns false'. Refute it at one input. -/
def fnExactPowerSumsWrong : ChangeSpec := { name := "fnExactPowerSums", fn := fun _ => fun
  | [d1, d2] => { results := [.lit (.bool false)], args := [d1, d2] }
  | _ => none }
def FnExactPowerSumsWrongFalsely : Prop := fnExactPowerSumsRow.holds Try.pinned (OpenSpec.ofChange fnExactPowerSumsWrong)

/-- 'laws.FnExactCountOverlapFree': WHATEVER THE INPUT: true; the input reads as it did. -/
def fnExactCountOverlapFreeSpec : ChangeSpec := { name := "fnExactCountOverlapFree", fn := fun _ => fun
  | [d] => { results := [.lit (.bool true)], args := [d] }
  | _ => none }
def fnExactCountOverlapFreeRow : OpenClaim := { program := "ytpdgjciaihlhmaa", sum := "decbaafd40164bda246ebf2746955a63562727ea5291da879b752099e9c8b8e5", func := "loop.example/g02079/laws.FnExactCountOverlapFree", spec := "fnExactCountOverlapFree", unfollowed := true, recurses := true, apart := false }
def FnExactCountOverlapFreeSaid : Prop := fnExactCountOverlapFreeRow.holds Try.pinned (OpenSpec.ofChange fnExactCountOverlapFreeSpec)

/-- ITS FALSE NEIGHBOUR: 'it returns false'. Refute it at one input. -/
def fnExactCountOverlapFreeWrong : ChangeSpec := { name := "fnExactCountOverlapFree", fn := fun _ => fun
  | [d] => { results := [.lit (.bool false)], args := [d] }
  | _ => none }
def FnExactCountOverlapFreeWrongFalsely : Prop := fnExactCountOverlapFreeRow.holds Try.pinned (OpenSpec.ofChange fnExactCountOverlapFreeWrong)

/-- 'laws.FnExactThueClasses': WHATEVER THE INPUT: true; the input reads as it did. -/
def fnExactThueClassesSpec : ChangeSpec := { name := "fnExactThueClasses", fn := fun _ => fun
  | [d] => { results := [.lit (.bool true)], args := [d] }
  | _ => none }
def fnExactThueClassesRow : OpenClaim := { program := "ytpdgjciaihlhmaa", sum := "decbaafd40164bda246ebf2746955a63562727ea5291da879b752099e9c8b8e5", func := "loop.example/g02079/laws.FnExactThueClasses", spec := "fnExactThueClasses", apart := false }
def FnExactThueClassesSaid : Prop := fnExactThueClassesRow.holds Try.pinned (OpenSpec.ofChange fnExactThueClassesSpec)

/-- ITS FALSE NEIGHBOUR: 'it returns false'. Refute it at one input. -/
def fnExactThueClassesWrong : ChangeSpec := { name := "fnExactThueClasses", fn := fun _ => fun
  | [d] => { results := [.lit (.bool false)], args := [d] }
  | _ => none }
def FnExactThueClassesWrongFalsely : Prop := fnExactThueClassesRow.holds Try.pinned (OpenSpec.ofChange fnExactThueClassesWrong)

/-- 'laws.FnExactCountSquareFree': WHATEVER THE INPUT: true; the input reads as it did. -/
def fnExactCountSquareFreeSpec : ChangeSpec := { name := "fnExactCountSquareFree", fn := fun _ => fun
  | [d1, d2] => { results := [.lit (.bool true)], args := [d1, d2] }
  | _ => none }
def fnExactCountSquareFreeRow : OpenClaim := { program := "ytpdgjciaihlhmaa", sum := "decbaafd40164bda246ebf2746955a63562727ea5291da879b752099e9c8b8e5", func := "loop.example/g02079/laws.FnExactCountSquareFree", spec := "fnExactCountSquareFree", unfollowed := true, recurses := true, apart := false }
def FnExactCountSquareFreeSaid : Prop := fnExactCountSquareFreeRow.holds Try.pinned (OpenSpec.ofChange fnExactCountSquareFreeSpec)

/-- ITS FALSE NEIGHBOUR: 'it returns false'. Refute it at one input. -/
def fnExactCountSquareFreeWrong : ChangeSpec := { name := "fnExactCountSquareFree", fn := fun _ => fun
  | [d1, d2] => { results := [.lit (.bool false)], args := [d1, d2] }
  | _ => none }
def FnExactCountSquareFreeWrongFalsely : Prop := fnExactCountSquareFreeRow.holds Try.pinned (OpenSpec.ofChange fnExactCountSquareFreeWrong)

/-- 'laws.FnExactDigitClasses': WHATEVER THE INPUT: true; the input reads as it did. -/
def fnExactDigitClassesSpec : ChangeSpec := { name := "fnExactDigitClasses", fn := fun _ => fun
  | [d1, d2] => { results := [.lit (.bool true)], args := [d1, d2] }
  | _ => none }
def fnExactDigitClassesRow : OpenClaim := { program := "ytpdgjciaihlhmaa", sum := "decbaafd40164bda246ebf2746955a63562727ea5291da879b752099e9c8b8e5", func := "loop.example/g02079/laws.FnExactDigitClasses", spec := "fnExactDigitClasses", apart := false }
def FnExactDigitClassesSaid : Prop := fnExactDigitClassesRow.holds Try.pinned (OpenSpec.ofChange fnExactDigitClassesSpec)

/-- ITS FALSE NEIGHBOUR: 'it returns false'. Refute it at one input. -/
def fnExactDigitClassesWrong : ChangeSpec := { name := "fnExactDigitClasses", fn := fun _ => fun
  | [d1, d2] => { results := [.lit (.bool false)], args := [d1, d2] }
  | _ => none }
def FnExactDigitClassesWrongFalsely : Prop := fnExactDigitClassesRow.holds Try.pinned (OpenSpec.ofChange fnExactDigitClassesWrong)

/-- 'laws.FnExactShiftClasses': WHATEVER THE INPUT: true; the input reads as it did. -/
def fnExactShiftClassesSpec : ChangeSpec := { name := "fnExactShiftClasses", fn := fun _ => fun
  | [d1, d2] => { results := [.lit (.bool true)], args := [d1, d2] }
  | _ => none }
def fnExactShiftClassesRow : OpenClaim := { program := "ytpdgjciaihlhmaa", sum := "decbaafd40164bda246ebf2746955a63562727ea5291da879b752099e9c8b8e5", func := "loop.example/g02079/laws.FnExactShiftClasses", spec := "fnExactShiftClasses", apart := false }
def FnExactShiftClassesSaid : Prop := fnExactShiftClassesRow.holds Try.pinned (OpenSpec.ofChange fnExactShiftClassesSpec)

/-- ITS FALSE NEIGHBOUR: 'it returns false'. Refute it at one input. -/
def fnExactShiftClassesWrong : ChangeSpec := { name := "fnExactShiftClasses", fn := fun _ => fun
  | [d1, d2] => { results := [.lit (.bool false)], args := [d1, d2] }
  | _ => none }
def FnExactShiftClassesWrongFalsely : Prop := fnExactShiftClassesRow.holds Try.pinned (OpenSpec.ofChange fnExactShiftClassesWrong)

/-- 'laws.FnExactAreEqualSums': WHATEVER THE INPUT: true; the input reads as it did. -/
def fnExactAreEqualSumsSpec : ChangeSpec := { name := "fnExactAreEqualSums", fn := fun _ => fun
  | [d1, d2] => { results := [.lit (.bool true)], args := [d1, d2] }
  | _ => none }
def fnExactAreEqualSumsRow : OpenClaim := { program := "ytpdgjciaihlhmaa", sum := "decbaafd40164bda246ebf2746955a63562727ea5291da879b752099e9c8b8e5", func := "loop.example/g02079/laws.FnExactAreEqualSums", spec := "fnExactAreEqualSums", apart := false }
def FnExactAreEqualSumsSaid : Prop := fnExactAreEqualSumsRow.holds Try.pinned (OpenSpec.ofChange fnExactAreEqualSumsSpec)

/-- ITS FALSE NEIGHBOUR: 'it returns false'. Refute it at one input. -/
def fnExactAreEqualSumsWrong : ChangeSpec := { name := "fnExactAreEqualSums", fn := fun _ => fun
  | [d1, d2] => { results := [.lit (.bool false)], args := [d1, d2] }
  | _ => none }
def FnExactAreEqualSumsWrongFalsely : Prop := fnExactAreEqualSumsRow.holds Try.pinned (OpenSpec.ofChange fnExactAreEqualSumsWrong)

/-- 'laws.FnExactSquareFreeWords': WHATEVER THE INPUT: true; the input reads as it did. -/
def fnExactSquareFreeWordsSpec : ChangeSpec := { name := "fnExactSquareFreeWords", fn := fun _ => fun
  | [d1, d2] => { results := [.lit (.bool true)], args := [d1, d2] }
  | _ => none }
def fnExactSquareFreeWordsRow : OpenClaim := { program := "ytpdgjciaihlhmaa", sum := "decbaafd40164bda246ebf2746955a63562727ea5291da879b752099e9c8b8e5", func := "loop.example/g02079/laws.FnExactSquareFreeWords", spec := "fnExactSquareFreeWords", unfollowed := true, recurses := true, apart := false }
def FnExactSquareFreeWordsSaid : Prop := fnExactSquareFreeWordsRow.holds Try.pinned (OpenSpec.ofChange fnExactSquareFreeWordsSpec)

/-- ITS FALSE NEIGHBOUR: 'it returns false'. Refute it at one input. -/
def fnExactSquareFreeWordsWrong : ChangeSpec := { name := "fnExactSquareFreeWords", fn := fun _ => fun
  | [d1, d2] => { results := [.lit (.bool false)], args := [d1, d2] }
  | _ => none }
def FnExactSquareFreeWordsWrongFalsely : Prop := fnExactSquareFreeWordsRow.holds Try.pinned (OpenSpec.ofChange fnExactSquareFreeWordsWrong)

/-- 'laws.FnExactProuhetDegree': WHATEVER THE INPUT: true; the input reads as it did. -/
def fnExactProuhetDegreeSpec : ChangeSpec := { name := "fnExactProuhetDegree", fn := fun _ => fun
  | [d] => { results := [.lit (.bool true)], args := [d] }
  | _ => none }
def fnExactProuhetDegreeRow : OpenClaim := { program := "ytpdgjciaihlhmaa", sum := "decbaafd40164bda246ebf2746955a63562727ea5291da879b752099e9c8b8e5", func := "loop.example/g02079/laws.FnExactProuhetDegree", spec := "fnExactProuhetDegree", apart := false }
def FnExactProuhetDegreeSaid : Prop := fnExactProuhetDegreeRow.holds Try.pinned (OpenSpec.ofChange fnExactProuhetDegreeSpec)

/-- ITS FALSE NEIGHBOUR: 'it returns false'. Refute it at one input. -/
def fnExactProuhetDegreeWrong : ChangeSpec := { name := "fnExactProuhetDegree", fn := fun _ => fun
  | [d] => { results := [.lit (.bool false)], args := [d] }
  | _ => none }
def FnExactProuhetDegreeWrongFalsely : Prop := fnExactProuhetDegreeRow.holds Try.pinned (OpenSpec.ofChange fnExactProuhetDegreeWrong)

/- THE SECOND FORM. 'bulk': how many values and letters a reading holds, each counted each time it is reached (what is shared counts as often as it is met; a slice's spare places count too). A statement '..UptoSaid' is the law's where the arguments, and the package variables that the reading takes, are together of bulk at most 1048576: NARROWER than '..Said'. Prove '..Said' where nothing that the law and all that it calls make is longer than what came in: it says more and counts as full. Else prove '..UptoSaid'. A law counts once. -/
mutual
def uptoBulk {H : Type} : DataW H → Nat
  | .lit (.string bytes) => bytes.length + 1
  | .lit _ => 1
  | .nil => 1
  | .ptr d => uptoBulk d + 1
  | .slice elems spare => uptoBulkAll elems + uptoBulkAll spare + 1
  | .agg parts => uptoBulkAll parts + 1
  | .iface _ d => uptoBulk d + 1
  | .map entries => uptoBulkEntries entries + 1
  | .held _ => 1
def uptoBulkAll {H : Type} : List (DataW H) → Nat
  | [] => 0
  | d :: r => uptoBulk d + uptoBulkAll r
def uptoBulkEntries {H : Type} : List (Lit × DataW H) → Nat
  | [] => 0
  | x :: r => uptoBulkEntry x + uptoBulkEntries r
def uptoBulkEntry {H : Type} : Lit × DataW H → Nat
  | (.string bytes, d) => bytes.length + uptoBulk d + 1
  | (_, d) => uptoBulk d + 1
 end
def uptoSmall : (H : Type) → List (DataW H) → Bool := fun _ ds => decide (uptoBulkAll ds ≤ 1048576)
def OpenSpec.upto (s : _root_.Go.ChangeSpec) : _root_.Go.OpenSpec := { _root_.Go.OpenSpec.ofChange s with cond := some uptoSmall }

/-- 'laws.FnExactClaimWord', WHERE WHAT IT READS IS OF BULK AT MOST 1048576: true; the input reads as it did. -/
def fnExactClaimWordUptoRow : OpenClaim := { program := "ytpdgjciaihlhmaa", sum := "decbaafd40164bda246ebf2746955a63562727ea5291da879b752099e9c8b8e5", func := "loop.example/g02079/laws.FnExactClaimWord", spec := "fnExactClaimWord", apart := false, narrowed := true }
def FnExactClaimWordUptoSaid : Prop := fnExactClaimWordUptoRow.holds Try.pinned (OpenSpec.upto fnExactClaimWordSpec)

/-- 'laws.FnExactThueMorphism', WHERE WHAT IT READS IS OF BULK AT MOST 1048576: true; the input reads as it did. -/
def fnExactThueMorphismUptoRow : OpenClaim := { program := "ytpdgjciaihlhmaa", sum := "decbaafd40164bda246ebf2746955a63562727ea5291da879b752099e9c8b8e5", func := "loop.example/g02079/laws.FnExactThueMorphism", spec := "fnExactThueMorphism", apart := false, narrowed := true }
def FnExactThueMorphismUptoSaid : Prop := fnExactThueMorphismUptoRow.holds Try.pinned (OpenSpec.upto fnExactThueMorphismSpec)

/-- 'laws.FnExactTernaryMorphism', WHERE WHAT IT READS IS OF BULK AT MOST 1048576: true; the input reads as it did. -/
def fnExactTernaryMorphismUptoRow : OpenClaim := { program := "ytpdgjciaihlhmaa", sum := "decbaafd40164bda246ebf2746955a63562727ea5291da879b752099e9c8b8e5", func := "loop.example/g02079/laws.FnExactTernaryMorphism", spec := "fnExactTernaryMorphism", apart := false, narrowed := true }
def FnExactTernaryMorphismUptoSaid : Prop := fnExactTernaryMorphismUptoRow.holds Try.pinned (OpenSpec.upto fnExactTernaryMorphismSpec)

/-- 'laws.FnExactPowerSums', WHERE WHAT IT READS IS OF BULK AT MOST 1048576: true; the input reads as it did. -/
def fnExactPowerSumsUptoRow : OpenClaim := { program := "ytpdgjciaihlhmaa", sum := "decbaafd40164bda246ebf2746955a63562727ea5291da879b752099e9c8b8e5", func := "loop.example/g02079/laws.FnExactPowerSums", spec := "fnExactPowerSums", apart := false, narrowed := true }
def FnExactPowerSumsUptoSaid : Prop := fnExactPowerSumsUptoRow.holds Try.pinned (OpenSpec.upto fnExactPowerSumsSpec)

/-- 'laws.FnExactCountOverlapFree', WHERE WHAT IT READS IS OF BULK AT MOST 1048576: true; the input reads as it did. -/
def fnExactCountOverlapFreeUptoRow : OpenClaim := { program := "ytpdgjciaihlhmaa", sum := "decbaafd40164bda246ebf2746955a63562727ea5291da879b752099e9c8b8e5", func := "loop.example/g02079/laws.FnExactCountOverlapFree", spec := "fnExactCountOverlapFree", unfollowed := true, recurses := true, apart := false, narrowed := true }
def FnExactCountOverlapFreeUptoSaid : Prop := fnExactCountOverlapFreeUptoRow.holds Try.pinned (OpenSpec.upto fnExactCountOverlapFreeSpec)

/-- 'laws.FnExactThueClasses', WHERE WHAT IT READS IS OF BULK AT MOST 1048576: true; the input reads as it did. -/
def fnExactThueClassesUptoRow : OpenClaim := { program := "ytpdgjciaihlhmaa", sum := "decbaafd40164bda246ebf2746955a63562727ea5291da879b752099e9c8b8e5", func := "loop.example/g02079/laws.FnExactThueClasses", spec := "fnExactThueClasses", apart := false, narrowed := true }
def FnExactThueClassesUptoSaid : Prop := fnExactThueClassesUptoRow.holds Try.pinned (OpenSpec.upto fnExactThueClassesSpec)

/-- 'laws.FnExactCountSquareFree', WHERE WHAT IT READS IS OF BULK AT MOST 1048576: true; the input reads as it did. -/
def fnExactCountSquareFreeUptoRow : OpenClaim := { program := "ytpdgjciaihlhmaa", sum := "decbaafd40164bda246ebf2746955a63562727ea5291da879b752099e9c8b8e5", func := "loop.example/g02079/laws.FnExactCountSquareFree", spec := "fnExactCountSquareFree", unfollowed := true, recurses := true, apart := false, narrowed := true }
def FnExactCountSquareFreeUptoSaid : Prop := fnExactCountSquareFreeUptoRow.holds Try.pinned (OpenSpec.upto fnExactCountSquareFreeSpec)

/-- 'laws.FnExactDigitClasses', WHERE WHAT IT READS IS OF BULK AT MOST 1048576: true; the input reads as it did. -/
def fnExactDigitClassesUptoRow : OpenClaim := { program := "ytpdgjciaihlhmaa", sum := "decbaafd40164bda246ebf2746955a63562727ea5291da879b752099e9c8b8e5", func := "loop.example/g02079/laws.FnExactDigitClasses", spec := "fnExactDigitClasses", apart := false, narrowed := true }
def FnExactDigitClassesUptoSaid : Prop := fnExactDigitClassesUptoRow.holds Try.pinned (OpenSpec.upto fnExactDigitClassesSpec)

/-- 'laws.FnExactShiftClasses', WHERE WHAT IT READS IS OF BULK AT MOST 1048576: true; the input reads as it did. -/
def fnExactShiftClassesUptoRow : OpenClaim := { program := "ytpdgjciaihlhmaa", sum := "decbaafd40164bda246ebf2746955a63562727ea5291da879b752099e9c8b8e5", func := "loop.example/g02079/laws.FnExactShiftClasses", spec := "fnExactShiftClasses", apart := false, narrowed := true }
def FnExactShiftClassesUptoSaid : Prop := fnExactShiftClassesUptoRow.holds Try.pinned (OpenSpec.upto fnExactShiftClassesSpec)

/-- 'laws.FnExactAreEqualSums', WHERE WHAT IT READS IS OF BULK AT MOST 1048576: true; the input reads as it did. -/
def fnExactAreEqualSumsUptoRow : OpenClaim := { program := "ytpdgjciaihlhmaa", sum := "decbaafd40164bda246ebf2746955a63562727ea5291da879b752099e9c8b8e5", func := "loop.example/g02079/laws.FnExactAreEqualSums", spec := "fnExactAreEqualSums", apart := false, narrowed := true }
def FnExactAreEqualSumsUptoSaid : Prop := fnExactAreEqualSumsUptoRow.holds Try.pinned (OpenSpec.upto fnExactAreEqualSumsSpec)

/-- 'laws.FnExactSquareFreeWords', WHERE WHAT IT READS IS OF BULK AT MOST 1048576: true; the input reads as it did. -/
def fnExactSquareFreeWordsUptoRow : OpenClaim := { program := "ytpdgjciaihlhmaa", sum := "decbaafd40164bda246ebf2746955a63562727ea5291da879b752099e9c8b8e5", func := "loop.example/g02079/laws.FnExactSquareFreeWords", spec := "fnExactSquareFreeWords", unfollowed := true, recurses := true, apart := false, narrowed := true }
def FnExactSquareFreeWordsUptoSaid : Prop := fnExactSquareFreeWordsUptoRow.holds Try.pinned (OpenSpec.upto fnExactSquareFreeWordsSpec)

/-- 'laws.FnExactProuhetDegree', WHERE WHAT IT READS IS OF BULK AT MOST 1048576: true; the input reads as it did. -/
def fnExactProuhetDegreeUptoRow : OpenClaim := { program := "ytpdgjciaihlhmaa", sum := "decbaafd40164bda246ebf2746955a63562727ea5291da879b752099e9c8b8e5", func := "loop.example/g02079/laws.FnExactProuhetDegree", spec := "fnExactProuhetDegree", apart := false, narrowed := true }
def FnExactProuhetDegreeUptoSaid : Prop := fnExactProuhetDegreeUptoRow.holds Try.pinned (OpenSpec.upto fnExactProuhetDegreeSpec)

end Rows
end Go.Proofs.Ytpdgjciaihlhmaa
