/-
  No cell of these rows narrows 'for every input' (looked for: loops, veiled, ifaces, maps, wideKeys, modest, calm, conditions, laid).
  DERIVED. THE GIVEN ROWS OF THIS SEAT. 12 by the template 'for every input the law returns true; each argument reads behind the call as it read before'; 0 by the template 'total and deterministic' (their statements: YtooamcjgejajeaaTotals.lean).
  GIVEN WITH THE SEED: the statements are not yours to turn. If you find one false, say at which input.
  Laid BY PROGRAM, IN A SANDBOX (cutbox-rows.mjs): the forced cells as the released guide's own fill.sh prints them over the translation b8d5cb7fc9a1802b… (all of the seat's roots in one cut). By AI agents, Wed Nov 11 2026. No macro, syntax, notation, axiom, sorry.
-/
import Derived.Test.YtooamcjgejajeaaChecked
import GoSem.Claim
import GoSem.ClaimJoined
import GoSem.ClaimMapViews
import Derived.JoinedTies
import Derived.KernelRfl
namespace Go.Proofs.Ytooamcjgejajeaa
/- THE CELL 'sum', in the pinned program and in every row, IS THE sha256 OF THE DUMP (.gsa) THAT YtooamcjgejajeaaProg.lean LOADS. Nothing in Lean hashes anything: it is a label: what it is worth is what the hold of that sum in a sandbox is worth. -/
noncomputable def Try.pinned : Pinned := { name := "ytooamcjgejajeaa", sum := "b8d5cb7fc9a1802b3abe5b1427ab721336cfbcc1f4a284ab1f9bde37501559ad", checked := Try.checked }
namespace Rows
def none {H : Type} : Left H := { results := [], args := [] }

/-- 'laws.FnExactIncidenceOf': WHATEVER THE INPUT: true; the input reads as it did. -/
def fnExactIncidenceOfSpec : ChangeSpec := { name := "fnExactIncidenceOf", fn := fun _ => fun
  | [d] => { results := [.lit (.bool true)], args := [d] }
  | _ => none }
def fnExactIncidenceOfRow : OpenClaim := { program := "ytooamcjgejajeaa", sum := "b8d5cb7fc9a1802b3abe5b1427ab721336cfbcc1f4a284ab1f9bde37501559ad", func := "loop.example/g02079/laws.FnExactIncidenceOf", spec := "fnExactIncidenceOf", apart := false }
def FnExactIncidenceOfSaid : Prop := fnExactIncidenceOfRow.holds Try.pinned (OpenSpec.ofChange fnExactIncidenceOfSpec)

/-- ITS FALSE NEIGHBOUR: 'it returns false'. Refute it at one input. -/
def fnExactIncidenceOfWrong : ChangeSpec := { name := "fnExactIncidenceOf", fn := fun _ => fun
  | [d] => { results := [.lit (.bool false)], args := [d] }
  | _ => none }
def FnExactIncidenceOfWrongFalsely : Prop := fnExactIncidenceOfRow.holds Try.pinned (OpenSpec.ofChange fnExactIncidenceOfWrong)

/-- 'laws.FnExactIsPrimitiveMorphism': WHATEVER THE INPUT: true; the input reads as it did. -/
def fnExactIsPrimitiveMorphismSpec : ChangeSpec := { name := "fnExactIsPrimitiveMorphism", fn := fun _ => fun
  | [d] => { results := [.lit (.bool true)], args := [d] }
  | _ => none }
def fnExactIsPrimitiveMorphismRow : OpenClaim := { program := "ytooamcjgejajeaa", sum := "b8d5cb7fc9a1802b3abe5b1427ab721336cfbcc1f4a284ab1f9bde37501559ad", func := "loop.example/g02079/laws.FnExactIsPrimitiveMorphism", spec := "fnExactIsPrimitiveMorphism", apart := false }
def FnExactIsPrimitiveMorphismSaid : Prop := fnExactIsPrimitiveMorphismRow.holds Try.pinned (OpenSpec.ofChange fnExactIsPrimitiveMorphismSpec)

/-- ITS FALSE NEIGHBOUR: 'it returns false'. Refute it at one input. -/
def fnExactIsPrimitiveMorphismWrong : ChangeSpec := { name := "fnExactIsPrimitiveMorphism", fn := fun _ => fun
  | [d] => { results := [.lit (.bool false)], args := [d] }
  | _ => none }
def FnExactIsPrimitiveMorphismWrongFalsely : Prop := fnExactIsPrimitiveMorphismRow.holds Try.pinned (OpenSpec.ofChange fnExactIsPrimitiveMorphismWrong)

/-- 'laws.FnExactLettersAfter': WHATEVER THE INPUT: true; the input reads as it did. -/
def fnExactLettersAfterSpec : ChangeSpec := { name := "fnExactLettersAfter", fn := fun _ => fun
  | [d1, d2, d3] => { results := [.lit (.bool true)], args := [d1, d2, d3] }
  | _ => none }
def fnExactLettersAfterRow : OpenClaim := { program := "ytooamcjgejajeaa", sum := "b8d5cb7fc9a1802b3abe5b1427ab721336cfbcc1f4a284ab1f9bde37501559ad", func := "loop.example/g02079/laws.FnExactLettersAfter", spec := "fnExactLettersAfter", apart := false }
def FnExactLettersAfterSaid : Prop := fnExactLettersAfterRow.holds Try.pinned (OpenSpec.ofChange fnExactLettersAfterSpec)

/-- ITS FALSE NEIGHBOUR: 'it returns false'. Refute it at one input. -/
def fnExactLettersAfterWrong : ChangeSpec := { name := "fnExactLettersAfter", fn := fun _ => fun
  | [d1, d2, d3] => { results := [.lit (.bool false)], args := [d1, d2, d3] }
  | _ => none }
def FnExactLettersAfterWrongFalsely : Prop := fnExactLettersAfterRow.holds Try.pinned (OpenSpec.ofChange fnExactLettersAfterWrong)

/-- 'laws.FnExactImageLengths': WHATEVER THE INPUT: true; the input reads as it did. -/
def fnExactImageLengthsSpec : ChangeSpec := { name := "fnExactImageLengths", fn := fun _ => fun
  | [d1, d2] => { results := [.lit (.bool true)], args := [d1, d2] }
  | _ => none }
def fnExactImageLengthsRow : OpenClaim := { program := "ytooamcjgejajeaa", sum := "b8d5cb7fc9a1802b3abe5b1427ab721336cfbcc1f4a284ab1f9bde37501559ad", func := "loop.example/g02079/laws.FnExactImageLengths", spec := "fnExactImageLengths", apart := false }
def FnExactImageLengthsSaid : Prop := fnExactImageLengthsRow.holds Try.pinned (OpenSpec.ofChange fnExactImageLengthsSpec)

/-- ITS FALSE NEIGHBOUR: 'it returns false'. Refute it at one input. -/
def fnExactImageLengthsWrong : ChangeSpec := { name := "fnExactImageLengths", fn := fun _ => fun
  | [d1, d2] => { results := [.lit (.bool false)], args := [d1, d2] }
  | _ => none }
def FnExactImageLengthsWrongFalsely : Prop := fnExactImageLengthsRow.holds Try.pinned (OpenSpec.ofChange fnExactImageLengthsWrong)

/-- 'laws.FnExactKeepsOverlapFree': WHATEVER THE INPUT: true; the input reads as it did. -/
def fnExactKeepsOverlapFreeSpec : ChangeSpec := { name := "fnExactKeepsOverlapFree", fn := fun _ => fun
  | [d1, d2] => { results := [.lit (.bool true)], args := [d1, d2] }
  | _ => none }
def fnExactKeepsOverlapFreeRow : OpenClaim := { program := "ytooamcjgejajeaa", sum := "b8d5cb7fc9a1802b3abe5b1427ab721336cfbcc1f4a284ab1f9bde37501559ad", func := "loop.example/g02079/laws.FnExactKeepsOverlapFree", spec := "fnExactKeepsOverlapFree", unfollowed := true, recurses := true, apart := false }
def FnExactKeepsOverlapFreeSaid : Prop := fnExactKeepsOverlapFreeRow.holds Try.pinned (OpenSpec.ofChange fnExactKeepsOverlapFreeSpec)

/-- ITS FALSE NEIGHBOUR: 'it returns false'. Refute it at one input. -/
def fnExactKeepsOverlapFreeWrong : ChangeSpec := { name := "fnExactKeepsOverlapFree", fn := fun _ => fun
  | [d1, d2] => { results := [.lit (.bool false)], args := [d1, d2] }
  | _ => none }
def FnExactKeepsOverlapFreeWrongFalsely : Prop := fnExactKeepsOverlapFreeRow.holds Try.pinned (OpenSpec.ofChange fnExactKeepsOverlapFreeWrong)

/-- 'laws.FnExactKeepsSquareFree': WHATEVER THE INPUT: true; the input reads as it did. -/
def fnExactKeepsSquareFreeSpec : ChangeSpec := { name := "fnExactKeepsSquareFree", fn := fun _ => fun
  | [d1, d2] => { results := [.lit (.bool true)], args := [d1, d2] }
  | _ => none }
def fnExactKeepsSquareFreeRow : OpenClaim := { program := "ytooamcjgejajeaa", sum := "b8d5cb7fc9a1802b3abe5b1427ab721336cfbcc1f4a284ab1f9bde37501559ad", func := "loop.example/g02079/laws.FnExactKeepsSquareFree", spec := "fnExactKeepsSquareFree", unfollowed := true, recurses := true, apart := false }
def FnExactKeepsSquareFreeSaid : Prop := fnExactKeepsSquareFreeRow.holds Try.pinned (OpenSpec.ofChange fnExactKeepsSquareFreeSpec)

/-- ITS FALSE NEIGHBOUR: 'it returns false'. Refute it at one input. -/
def fnExactKeepsSquareFreeWrong : ChangeSpec := { name := "fnExactKeepsSquareFree", fn := fun _ => fun
  | [d1, d2] => { results := [.lit (.bool false)], args := [d1, d2] }
  | _ => none }
def FnExactKeepsSquareFreeWrongFalsely : Prop := fnExactKeepsSquareFreeRow.holds Try.pinned (OpenSpec.ofChange fnExactKeepsSquareFreeWrong)

/-- 'laws.FnExactBrokenWord': WHATEVER THE INPUT: true; the input reads as it did. -/
def fnExactBrokenWordSpec : ChangeSpec := { name := "fnExactBrokenWord", fn := fun _ => fun
  | [d1, d2] => { results := [.lit (.bool true)], args := [d1, d2] }
  | _ => none }
def fnExactBrokenWordRow : OpenClaim := { program := "ytooamcjgejajeaa", sum := "b8d5cb7fc9a1802b3abe5b1427ab721336cfbcc1f4a284ab1f9bde37501559ad", func := "loop.example/g02079/laws.FnExactBrokenWord", spec := "fnExactBrokenWord", unfollowed := true, recurses := true, apart := false }
def FnExactBrokenWordSaid : Prop := fnExactBrokenWordRow.holds Try.pinned (OpenSpec.ofChange fnExactBrokenWordSpec)

/-- ITS FALSE NEIGHBOUR: 'it returns false'. Refute it at one input. -/
def fnExactBrokenWordWrong : ChangeSpec := { name := "fnExactBrokenWord", fn := fun _ => fun
  | [d1, d2] => { results := [.lit (.bool false)], args := [d1, d2] }
  | _ => none }
def FnExactBrokenWordWrongFalsely : Prop := fnExactBrokenWordRow.holds Try.pinned (OpenSpec.ofChange fnExactBrokenWordWrong)

/-- 'laws.FnExactIsSquareFreeMorphism': WHATEVER THE INPUT: true; the input reads as it did. -/
def fnExactIsSquareFreeMorphismSpec : ChangeSpec := { name := "fnExactIsSquareFreeMorphism", fn := fun _ => fun
  | [d] => { results := [.lit (.bool true)], args := [d] }
  | _ => none }
def fnExactIsSquareFreeMorphismRow : OpenClaim := { program := "ytooamcjgejajeaa", sum := "b8d5cb7fc9a1802b3abe5b1427ab721336cfbcc1f4a284ab1f9bde37501559ad", func := "loop.example/g02079/laws.FnExactIsSquareFreeMorphism", spec := "fnExactIsSquareFreeMorphism", unfollowed := true, recurses := true, apart := false }
def FnExactIsSquareFreeMorphismSaid : Prop := fnExactIsSquareFreeMorphismRow.holds Try.pinned (OpenSpec.ofChange fnExactIsSquareFreeMorphismSpec)

/-- ITS FALSE NEIGHBOUR: 'it returns false'. Refute it at one input. -/
def fnExactIsSquareFreeMorphismWrong : ChangeSpec := { name := "fnExactIsSquareFreeMorphism", fn := fun _ => fun
  | [d] => { results := [.lit (.bool false)], args := [d] }
  | _ => none }
def FnExactIsSquareFreeMorphismWrongFalsely : Prop := fnExactIsSquareFreeMorphismRow.holds Try.pinned (OpenSpec.ofChange fnExactIsSquareFreeMorphismWrong)

/-- 'laws.FnFree': WHATEVER THE INPUT: true; the input reads as it did. -/
def fnFreeSpec : ChangeSpec := { name := "fnFree", fn := fun _ => fun
  | [d] => { results := [.lit (.bool true)], args := [d] }
  | _ => none }
def fnFreeRow : OpenClaim := { program := "ytooamcjgejajeaa", sum := "b8d5cb7fc9a1802b3abe5b1427ab721336cfbcc1f4a284ab1f9bde37501559ad", func := "loop.example/g02079/laws.FnFree", spec := "fnFree", unfollowed := true, recurses := true, apart := false }
def FnFreeSaid : Prop := fnFreeRow.holds Try.pinned (OpenSpec.ofChange fnFreeSpec)

/-- ITS FALSE NEIGHBOUR: 'it returns false'. Refute it at one input. -/
def fnFreeWrong : ChangeSpec := { name := "fnFree", fn := fun _ => fun
  | [d] => { results := [.lit (.bool false)], args := [d] }
  | _ => none }
def FnFreeWrongFalsely : Prop := fnFreeRow.holds Try.pinned (OpenSpec.ofChange fnFreeWrong)

/-- 'laws.FnGrowth': WHATEVER THE INPUT: true; the input reads as it did. -/
def fnGrowthSpec : ChangeSpec := { name := "fnGrowth", fn := fun _ => fun
  | [d] => { results := [.lit (.bool true)], args := [d] }
  | _ => none }
def fnGrowthRow : OpenClaim := { program := "ytooamcjgejajeaa", sum := "b8d5cb7fc9a1802b3abe5b1427ab721336cfbcc1f4a284ab1f9bde37501559ad", func := "loop.example/g02079/laws.FnGrowth", spec := "fnGrowth", unfollowed := true, recurses := true, apart := false }
def FnGrowthSaid : Prop := fnGrowthRow.holds Try.pinned (OpenSpec.ofChange fnGrowthSpec)

/-- ITS FALSE NEIGHBOUR: 'it returns false'. Refute it at one input. -/
def fnGrowthWrong : ChangeSpec := { name := "fnGrowth", fn := fun _ => fun
  | [d] => { results := [.lit (.bool false)], args := [d] }
  | _ => none }
def FnGrowthWrongFalsely : Prop := fnGrowthRow.holds Try.pinned (OpenSpec.ofChange fnGrowthWrong)

/-- 'laws.FnProuhet': WHATEVER THE INPUT: true; the input reads as it did. -/
def fnProuhetSpec : ChangeSpec := { name := "fnProuhet", fn := fun _ => fun
  | [d] => { results := [.lit (.bool true)], args := [d] }
  | _ => none }
def fnProuhetRow : OpenClaim := { program := "ytooamcjgejajeaa", sum := "b8d5cb7fc9a1802b3abe5b1427ab721336cfbcc1f4a284ab1f9bde37501559ad", func := "loop.example/g02079/laws.FnProuhet", spec := "fnProuhet", apart := false }
def FnProuhetSaid : Prop := fnProuhetRow.holds Try.pinned (OpenSpec.ofChange fnProuhetSpec)

/-- ITS FALSE NEIGHBOUR: 'it returns false'. Refute it at one input. -/
def fnProuhetWrong : ChangeSpec := { name := "fnProuhet", fn := fun _ => fun
  | [d] => { results := [.lit (.bool false)], args := [d] }
  | _ => none }
def FnProuhetWrongFalsely : Prop := fnProuhetRow.holds Try.pinned (OpenSpec.ofChange fnProuhetWrong)

/-- 'laws.FnMorphisms': WHATEVER THE INPUT: true; the input reads as it did. -/
def fnMorphismsSpec : ChangeSpec := { name := "fnMorphisms", fn := fun _ => fun
  | [d] => { results := [.lit (.bool true)], args := [d] }
  | _ => none }
def fnMorphismsRow : OpenClaim := { program := "ytooamcjgejajeaa", sum := "b8d5cb7fc9a1802b3abe5b1427ab721336cfbcc1f4a284ab1f9bde37501559ad", func := "loop.example/g02079/laws.FnMorphisms", spec := "fnMorphisms", unfollowed := true, recurses := true, apart := false }
def FnMorphismsSaid : Prop := fnMorphismsRow.holds Try.pinned (OpenSpec.ofChange fnMorphismsSpec)

/-- ITS FALSE NEIGHBOUR: 'it returns false'. Refute it at one input. -/
def fnMorphismsWrong : ChangeSpec := { name := "fnMorphisms", fn := fun _ => fun
  | [d] => { results := [.lit (.bool false)], args := [d] }
  | _ => none }
def FnMorphismsWrongFalsely : Prop := fnMorphismsRow.holds Try.pinned (OpenSpec.ofChange fnMorphismsWrong)

/- THE SECOND FORM. 'bulk': how many values and letters a reading holds, each counted each time it is reached (what is shared counts as often as it is met; a slice's spare places count too). A statement '..UptoSaid' is the law's where the arguments, and the package variables that the reading takes, are together of bulk at most 1048576: NARROWER than '..Said'. Prove '..Said' where nothing that the law and all that it calls make is longer than what came in: it says more and counts as full. Else prove '..UptoSaid'. A law counts once. -/
mutual
def uptoBulk {H : Type} : DataW H → Nat
  | .lit (.string bytes) => bytes.length + 1
  | .lit _ => 1
  | .nil => 1
  | .ptr d => uptoBulk d + 1
  | .slice elems spare => uptoBulkAll elems + uptoBulkAll spare + 1
  | .agg parts => uptoBulkAll parts + 1
  | .iface _ d => uptoBulk d + 1
  | .map entries => uptoBulkEntries entries + 1
  | .held _ => 1
def uptoBulkAll {H : Type} : List (DataW H) → Nat
  | [] => 0
  | d :: r => uptoBulk d + uptoBulkAll r
def uptoBulkEntries {H : Type} : List (Lit × DataW H) → Nat
  | [] => 0
  | x :: r => uptoBulkEntry x + uptoBulkEntries r
def uptoBulkEntry {H : Type} : Lit × DataW H → Nat
  | (.string bytes, d) => bytes.length + uptoBulk d + 1
  | (_, d) => uptoBulk d + 1
 end
def uptoSmall : (H : Type) → List (DataW H) → Bool := fun _ ds => decide (uptoBulkAll ds ≤ 1048576)
def OpenSpec.upto (s : _root_.Go.ChangeSpec) : _root_.Go.OpenSpec := { _root_.Go.OpenSpec.ofChange s with cond := some uptoSmall }

/-- 'laws.FnExactIncidenceOf', WHERE WHAT IT READS IS OF BULK AT MOST 1048576: true; the input reads as it did. -/
def fnExactIncidenceOfUptoRow : OpenClaim := { program := "ytooamcjgejajeaa", sum := "b8d5cb7fc9a1802b3abe5b1427ab721336cfbcc1f4a284ab1f9bde37501559ad", func := "loop.example/g02079/laws.FnExactIncidenceOf", spec := "fnExactIncidenceOf", apart := false, narrowed := true }
def FnExactIncidenceOfUptoSaid : Prop := fnExactIncidenceOfUptoRow.holds Try.pinned (OpenSpec.upto fnExactIncidenceOfSpec)

/-- 'laws.FnExactIsPrimitiveMorphism', WHERE WHAT IT READS IS OF BULK AT MOST 1048576: true; the input reads as it did. -/
def fnExactIsPrimitiveMorphismUptoRow : OpenClaim := { program := "ytooamcjgejajeaa", sum := "b8d5cb7fc9a1802b3abe5b1427ab721336cfbcc1f4a284ab1f9bde37501559ad", func := "loop.example/g02079/laws.FnExactIsPrimitiveMorphism", spec := "fnExactIsPrimitiveMorphism", apart := false, narrowed := true }
def FnExactIsPrimitiveMorphismUptoSaid : Prop := fnExactIsPrimitiveMorphismUptoRow.holds Try.pinned (OpenSpec.upto fnExactIsPrimitiveMorphismSpec)

/-- 'laws.FnExactLettersAfter', WHERE WHAT IT READS IS OF BULK AT MOST 1048576: true; the input reads as it did. -/
def fnExactLettersAfterUptoRow : OpenClaim := { program := "ytooamcjgejajeaa", sum := "b8d5cb7fc9a1802b3abe5b1427ab721336cfbcc1f4a284ab1f9bde37501559ad", func := "loop.example/g02079/laws.FnExactLettersAfter", spec := "fnExactLettersAfter", apart := false, narrowed := true }
def FnExactLettersAfterUptoSaid : Prop := fnExactLettersAfterUptoRow.holds Try.pinned (OpenSpec.upto fnExactLettersAfterSpec)

/-- 'laws.FnExactImageLengths', WHERE WHAT IT READS IS OF BULK AT MOST 1048576: true; the input reads as it did. -/
def fnExactImageLengthsUptoRow : OpenClaim := { program := "ytooamcjgejajeaa", sum := "b8d5cb7fc9a1802b3abe5b1427ab721336cfbcc1f4a284ab1f9bde37501559ad", func := "loop.example/g02079/laws.FnExactImageLengths", spec := "fnExactImageLengths", apart := false, narrowed := true }
def FnExactImageLengthsUptoSaid : Prop := fnExactImageLengthsUptoRow.holds Try.pinned (OpenSpec.upto fnExactImageLengthsSpec)

/-- 'laws.FnExactKeepsOverlapFree', WHERE WHAT IT READS IS OF BULK AT MOST 1048576: true; the input reads as it did. -/
def fnExactKeepsOverlapFreeUptoRow : OpenClaim := { program := "ytooamcjgejajeaa", sum := "b8d5cb7fc9a1802b3abe5b1427ab721336cfbcc1f4a284ab1f9bde37501559ad", func := "loop.example/g02079/laws.FnExactKeepsOverlapFree", spec := "fnExactKeepsOverlapFree", unfollowed := true, recurses := true, apart := false, narrowed := true }
def FnExactKeepsOverlapFreeUptoSaid : Prop := fnExactKeepsOverlapFreeUptoRow.holds Try.pinned (OpenSpec.upto fnExactKeepsOverlapFreeSpec)

/-- 'laws.FnExactKeepsSquareFree', WHERE WHAT IT READS IS OF BULK AT MOST 1048576: true; the input reads as it did. -/
def fnExactKeepsSquareFreeUptoRow : OpenClaim := { program := "ytooamcjgejajeaa", sum := "b8d5cb7fc9a1802b3abe5b1427ab721336cfbcc1f4a284ab1f9bde37501559ad", func := "loop.example/g02079/laws.FnExactKeepsSquareFree", spec := "fnExactKeepsSquareFree", unfollowed := true, recurses := true, apart := false, narrowed := true }
def FnExactKeepsSquareFreeUptoSaid : Prop := fnExactKeepsSquareFreeUptoRow.holds Try.pinned (OpenSpec.upto fnExactKeepsSquareFreeSpec)

/-- 'laws.FnExactBrokenWord', WHERE WHAT IT READS IS OF BULK AT MOST 1048576: true; the input reads as it did. -/
def fnExactBrokenWordUptoRow : OpenClaim := { program := "ytooamcjgejajeaa", sum := "b8d5cb7fc9a1802b3abe5b1427ab721336cfbcc1f4a284ab1f9bde37501559ad", func := "loop.example/g02079/laws.FnExactBrokenWord", spec := "fnExactBrokenWord", unfollowed := true, recurses := true, apart := false, narrowed := true }
def FnExactBrokenWordUptoSaid : Prop := fnExactBrokenWordUptoRow.holds Try.pinned (OpenSpec.upto fnExactBrokenWordSpec)

/-- 'laws.FnExactIsSquareFreeMorphism', WHERE WHAT IT READS IS OF BULK AT MOST 1048576: true; the input reads as it did. -/
def fnExactIsSquareFreeMorphismUptoRow : OpenClaim := { program := "ytooamcjgejajeaa", sum := "b8d5cb7fc9a1802b3abe5b1427ab721336cfbcc1f4a284ab1f9bde37501559ad", func := "loop.example/g02079/laws.FnExactIsSquareFreeMorphism", spec := "fnExactIsSquareFreeMorphism", unfollowed := true, recurses := true, apart := false, narrowed := true }
def FnExactIsSquareFreeMorphismUptoSaid : Prop := fnExactIsSquareFreeMorphismUptoRow.holds Try.pinned (OpenSpec.upto fnExactIsSquareFreeMorphismSpec)

/-- 'laws.FnFree', WHERE WHAT IT READS IS OF BULK AT MOST 1048576: true; the input reads as it did. -/
def fnFreeUptoRow : OpenClaim := { program := "ytooamcjgejajeaa", sum := "b8d5cb7fc9a1802b3abe5b1427ab721336cfbcc1f4a284ab1f9bde37501559ad", func := "loop.example/g02079/laws.FnFree", spec := "fnFree", unfollowed := true, recurses := true, apart := false, narrowed := true }
def FnFreeUptoSaid : Prop := fnFreeUptoRow.holds Try.pinned (OpenSpec.upto fnFreeSpec)

/-- 'laws.FnGrowth', WHERE WHAT IT READS IS OF BULK AT MOST 1048576: true; the input reads as it did. -/
def fnGrowthUptoRow : OpenClaim := { program := "ytooamcjgejajeaa", sum := "b8d5cb7fc9a1802b3abe5b1427ab721336cfbcc1f4a284ab1f9bde37501559ad", func := "loop.example/g02079/laws.FnGrowth", spec := "fnGrowth", unfollowed := true, recurses := true, apart := false, narrowed := true }
def FnGrowthUptoSaid : Prop := fnGrowthUptoRow.holds Try.pinned (OpenSpec.upto fnGrowthSpec)

/-- 'laws.FnProuhet', WHERE WHAT IT READS IS OF BULK AT MOST 1048576: true; the input reads as it did. -/
def fnProuhetUptoRow : OpenClaim := { program := "ytooamcjgejajeaa", sum := "b8d5cb7fc9a1802b3abe5b1427ab721336cfbcc1f4a284ab1f9bde37501559ad", func := "loop.example/g02079/laws.FnProuhet", spec := "fnProuhet", apart := false, narrowed := true }
def FnProuhetUptoSaid : Prop := fnProuhetUptoRow.holds Try.pinned (OpenSpec.upto fnProuhetSpec)

/-- 'laws.FnMorphisms', WHERE WHAT IT READS IS OF BULK AT MOST 1048576: true; the input reads as it did. -/
def fnMorphismsUptoRow : OpenClaim := { program := "ytooamcjgejajeaa", sum := "b8d5cb7fc9a1802b3abe5b1427ab721336cfbcc1f4a284ab1f9bde37501559ad", func := "loop.example/g02079/laws.FnMorphisms", spec := "fnMorphisms", unfollowed := true, recurses := true, apart := false, narrowed := true }
def FnMorphismsUptoSaid : Prop := fnMorphismsUptoRow.holds Try.pinned (OpenSpec.upto fnMorphismsSpec)

end Rows
end Go.Proofs.Ytooamcjgejajeaa
