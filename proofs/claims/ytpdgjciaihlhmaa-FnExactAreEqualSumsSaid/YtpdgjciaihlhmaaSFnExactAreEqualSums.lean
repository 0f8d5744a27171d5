/- What is left of the law FnExactAreEqualSums beside its walk: a statement on numbers and lists. No condition but what the form hands over. -/
import Derived.Test.YtpdgjciaihlhmaaM69
namespace Go.Proofs.Ytpdgjciaihlhmaa.Pure
open Go.RowKit Go.Proofs.Ytpdgjciaihlhmaa.M Go.Proofs.YtpdgjciaihlhmaaW.PrintWords
def FnExactAreEqualSums.Pure : Prop := ∀ (l0 : List (List Int)) (a1 : Int), l0.length ≤ maxLen → (∀ x ∈ l0, (x.length ≤ maxLen ∧ ∀ y0 ∈ x, (Lit.int .i64 y0).wf = true)) → (Lit.int .i64 a1).wf = true → ∃ k, laws_FnExactAreEqualSums.f k l0 a1 = some true
end Go.Proofs.Ytpdgjciaihlhmaa.Pure
