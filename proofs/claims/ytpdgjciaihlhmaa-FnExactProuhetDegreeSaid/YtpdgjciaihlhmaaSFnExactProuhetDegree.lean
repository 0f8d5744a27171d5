/- What is left of the law FnExactProuhetDegree beside its walk: a statement on numbers and lists. No condition but what the form hands over. -/
import Derived.Test.YtpdgjciaihlhmaaM75
namespace Go.Proofs.Ytpdgjciaihlhmaa.Pure
open Go.RowKit Go.Proofs.Ytpdgjciaihlhmaa.M Go.Proofs.YtpdgjciaihlhmaaW.PrintWords
def FnExactProuhetDegree.Pure : Prop := ∀ (l0 : List (List Int)), l0.length ≤ maxLen → (∀ x ∈ l0, (x.length ≤ maxLen ∧ ∀ y0 ∈ x, (Lit.int .i64 y0).wf = true)) → ∃ k, laws_FnExactProuhetDegree.f k l0 = some true
end Go.Proofs.Ytpdgjciaihlhmaa.Pure
