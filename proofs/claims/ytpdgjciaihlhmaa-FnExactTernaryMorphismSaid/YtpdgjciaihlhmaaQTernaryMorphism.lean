/- The law of TernaryMorphism: both lay out the same rows. No condition. -/
import Derived.Test.YtpdgjciaihlhmaaLFnExactTernaryMorphism
import Derived.Test.YtpdgjciaihlhmaaMorph

namespace Go.Proofs.Ytpdgjciaihlhmaa.M
open Go.RowKit Go.Proofs.YtpdgjciaihlhmaaW.PrintWords Go.Proofs.Ytpdgjciaihlhmaa.K
theorem lawTernaryMorphism (w : World) : Calls Try.prog 5 #[] w fun e w' => e = .returned (.bool true) ∧ Below w.heap.size w w' := by
  have he := eqMorphism_ev [[0, 1, 2], [0, 2], [1]] [[0, 1, 2], [0, 2], [1]] (by simp) (by simp)
  have hh := heldMorphism_ev [[0, 1, 2], [0, 2], [1]] 1 (by omega) (by simp [total]) (by simp)
  rw [decide_eq_true rfl] at he
  exact FnExactTernaryMorphism_walk [[0, 1, 2], [0, 2], [1]] w (by simp) (by simp [total]) (Ev.val rfl) (Ev.val rfl) he hh
end Go.Proofs.Ytpdgjciaihlhmaa.M
