/- The law of ThueMorphism: both lay out the same rows. No condition. -/
import Derived.Test.YtpdgjciaihlhmaaLFnExactThueMorphism
import Derived.Test.YtpdgjciaihlhmaaMorph

namespace Go.Proofs.Ytpdgjciaihlhmaa.M
open Go.RowKit Go.Proofs.YtpdgjciaihlhmaaW.PrintWords Go.Proofs.Ytpdgjciaihlhmaa.K
theorem lawThueMorphism (w : World) : Calls Try.prog 4 #[] w fun e w' => e = .returned (.bool true) ∧ Below w.heap.size w w' := by
  have he := eqMorphism_ev [[0, 1], [1, 0]] [[0, 1], [1, 0]] (by simp) (by simp)
  have hh := heldMorphism_ev [[0, 1], [1, 0]] 1 (by omega) (by simp [total]) (by simp)
  rw [decide_eq_true rfl] at he
  exact FnExactThueMorphism_walk [[0, 1], [1, 0]] w (by simp) (by simp [total]) (Ev.val rfl) (Ev.val rfl) he hh
end Go.Proofs.Ytpdgjciaihlhmaa.M
