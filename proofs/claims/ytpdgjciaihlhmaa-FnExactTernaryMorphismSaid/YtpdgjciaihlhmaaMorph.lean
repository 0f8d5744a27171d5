/- Morphisms held against each other, and their marks. No condition but that sizes fit. -/
import Derived.Test.YtpdgjciaihlhmaaHeldSS
import Derived.Test.YtpdgjciaihlhmaaM9
import Derived.Test.YtpdgjciaihlhmaaM15
namespace Go.Proofs.Ytpdgjciaihlhmaa.M
open Go.RowKit Go.Proofs.YtpdgjciaihlhmaaW.PrintWords Go.Proofs.Ytpdgjciaihlhmaa.K
theorem eqMorphism_ev (a b : List (List Int)) (h : a.length < 9223372036854775807) (ht : ∀ x ∈ a, x.length < 9223372036854775807) : Ev (fun k => laws_eqMorphism.f k a b) (decide (a = b)) := by
  unfold laws_eqMorphism.f
  refine Ev.bind (eqIntSS_ev a b h ht) ?_
  refine Ev.ite (fun q => ?_) (fun q => ?_)
  · rw [q]; exact Ev.some _
  · rw [Bool.eq_false_iff.2 q]; exact Ev.some _
theorem heldMorphism_ev (xs : List (List Int)) (m : Int) (h0 : 0 ≤ m) (h : m + total xs < 1000000000000000000) (hl : xs.length < 1000000000000000000) : Ev (fun k => laws_heldMorphism.f k (marksS xs m) m) (m + total xs) := by
  unfold laws_heldMorphism.f
  exact Ev.bind (heldIntSS_ev xs m h0 h hl) (Ev.if_neg (by omega) (Ev.some _))
end Go.Proofs.Ytpdgjciaihlhmaa.M
