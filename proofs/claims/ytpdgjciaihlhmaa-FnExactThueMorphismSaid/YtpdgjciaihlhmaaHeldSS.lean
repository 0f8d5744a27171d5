/- The marks that markIntSS lays are found by heldIntSS. No condition but that sizes fit. -/
import Derived.Test.YtpdgjciaihlhmaaMarkSS
import Derived.Test.YtpdgjciaihlhmaaM14
namespace Go.Proofs.Ytpdgjciaihlhmaa.M
open Go.RowKit Go.Proofs.YtpdgjciaihlhmaaW.PrintWords Go.Proofs.Ytpdgjciaihlhmaa.K

theorem heldIntSS_ev (xs : List (List Int)) (m : Int) (h0 : 0 ≤ m) (h : m + total xs < 1000000000000000000) (hl : xs.length < 1000000000000000000) : Ev (fun k => laws_heldIntSS.f k (marksS xs m) m) (m + total xs) := by
  have hml := marksS_length xs m
  have at_ : ∀ i (hi : i < xs.length), rd_L2 (marksS xs m) (i : Int) = marks xs[i].length (m + total (xs.take i)) := by
    intro i hi
    rw [rdLL _ i (by omega)]
    have e := half_set xs m i hi
    have e2 : (half xs m (i + 1))[i]? = some (marks xs[i].length (m + total (xs.take i))) := by rw [← e, List.getElem?_set_self (by rw [half_length xs m i (by omega)]; exact hi)]
    have e3 : marksS xs m = marksS (xs.take (i + 1)) m ++ marksS (xs.drop (i + 1)) (m + total (xs.take (i + 1))) := by rw [← marksS_append, List.take_append_drop]
    have e4 : (marksS xs m)[i]? = some (marks xs[i].length (m + total (xs.take i))) := by
      rw [e3, List.getElem?_append_left (by rw [marksS_length, List.length_take]; omega)]
      unfold half at e2
      rwa [List.getElem?_append_left (by rw [marksS_length, List.length_take]; omega)] at e2
    exact Option.some.inj ((List.getElem?_eq_getElem (by omega)).symm.trans e4)
  have key : ∀ i, i ≤ xs.length → Ev (fun k => laws_heldIntSS.l0 k (marksS xs m) (m + total (xs.take i)) (i : Int)) (m + total xs) := by
    refine down xs.length ?_ ?_
    · refine Ev.step (fun k => by simp only [laws_heldIntSS.l0]; rw [_root_.if_neg (by omega)]) ?_
      rw [List.take_length]; exact Ev.some _
    · intro i hi ih
      have e := total_take xs i hi
      have e2 := total_take_le xs (i + 1)
      refine Ev.step (fun k => by simp only [laws_heldIntSS.l0]; rw [_root_.if_pos (by omega), _root_.if_pos (by omega), wsucc (by omega), at_ i hi]) ?_
      refine Ev.bind (heldIntS_ev xs[i].length (m + total (xs.take i)) (by omega) (by omega)) ?_
      refine Ev.if_neg (by omega) ?_
      rw [show m + (total (xs.take i) : Int) + (xs[i].length : Int) = m + (total (xs.take (i + 1)) : Int) from by omega]
      exact ih
  unfold laws_heldIntSS.f
  have := key 0 (by omega)
  simpa [total] using this

end Go.Proofs.Ytpdgjciaihlhmaa.M
