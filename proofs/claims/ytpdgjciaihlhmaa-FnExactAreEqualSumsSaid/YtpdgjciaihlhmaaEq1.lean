/- Two rows of whole numbers held against each other, as the reference and Go's library do it. No condition but lengths that fit. -/
import Derived.Test.YtpdgjciaihlhmaaK
import Derived.Test.YtpdgjciaihlhmaaM65
import Derived.Test.YtpdgjciaihlhmaaM67
namespace Go.Proofs.Ytpdgjciaihlhmaa.M
open Go.RowKit Go.Proofs.YtpdgjciaihlhmaaW.PrintWords Go.Proofs.Ytpdgjciaihlhmaa.K

theorem l3Same_ev (a b : List Int) (h : a.length < 9223372036854775807) : Ev (fun k => spec_l3Same.f k a b) (decide (a = b)) := by
  unfold spec_l3Same.f
  refine Ev.ite (fun e => ?_) (fun e => ?_)
  · have e' : a.length = b.length := by omega
    have key : ∀ i, i ≤ a.length → Ev (fun k => spec_l3Same.l0 k a b (i : Int)) (decide (a.drop i = b.drop i)) := by
      refine down a.length ?_ ?_
      · refine Ev.step (fun k => by simp only [spec_l3Same.l0]; rw [_root_.if_neg (by omega)]) ?_
        rw [List.drop_length, e', List.drop_length]; exact Ev.some _
      · intro i hi ih
        refine Ev.step (fun k => by simp only [spec_l3Same.l0]; rw [_root_.if_pos (by omega), _root_.if_pos (by omega), _root_.if_pos (by omega), wsucc (by omega), rd_get a i hi, rd_get b i (by omega)]) ?_
        rw [drop_eq a i hi, drop_eq b i (by omega), cons_dec]
        refine Ev.ite (fun q => ?_) (fun q => ?_)
        · rw [decide_eq_true q]; simpa using ih
        · rw [decide_eq_false q]; exact Ev.some _
    exact key 0 (by omega)
  · refine Ev.same (Ev.some _) ?_
    symm; rw [decide_eq_false_iff_not]; intro q; rw [q] at e; exact e rfl

theorem equal_ev (a b : List Int) (h : a.length < 9223372036854775807) : Ev (fun k => slices_Equal_int_int.f k a b) (decide (a = b)) := by
  unfold slices_Equal_int_int.f
  refine Ev.ite (fun e => ?_) (fun e => ?_)
  · have e' : a.length = b.length := by omega
    have key : ∀ i, i ≤ a.length → Ev (fun k => slices_Equal_int_int.l0 k a b (a.length : Int) (i : Int)) (decide (a.drop i = b.drop i)) := by
      refine down a.length ?_ ?_
      · refine Ev.step (fun k => by simp only [slices_Equal_int_int.l0]; rw [_root_.if_neg (by omega)]) ?_
        rw [List.drop_length, e', List.drop_length]; exact Ev.some _
      · intro i hi ih
        refine Ev.step (fun k => by simp only [slices_Equal_int_int.l0]; rw [_root_.if_pos (by omega), _root_.if_pos (by omega), _root_.if_pos (by omega), _root_.if_pos (by omega), wsucc (by omega), rd_get a i hi, rd_get b i (by omega)]) ?_
        rw [drop_eq a i hi, drop_eq b i (by omega), cons_dec]
        refine Ev.ite (fun q => ?_) (fun q => ?_)
        · rw [decide_eq_true q]; simpa using ih
        · rw [decide_eq_false q]; exact Ev.some _
    exact key 0 (by omega)
  · refine Ev.same (Ev.some _) ?_
    symm; rw [decide_eq_false_iff_not]; intro q; rw [q] at e; exact e rfl
end Go.Proofs.Ytpdgjciaihlhmaa.M
