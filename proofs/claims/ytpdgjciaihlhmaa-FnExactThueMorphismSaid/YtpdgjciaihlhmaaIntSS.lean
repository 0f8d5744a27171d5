/- What the laws' own small functions on rows of rows come to. No condition but lengths that fit. -/
import Derived.Test.YtpdgjciaihlhmaaIntS
import Derived.Test.YtpdgjciaihlhmaaM8
import Derived.Test.YtpdgjciaihlhmaaM59
import Derived.Test.YtpdgjciaihlhmaaM60
import Derived.Test.YtpdgjciaihlhmaaM62
namespace Go.Proofs.Ytpdgjciaihlhmaa.M
open Go.RowKit Go.Proofs.YtpdgjciaihlhmaaW.PrintWords Go.Proofs.Ytpdgjciaihlhmaa.K

theorem rdLL (xs : List (List Int)) (i : Nat) (h : i < xs.length) : rd_L2 xs (i : Int) = xs[i] := by
  unfold rd_L2; rw [Int.toNat_natCast, List.getD_eq_getElem?_getD, List.getElem?_eq_getElem h]; rfl

theorem toIntSS_ev (l : List (List Int)) (h : l.length ≤ 1048576) (ht : total l ≤ 1048576) : Ev (fun k => laws_toIntSS.f k l) l := by
  have key : ∀ i, i ≤ l.length → Ev (fun k => laws_toIntSS.l0 k l (l.take i ++ List.replicate (l.length - i) []) (i : Int)) l := by
    refine down l.length ?_ ?_
    · refine Ev.step (fun k => by simp only [laws_toIntSS.l0]; rw [_root_.if_neg (by omega)]) ?_
      refine Ev.same (Ev.some _) ?_
      simp
    · intro i hi ih
      refine Ev.step (fun k => by simp only [laws_toIntSS.l0]; rw [_root_.if_pos (by omega), _root_.if_pos (by omega), rdLL l i hi]) ?_
      refine Ev.bind (toIntS_ev _ (by have := total_at l i hi; omega)) ?_
      refine Ev.if_pos (by rw [fill_length _ _ _ (by omega)]; omega) ?_
      refine Ev.congr (fun k => by rw [wsucc (by omega), Int.toNat_natCast, fill_set l [] i hi]) ih
  unfold laws_toIntSS.f
  refine Ev.if_pos (by omega) (Ev.if_pos (by omega) ?_)
  rw [Int.toNat_natCast]
  exact key 0 (by omega)

theorem eqIntSS_ev (a b : List (List Int)) (h : a.length < 9223372036854775807) (ht : ∀ x ∈ a, x.length < 9223372036854775807) : Ev (fun k => laws_eqIntSS.f k a b) (decide (a = b)) := by
  unfold laws_eqIntSS.f
  refine Ev.ite (fun e => ?_) (fun e => ?_)
  · have e' : a.length = b.length := by omega
    have key : ∀ i, i ≤ a.length → Ev (fun k => laws_eqIntSS.l0 k a b (i : Int)) (decide (a.drop i = b.drop i)) := by
      refine down a.length ?_ ?_
      · refine Ev.step (fun k => by simp only [laws_eqIntSS.l0]; rw [_root_.if_neg (by omega)]) ?_
        rw [List.drop_length, e', List.drop_length]; exact Ev.some _
      · intro i hi ih
        refine Ev.step (fun k => by simp only [laws_eqIntSS.l0]; rw [_root_.if_pos (by omega), _root_.if_pos (by omega), _root_.if_pos (by omega), wsucc (by omega), rdLL a i hi, rdLL b i (by omega)]) ?_
        rw [drop_eq a i hi, drop_eq b i (by omega), cons_dec]
        refine Ev.bind (eqIntS_ev _ _ (ht _ (List.getElem_mem hi))) ?_
        refine Ev.ite (fun q => ?_) (fun q => ?_)
        · rw [q]; simpa using ih
        · rw [Bool.eq_false_iff.2 q]; exact Ev.some _
    exact key 0 (by omega)
  · refine Ev.same (Ev.some _) ?_
    symm; rw [decide_eq_false_iff_not]; intro q; rw [q] at e; exact e rfl

theorem szIntS_val (l : List Int) (left : Int) (h0 : 0 ≤ left) (h1 : left ≤ 1048576) (h : l.length ≤ maxLen) : laws_szIntS.f l left = some (if left < l.length then -1 else left - l.length) := by
  unfold maxLen at h
  unfold laws_szIntS.f
  rw [w_id (by omega) (by omega)]
  by_cases q : left < l.length
  · rw [_root_.if_pos (by omega), _root_.if_pos q]
  · rw [_root_.if_neg (by omega), _root_.if_neg q]

/-- What is left of a number when all places are taken off, or -1. -/
theorem szIntSS_ev (l : List (List Int)) (left : Int) (h0 : 0 ≤ left) (h1 : left ≤ 1048576) (h : l.length ≤ maxLen) (hx : ∀ x ∈ l, x.length ≤ maxLen) :
    Ev (fun k => laws_szIntSS.f k l left) (if left < l.length + total l then -1 else left - l.length - total l) := by
  unfold maxLen at h
  unfold laws_szIntSS.f
  rw [w_id (by omega) (by omega)]
  refine Ev.ite (fun q => ?_) (fun q => ?_)
  · rw [_root_.if_pos (by omega)]; exact Ev.some _
  · have key : ∀ i, i ≤ l.length → total (l.take i) ≤ left - l.length → Ev (fun k => laws_szIntSS.l0 k l (left - l.length - total (l.take i)) (i : Int)) (if left < l.length + total l then -1 else left - l.length - total l) := by
      refine down l.length ?_ ?_
      · intro ht
        refine Ev.step (fun k => by simp only [laws_szIntSS.l0]; rw [_root_.if_neg (by omega)]) ?_
        rw [List.take_length] at ht ⊢
        rw [_root_.if_neg (by omega)]; exact Ev.some _
      · intro i hi ih ht
        refine Ev.step (fun k => by simp only [laws_szIntSS.l0]; rw [_root_.if_pos (by omega), _root_.if_pos (by omega), wsucc (by omega), rdLL l i hi]) ?_
        refine Ev.bind (Ev.val (szIntS_val _ _ (by omega) (by omega) (hx _ (List.getElem_mem hi)))) ?_
        have e := total_take l i hi
        have e2 := total_take_le l (i + 1)
        by_cases q2 : left - l.length - total (l.take i) < (l[i].length : Int)
        · rw [_root_.if_pos q2]
          refine Ev.if_pos (by omega) ?_
          rw [_root_.if_pos (by omega)]; exact Ev.some _
        · rw [_root_.if_neg q2]
          refine Ev.if_neg (by omega) ?_
          have := ih (by omega)
          rw [e, show left - (l.length : Int) - ((total (l.take i) + l[i].length : Nat) : Int) = left - l.length - total (l.take i) - l[i].length from by omega] at this
          exact this
    have := key 0 (by omega) (by simp [total]; omega)
    simpa [total] using this
end Go.Proofs.Ytpdgjciaihlhmaa.M
