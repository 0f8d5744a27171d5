/- Are the sums equal, and up to which degree: program and reference come to the same. No condition but lengths that fit. -/
import Derived.Test.YtpdgjciaihlhmaaPowerSums
import Derived.Test.YtpdgjciaihlhmaaIntSS
import Derived.Test.YtpdgjciaihlhmaaEq1
import Derived.Test.YtpdgjciaihlhmaaM1
import Derived.Test.YtpdgjciaihlhmaaM66
import Derived.Test.YtpdgjciaihlhmaaM68
import Derived.Test.YtpdgjciaihlhmaaM73
import Derived.Test.YtpdgjciaihlhmaaM74
namespace Go.Proofs.Ytpdgjciaihlhmaa.M
open Go.RowKit Go.Proofs.YtpdgjciaihlhmaaW.PrintWords Go.Proofs.Ytpdgjciaihlhmaa.K

def same (c : List Int) (a : Int) (x : List Int) : Bool := (PS x a).2 && ((PS c a).2 && decide ((PS x a).1 = (PS c a).1))
def AE : List (List Int) → Int → Bool
  | [], _ => false
  | c :: cs, a => decide (cs.length ≤ 3) && ((PS c a).2 && cs.all (same c a))
theorem PS_two (c : List Int) (a : Int) (h : (PS c a).2 = true) : 0 ≤ a ∧ a ≤ 6 := by
  unfold PS at h; split at h
  · rename_i q; exact q.2
  · cases h
theorem same_self (c : List Int) (a : Int) : same c a c = (PS c a).2 := by unfold same; simp

theorem specAE_ev (l : List (List Int)) (a : Int) (h : l.length ≤ 1048576) (hx : ∀ x ∈ l, x.length ≤ 1048576) : Ev (fun k => spec_AreEqualSums.f k l a) (AE l a) := by
  cases l with
  | nil =>
    unfold spec_AreEqualSums.f
    exact Ev.step (fun k => by simp only [spec_AreEqualSums.l0]; rw [_root_.if_neg (by simp), _root_.if_neg (by simp)]) (Ev.same (Ev.some false) rfl)
  | cons c cs =>
    have e : spec_l1In.f a 0 6 = some (decide (0 ≤ a ∧ a ≤ 6)) := by
      unfold spec_l1In.f
      by_cases q : a ≥ 0
      · rw [_root_.if_pos q]; simp [q]
      · rw [_root_.if_neg q]; simp; omega
    have r0 : rd_L2 (c :: cs) 0 = c := rfl
    have hl : (c :: cs).length = cs.length + 1 := rfl
    have key : ∀ i, i ≤ (c :: cs).length → Ev (fun k => spec_AreEqualSums.l0 k (c :: cs) a (i : Int)) (((c :: cs).drop i).all (same c a) && (decide (cs.length ≤ 3) && decide (0 ≤ a ∧ a ≤ 6))) := by
      refine down (c :: cs).length ?_ ?_
      · refine Ev.step (fun k => by simp only [spec_AreEqualSums.l0]; rw [_root_.if_neg (by omega), _root_.if_pos (by omega)]) ?_
        rw [List.drop_length, List.all_nil, Bool.true_and]
        refine Ev.ite (fun q => ?_) (fun q => ?_)
        · refine Ev.bind (Ev.val e) (Ev.same (Ev.some _) ?_)
          rw [decide_eq_true (show cs.length ≤ 3 from by omega), Bool.true_and]
        · refine Ev.same (Ev.some _) ?_
          rw [decide_eq_false (show ¬ cs.length ≤ 3 from by omega), Bool.false_and]
      · intro i hi ih
        refine Ev.step (fun k => by simp only [spec_AreEqualSums.l0]; rw [_root_.if_pos (by omega), _root_.if_pos (by omega), wsucc (by omega), rdLL _ i hi]) ?_
        rw [drop_eq _ i hi, List.all_cons]
        have hm := hx _ (List.getElem_mem hi)
        generalize (c :: cs)[i] = x at hm ⊢
        have hp := PS_length x a
        refine Ev.bind (spec_ev x a hm) (Ev.if_pos (by omega) ?_)
        rw [r0]
        refine Ev.bind (spec_ev c a (hx c (by simp))) ?_
        have sd : same c a x = ((PS x a).2 && ((PS c a).2 && decide ((PS x a).1 = (PS c a).1))) := rfl
        rw [sd]
        refine Ev.ite (fun q1 => Ev.ite (fun q2 => Ev.bind (l3Same_ev _ _ (by omega)) (Ev.ite (fun q3 => ?_) (fun q3 => ?_))) (fun q2 => ?_)) (fun q1 => ?_)
        · rw [q1, q2, q3]; simpa using ih
        · rw [Bool.eq_false_iff.2 q3]; simpa using Ev.some false
        · rw [Bool.eq_false_iff.2 q2]; simpa using Ev.some false
        · rw [Bool.eq_false_iff.2 q1]; simpa using Ev.some false
    unfold spec_AreEqualSums.f
    refine Ev.same (key 0 (by omega)) ?_
    rw [List.drop_zero, List.all_cons, same_self]
    show _ = (decide (cs.length ≤ 3) && ((PS c a).2 && cs.all (same c a)))
    by_cases q : (PS c a).2 = true
    · rw [decide_eq_true (PS_two c a q), q]; simp [Bool.and_comm]
    · rw [Bool.eq_false_iff.2 q]; simp

theorem implAE_ev (l : List (List Int)) (a : Int) (h : l.length ≤ 1048576) (hx : ∀ x ∈ l, x.length ≤ 1048576) : Ev (fun k => impl_AreEqualSums.f k l a) (AE l a) := by
  unfold impl_AreEqualSums.f
  have no : AE l a = false → Ev (fun k => impl_AreEqualSums.j0 k l a true) (AE l a) := by
    intro q
    exact Ev.step (fun k => by simp only [impl_AreEqualSums.j0]; rw [_root_.if_pos trivial]) (Ev.same (Ev.some _) q.symm)
  cases l with
  | nil => exact Ev.if_pos (by simp) (no rfl)
  | cons c cs =>
    have hl : (c :: cs).length = cs.length + 1 := rfl
    refine Ev.if_neg (by omega) ?_
    by_cases h4 : cs.length ≤ 3
    · rw [decide_eq_false (show ¬ ((c :: cs).length : Int) > 4 from by omega)]
      refine Ev.step (fun k => by simp only [impl_AreEqualSums.j0]; rw [_root_.if_neg (by decide), _root_.if_pos (by omega), show rd_L2 (c :: cs) 0 = c from rfl]) ?_
      refine Ev.bind (impl_ev c a (hx c (by simp))) (Ev.if_pos (by omega) ?_)
      refine Ev.congr (fun k => Option.bind_some _ _) ?_
      rw [show (c :: cs).drop 1 = cs from rfl]
      have hp := PS_length c a
      have key : ∀ i, i ≤ cs.length → ∀ ok : Bool, (ok = true → (PS c a).2 = true) → Ev (fun k => impl_AreEqualSums.l0 k a (PS c a).1 ok cs (cs.length : Int) (i : Int)) (ok && (cs.drop i).all (same c a)) := by
        refine down cs.length ?_ ?_
        · intro ok hok
          refine Ev.step (fun k => by simp only [impl_AreEqualSums.l0]; rw [_root_.if_neg (by omega)]) ?_
          rw [List.drop_length, List.all_nil, Bool.and_true]; exact Ev.some _
        · intro i hi ih ok hok
          refine Ev.step (fun k => by simp only [impl_AreEqualSums.l0]; rw [_root_.if_pos (by omega), _root_.if_pos (by omega), _root_.if_pos (by omega), wsucc (by omega), rdLL _ i hi]) ?_
          rw [drop_eq _ i hi, List.all_cons]
          have hm := hx _ (List.mem_cons_of_mem c (List.getElem_mem hi))
          generalize cs[i] = x at hm ⊢
          refine Ev.bind (impl_ev x a hm) ?_
          have f := ih false (by simp)
          rw [Bool.false_and] at f
          refine Ev.ite (fun q1 => Ev.ite (fun q2 => Ev.bind (equal_ev _ _ (by omega)) ?_) (fun q2 => ?_)) (fun q1 => ?_)
          · have g := ih (decide ((PS c a).1 = (PS x a).1)) (fun _ => hok q1)
            refine Ev.same g ?_
            unfold same
            rw [q1, q2, hok q1]
            simp [eq_comm]
          · unfold same; rw [Bool.eq_false_iff.2 q2]; simpa using f
          · rw [Bool.eq_false_iff.2 q1]; simpa using f
      refine Ev.same (key 0 (by omega) _ (fun q => q)) ?_
      show _ = (decide (cs.length ≤ 3) && _); rw [decide_eq_true h4, List.drop_zero, Bool.true_and]
    · rw [decide_eq_true (show ((c :: cs).length : Int) > 4 from by omega)]
      exact no (by show (decide (cs.length ≤ 3) && _) = false; rw [decide_eq_false h4, Bool.false_and])

def PD (l : List (List Int)) : Nat → Nat → Int
  | 0, _ => 6
  | d + 1, i => if AE l i = true then PD l d (i + 1) else (i : Int) - 1
theorem specPD_ev (l : List (List Int)) (h : l.length ≤ 1048576) (hx : ∀ x ∈ l, x.length ≤ 1048576) : Ev (fun k => spec_ProuhetDegree.f k l) (PD l 7 0) := by
  have key : ∀ d i : Nat, i + d = 7 → Ev (fun k => spec_ProuhetDegree.l0 k l (i : Int)) (PD l d i) := by
    intro d
    induction d with
    | zero => intro i hi; exact Ev.step (fun k => by simp only [spec_ProuhetDegree.l0]; rw [_root_.if_neg (by omega)]) (Ev.same (Ev.some 6) rfl)
    | succ d ih =>
      intro i hi
      refine Ev.step (fun k => by simp only [spec_ProuhetDegree.l0]; rw [_root_.if_pos (by omega)]) ?_
      refine Ev.bind (specAE_ev l i h hx) ?_
      unfold PD
      refine Ev.ite (fun q => ?_) (fun q => ?_)
      · rw [_root_.if_pos q]; refine Ev.congr (fun k => by rw [wsucc (by omega)]) (ih (i + 1) (by omega))
      · rw [_root_.if_neg q]; exact Ev.same (Ev.some _) (w_id (by omega) (by omega))
  exact key 7 0 rfl
theorem implPD_ev (l : List (List Int)) (h : l.length ≤ 1048576) (hx : ∀ x ∈ l, x.length ≤ 1048576) : Ev (fun k => impl_ProuhetDegree.f k l) (PD l 7 0) := by
  have key : ∀ d i : Nat, i + d = 7 → Ev (fun k => impl_ProuhetDegree.l0 k l (i : Int)) (PD l d i) := by
    intro d
    induction d with
    | zero =>
      intro i hi
      refine Ev.step (fun k => by simp only [impl_ProuhetDegree.l0]; rw [_root_.if_neg (by omega)]) (Ev.same (Ev.some _) ?_)
      rw [w_id (by omega) (by omega)]; unfold PD; omega
    | succ d ih =>
      intro i hi
      refine Ev.step (fun k => by simp only [impl_ProuhetDegree.l0]; rw [_root_.if_pos (by omega)]) ?_
      refine Ev.bind (implAE_ev l i h hx) ?_
      unfold PD
      refine Ev.ite (fun q => ?_) (fun q => ?_)
      · rw [_root_.if_pos q]; refine Ev.congr (fun k => by rw [wsucc (by omega)]) (ih (i + 1) (by omega))
      · rw [_root_.if_neg q]; exact Ev.same (Ev.some _) (w_id (by omega) (by omega))
  exact key 7 0 rfl
end Go.Proofs.Ytpdgjciaihlhmaa.M
