/- The law of ShiftClasses: program and reference come to the same rows. No condition but what the form hands over. -/
import Derived.Test.YtpdgjciaihlhmaaLFnExactShiftClasses
import Derived.Test.YtpdgjciaihlhmaaPowerSums
import Derived.Test.YtpdgjciaihlhmaaHeldSS
import Derived.Test.YtpdgjciaihlhmaaM1
import Derived.Test.YtpdgjciaihlhmaaM61
import Derived.Test.YtpdgjciaihlhmaaM63
namespace Go.Proofs.Ytpdgjciaihlhmaa.M
open Go.RowKit Go.Proofs.YtpdgjciaihlhmaaW.PrintWords Go.Proofs.Ytpdgjciaihlhmaa.K

def shift (by_ : Int) (l : List Int) : List Int := l.map fun x => wrap64 (x + by_)
def SC (l : List (List Int)) (b : Int) : List (List Int) × Bool :=
  if (-100 ≤ b ∧ b ≤ 100) ∧ (l.length ≤ 4 ∧ l.all fine = true) then (l.map (shift b), true) else ([], false)
theorem shift_take (b : Int) (l : List Int) (i : Nat) (h : i < l.length) : shift b (l.take (i + 1)) = shift b (l.take i) ++ [wrap64 (l[i] + b)] := by
  unfold shift; rw [take_succ l i h, List.map_append]; rfl
theorem fine_len (l : List Int) (h : fine l = true) : l.length ≤ 81 := by
  unfold fine at h; simp at h; exact h.1

theorem all_drop (l : List (List Int)) (i : Nat) (h : i < l.length) (hf : fine l[i] = false) : l.all fine = false := by
  rw [List.all_eq_false]; exact ⟨l[i], List.getElem_mem h, by rw [hf]; simp⟩

theorem specSC_ev (l : List (List Int)) (b : Int) (h : l.length ≤ 1048576) (hx : ∀ x ∈ l, x.length ≤ 1048576) : Ev (fun k => spec_ShiftClasses.f k l b) (SC l b) := by
  unfold spec_ShiftClasses.f
  refine Ev.congr (fun k => Option.bind_some _ _) ?_
  have e : spec_l1In.f b (-100) 100 = some (decide (-100 ≤ b ∧ b ≤ 100)) := by
    unfold spec_l1In.f
    by_cases q : b ≥ -100
    · rw [_root_.if_pos q]; simp [q]
    · rw [_root_.if_neg q]; simp; omega
  refine Ev.bind (Ev.val e) ?_
  have no : SC l b = ([], false) → Ev (fun k => spec_ShiftClasses.j0 k l b [] true) (SC l b) := by
    intro q
    exact Ev.step (fun k => by simp only [spec_ShiftClasses.j0]; rw [_root_.if_pos trivial]) (Ev.same (Ev.some _) q.symm)
  refine Ev.ite (fun q => ?_) (fun q => no (by unfold SC; rw [_root_.if_neg (fun r => q (decide_eq_true r.1))]))
  have hb := of_decide_eq_true q
  by_cases h4 : (l.length : Int) > 4
  · rw [decide_eq_true h4]; exact no (by unfold SC; rw [_root_.if_neg (fun r => by have := r.2.1; omega)])
  · rw [decide_eq_false h4]
    refine Ev.step (fun k => by simp only [spec_ShiftClasses.j0]; rw [_root_.if_neg (by decide)]) ?_
    have inner : ∀ (out : List (List Int)) (i : Nat) (hi : i < l.length) (r : List (List Int) × Bool), out.length ≤ 4 → l[i].length ≤ 81 →
        Ev (fun k => spec_ShiftClasses.l0 k l b (out ++ [shift b l[i]]) ((i + 1 : Nat) : Int)) r → ∀ j, j ≤ l[i].length →
        Ev (fun k => spec_ShiftClasses.l1 k l b out (i : Int) (shift b (l[i].take j)) (j : Int)) r := by
      intro out i hi r ho hl hr
      refine down l[i].length ?_ ?_
      · refine Ev.step (fun k => by simp only [spec_ShiftClasses.l1]; rw [_root_.if_pos (by omega), _root_.if_pos (by omega), rdLL l i hi, _root_.if_neg (by omega), _root_.if_pos (by omega), wsucc (by omega), List.take_length]) hr
      · intro j hj ih
        refine Ev.step (fun k => by simp only [spec_ShiftClasses.l1]; rw [_root_.if_pos (by omega), _root_.if_pos (by omega), rdLL l i hi, _root_.if_pos (by omega), _root_.if_pos (by omega), _root_.if_pos (by unfold shift; rw [List.length_map, List.length_take]; omega), wsucc (by omega), rd_get _ j hj, ← shift_take b _ j hj]) ih
    have outer : ∀ i, i ≤ l.length → Ev (fun k => spec_ShiftClasses.l0 k l b ((l.take i).map (shift b)) (i : Int)) (if (l.drop i).all fine = true then (l.map (shift b), true) else ([], false)) := by
      refine down l.length ?_ ?_
      · refine Ev.step (fun k => by simp only [spec_ShiftClasses.l0]; rw [_root_.if_neg (by omega)]) ?_
        rw [List.take_length, List.drop_length]; exact Ev.some _
      · intro i hi ih
        refine Ev.step (fun k => by simp only [spec_ShiftClasses.l0]; rw [_root_.if_pos (by omega), _root_.if_pos (by omega), rdLL l i hi]) ?_
        refine Ev.bind (fine_ev _ (by have := hx _ (List.getElem_mem hi); omega)) ?_
        rw [drop_eq l i hi, List.all_cons]
        refine Ev.ite (fun q2 => ?_) (fun q2 => ?_)
        · rw [q2, Bool.true_and]
          have := inner ((l.take i).map (shift b)) i hi _ (by rw [List.length_map, List.length_take]; omega) (fine_len _ q2) (by
            rw [show (l.take i).map (shift b) ++ [shift b l[i]] = (l.take (i + 1)).map (shift b) from by rw [take_succ l i hi, List.map_append]; rfl]; exact ih) 0 (by omega)
          exact this
        · rw [Bool.eq_false_iff.2 q2, Bool.false_and, _root_.if_neg (by simp)]; exact Ev.some _
    refine Ev.same (outer 0 (by omega)) ?_
    rw [List.drop_zero]
    unfold SC
    by_cases q2 : l.all fine = true
    · rw [_root_.if_pos q2, _root_.if_pos ⟨hb, by omega, q2⟩]
    · rw [_root_.if_neg q2, _root_.if_neg (fun r => q2 r.2.2)]

theorem implSC_ev (l : List (List Int)) (b : Int) (h : l.length ≤ 1048576) (hx : ∀ x ∈ l, x.length ≤ 1048576) : Ev (fun k => impl_ShiftClasses.f k l b) (SC l b) := by
  unfold impl_ShiftClasses.f
  have no : SC l b = ([], false) → Ev (fun k => impl_ShiftClasses.j0 k l b true) (SC l b) := by
    intro q
    exact Ev.step (fun k => by simp only [impl_ShiftClasses.j0]; rw [_root_.if_pos trivial]) (Ev.same (Ev.some _) q.symm)
  refine Ev.ite (fun q => no (by unfold SC; rw [_root_.if_neg (fun r => by omega)])) (fun q => Ev.ite (fun q => no (by unfold SC; rw [_root_.if_neg (fun r => by omega)])) (fun q' => ?_))
  by_cases h4 : (l.length : Int) > 4
  · rw [decide_eq_true h4]; exact no (by unfold SC; rw [_root_.if_neg (fun r => by have := r.2.1; omega)])
  · rw [decide_eq_false h4]
    refine Ev.step (fun k => by simp only [impl_ShiftClasses.j0]; rw [_root_.if_neg (by decide)]) ?_
    have inner : ∀ (out : List (List Int)) (i : Nat) (hi : i < l.length) (r : List (List Int) × Bool), out.length ≤ 4 → l[i].length ≤ 81 →
        Ev (fun k => impl_ShiftClasses.l0 k b (out ++ [shift b l[i]]) l (l.length : Int) ((i + 1 : Nat) : Int)) r → ∀ j, j ≤ l[i].length →
        Ev (fun k => impl_ShiftClasses.l1 k b out (shift b (l[i].take j)) l (l.length : Int) (i : Int) l[i] (l[i].length : Int) (j : Int)) r := by
      intro out i hi r ho hl hr
      refine down l[i].length ?_ ?_
      · refine Ev.step (fun k => by simp only [impl_ShiftClasses.l1]; rw [_root_.if_neg (by omega), _root_.if_pos (by omega), wsucc (by omega), List.take_length]) hr
      · intro j hj ih
        refine Ev.step (fun k => by simp only [impl_ShiftClasses.l1]; rw [_root_.if_pos (by omega), _root_.if_pos (by omega), _root_.if_pos (by omega), _root_.if_pos (by unfold shift; rw [List.length_map, List.length_take]; omega), wsucc (by omega), rd_get _ j hj, ← shift_take b _ j hj]) ih
    have outer : ∀ i, i ≤ l.length → Ev (fun k => impl_ShiftClasses.l0 k b ((l.take i).map (shift b)) l (l.length : Int) (i : Int)) (if (l.drop i).all fine = true then (l.map (shift b), true) else ([], false)) := by
      refine down l.length ?_ ?_
      · refine Ev.step (fun k => by simp only [impl_ShiftClasses.l0]; rw [_root_.if_neg (by omega)]) ?_
        rw [List.take_length, List.drop_length]; exact Ev.some _
      · intro i hi ih
        refine Ev.step (fun k => by simp only [impl_ShiftClasses.l0]; rw [_root_.if_pos (by omega), _root_.if_pos (by omega), _root_.if_pos (by omega), rdLL l i hi]) ?_
        refine Ev.bind (numbers_ev _ (by have := hx _ (List.getElem_mem hi); omega)) ?_
        rw [drop_eq l i hi, List.all_cons]
        refine Ev.ite (fun q2 => ?_) (fun q2 => ?_)
        · rw [q2, Bool.true_and]
          have := inner ((l.take i).map (shift b)) i hi _ (by rw [List.length_map, List.length_take]; omega) (fine_len _ q2) (by
            rw [show (l.take i).map (shift b) ++ [shift b l[i]] = (l.take (i + 1)).map (shift b) from by rw [take_succ l i hi, List.map_append]; rfl]; exact ih) 0 (by omega)
          exact this
        · rw [Bool.eq_false_iff.2 q2, Bool.false_and, _root_.if_neg (by simp)]; exact Ev.some _
    refine Ev.same (outer 0 (by omega)) ?_
    rw [List.drop_zero]
    unfold SC
    by_cases q2 : l.all fine = true
    · rw [_root_.if_pos q2, _root_.if_pos ⟨by omega, by omega, q2⟩]
    · rw [_root_.if_neg q2, _root_.if_neg (fun r => q2 r.2.2)]

theorem total_shift (b : Int) (l : List (List Int)) : total (l.map (shift b)) = total l := by
  induction l with
  | nil => rfl
  | cons x xs ih => simp only [List.map_cons, total, ih]; unfold shift; rw [List.length_map]
theorem SC_size (l : List (List Int)) (b : Int) : (SC l b).1.length ≤ l.length ∧ total (SC l b).1 ≤ total l := by
  unfold SC; split
  · exact ⟨by simp, by rw [total_shift]; omega⟩
  · simp [total]

theorem lawShift (A : Option Addr) (c : Nat) (l : List (List Int)) (w : World) (hr : Kd.C (Kd.slice 3 (Kd.int .i64)) w A l.length l) (hc : l.length ≤ c) (hl : l.length ≤ maxLen) (hx : ∀ x ∈ l, x.length ≤ maxLen ∧ ∀ y ∈ x, (Lit.int .i64 y).wf = true) (b : Int) :
    Calls Try.prog 11 #[.slice A l.length c, .int .i64 b] w fun e w' => e = .returned (.bool true) ∧ Below w.heap.size w w' := by
  have hz := szIntSS_ev l 1048576 (by omega) (by omega) hl (fun x h => (hx x h).1)
  by_cases q : (1048576 : Int) < l.length + total l
  · rw [_root_.if_pos q] at hz
    exact FnExactShiftClasses_big0 A c l b (-1) (by omega) w hr hc hz
  · rw [_root_.if_neg q] at hz
    have h1 : l.length ≤ 1048576 := by omega
    have h2 : total l ≤ 1048576 := by omega
    have h3 : ∀ x ∈ l, x.length ≤ 1048576 := fun x h => by have := total_mem l x h; omega
    have hs := SC_size l b
    have he1 := eqIntSS_ev (SC l b).1 (SC l b).1 (by omega) (fun x hx => by have := total_mem _ x hx; omega)
    have he2 := eqIntSS_ev l l (by omega) (fun x hx => by have := h3 x hx; omega)
    rw [decide_eq_true rfl] at he1 he2
    exact FnExactShiftClasses_walk A c l b (SC l b).1 (SC l b).2 _ (by omega) w hr hc (by omega) (by omega) (by omega) (by omega) hz (toIntSS_ev l h1 h2) (specSC_ev l b h1 h3) (implSC_ev l b h1 h3) he1 he2 (heldIntSS_ev _ 1 (by omega) (by omega) (by omega))
theorem lawShift_all (w : World) (A : Option Addr) (c : Nat) (l : List (List Int)) (hr : Kd.C (Kd.slice 3 (Kd.int .i64)) w A l.length l) (hc : l.length ≤ c) (hl : l.length ≤ maxLen) (hx : ∀ x ∈ l, x.length ≤ maxLen ∧ ∀ y ∈ x, (Lit.int .i64 y).wf = true) (b : Int) (_ : (Lit.int .i64 b).wf = true) :
    Calls Try.prog 11 #[.slice A l.length c, .int .i64 b] w fun e w' => e = .returned (.bool true) ∧ Below w.heap.size w w' := lawShift A c l w hr hc hl hx b
end Go.Proofs.Ytpdgjciaihlhmaa.M
