/- Texts of the claim on FnExactIncidenceOf, joined (part 3 of 4): walks of the functions, what they come to, and in the last part the row. No condition of mine. -/
import Derived.Test.YtooamcjgejajeaaBFnExactIncidenceOf2
import Derived.Test.YtooamcjgejajeaaBFnExactIncidenceOf1
/- The incidence of a morphism: program and reference count the same. No condition but lengths that fit. -/
namespace Go.Proofs.Ytooamcjgejajeaa.M
open Go.RowKit Go.Proofs.YtooamcjgejajeaaW.PrintWords Go.Proofs.Ytooamcjgejajeaa.K
set_option linter.unusedVariables false
def cnt (w : List Int) (b : Int) : Nat := w.countP fun x => decide (x = b)
theorem cnt_take (w : List Int) (b : Int) (i : Nat) (h : i < w.length) : cnt (w.take (i + 1)) b = cnt (w.take i) b + (if w[i] = b then 1 else 0) := by
  unfold cnt; rw [take_succ w i h, List.countP_append]
  simp [List.countP_cons]
theorem cnt_le (w : List Int) (b : Int) : cnt w b ≤ w.length := List.countP_le_length
def incRow (w : List Int) (n : Nat) : List Int := row n fun b => (cnt w (b : Int) : Int)
def inc (ms : List (List Int)) : List (List Int) := if mo ms = true then ms.map fun w => incRow w ms.length else []
theorem specCount_ev (w : List Int) (b : Int) (hw : w.length ≤ 1048576) : Ev (fun k => spec_CountLetters.f k w b) (cnt w b : Int) := by
  have key : ∀ i, i ≤ w.length → Ev (fun k => spec_CountLetters.l0 k w b (cnt (w.take i) b : Int) (i : Int)) (cnt w b : Int) := by
    refine down w.length ?_ ?_
    · refine Ev.step (fun k => by simp only [spec_CountLetters.l0]; rw [_root_.if_neg (by omega)]) ?_
      rw [List.take_length]; exact Ev.some _
    · intro i hi ih
      have h1 := cnt_le (w.take i) b
      rw [List.length_take] at h1
      rw [cnt_take w b i hi] at ih
      refine Ev.step (fun k => by simp only [spec_CountLetters.l0]; rw [_root_.if_pos (by omega), _root_.if_pos (by omega), wsucc (i := i) (by omega), rd_get w i hi]) ?_
      refine Ev.ite (fun q => ?_) (fun q => ?_)
      · rw [_root_.if_pos q] at ih
        refine Ev.congr (fun k => by rw [wsucc (by omega)]) ih
      · rw [_root_.if_neg q] at ih; exact ih
  unfold spec_CountLetters.f
  exact key 0 (by omega)

theorem specInc_ev (ms : List (List Int)) (h : ms.length ≤ 1048576) (ht : total ms ≤ 1048576) : Ev (fun k => spec_IncidenceOf.f k ms) (inc ms, mo ms) := by
  have hmo := specIsMorphism_ev ms h ht
  unfold spec_IncidenceOf.f
  by_cases q : mo ms = true
  · unfold inc
    rw [_root_.if_pos q]
    rw [q] at hmo ⊢
    have l1 : ∀ i, i < ms.length → Ev (fun k => spec_IncidenceOf.l0 k ((ms.take (i + 1)).map fun w => incRow w ms.length) ((i + 1 : Nat) : Int) ms) (ms.map (fun w => incRow w ms.length), true) →
        ∀ b, b ≤ ms.length → Ev (fun k => spec_IncidenceOf.l1 k ((ms.take i).map fun w => incRow w ms.length) (i : Int) (row b fun b => (cnt (rd_L1 ms (i : Int)) (b : Int) : Int)) (b : Int) ms) (ms.map (fun w => incRow w ms.length), true) := by
      intro i hi ih0
      refine down ms.length ?_ ?_
      · refine Ev.step (fun k => by simp only [spec_IncidenceOf.l1]; rw [_root_.if_neg (by omega), _root_.if_pos (by rw [List.length_map, List.length_take]; omega), wsucc (by omega)]) ?_
        rw [take_succ ms i hi, List.map_append, List.map_cons, List.map_nil] at ih0
        rw [rdLL ms i hi]; exact ih0
      · intro b hb ih
        refine Ev.step (fun k => by simp only [spec_IncidenceOf.l1]; rw [_root_.if_pos (by omega), _root_.if_pos (by omega), _root_.if_pos (by omega), wsucc (by omega), rdLL ms i hi]) ?_
        refine Ev.bind (specCount_ev _ _ (by have := total_at ms i hi; omega)) ?_
        refine Ev.if_pos (by rw [row_length]; omega) ?_
        rw [row_succ, rdLL ms i hi] at ih; exact ih
    have key : ∀ i, i ≤ ms.length → Ev (fun k => spec_IncidenceOf.l0 k ((ms.take i).map fun w => incRow w ms.length) (i : Int) ms) (ms.map (fun w => incRow w ms.length), true) := by
      refine down ms.length ?_ ?_
      · refine Ev.step (fun k => by simp only [spec_IncidenceOf.l0]; rw [_root_.if_neg (by omega)]) ?_
        refine Ev.step (fun k => by simp only [spec_IncidenceOf.j1]; rw [_root_.if_neg (by simp)]) ?_
        rw [List.take_length]; exact Ev.bind hmo (Ev.some _)
      · intro i hi ih
        refine Ev.step (fun k => by simp only [spec_IncidenceOf.l0]; rw [_root_.if_pos (by omega)]) ?_
        refine Ev.bind hmo ?_
        refine Ev.step (fun k => by simp only [spec_IncidenceOf.j1]; rw [_root_.if_pos trivial]) ?_
        exact l1 i hi ih 0 (by omega)
    exact key 0 (by omega)
  · unfold inc
    rw [_root_.if_neg q]
    rw [Bool.eq_false_iff.2 q] at hmo ⊢
    have fin : Ev (fun k => spec_IncidenceOf.j1 k [] 0 false ms) ([], false) := by
      refine Ev.step (fun k => by simp only [spec_IncidenceOf.j1]; rw [_root_.if_neg (by simp)]) ?_
      exact Ev.bind hmo (Ev.some _)
    refine Ev.step (fun k => by simp only [spec_IncidenceOf.l0]; rfl) ?_
    refine Ev.ite (fun _ => ?_) (fun _ => ?_)
    · exact Ev.bind hmo fin
    · exact fin

theorem mo_letters {ms : List (List Int)} (h : mo ms = true) (i : Nat) (hi : i < ms.length) (j : Nat) (hj : j < ms[i].length) : 0 ≤ ms[i][j] ∧ ms[i][j] < (ms.length : Int) := by
  unfold mo isL at h
  rw [Bool.and_eq_true, List.all_eq_true] at h
  have := h.2 _ (List.getElem_mem hi)
  rw [Bool.and_eq_true, List.all_eq_true] at this
  exact of_decide_eq_true (this.2 _ (List.getElem_mem hj))

theorem implInc_ev (ms : List (List Int)) (h : ms.length ≤ 1048576) (ht : total ms ≤ 1048576) : Ev (fun k => impl_IncidenceOf.f k ms) (inc ms, mo ms) := by
  unfold impl_IncidenceOf.f
  refine Ev.bind (Ev.some _) (Ev.bind (implIsMorphism_ev ms h ht) ?_)
  by_cases q : mo ms = true
  · unfold inc
    rw [_root_.if_pos q]
    refine Ev.if_pos q ?_
    rw [q]
    have l1 : ∀ i, i < ms.length → ∀ (w : List Int), w = rd_L1 ms (i : Int) → w.length ≤ 8 → (∀ j, (hj : j < w.length) → 0 ≤ w[j] ∧ w[j] < (ms.length : Int)) → Ev (fun k => impl_IncidenceOf.l0 k (((ms.take i).map fun w => incRow w ms.length) ++ [incRow w ms.length]) ms (ms.length : Int) ((i + 1 : Nat) : Int) ms) (ms.map (fun w => incRow w ms.length), true) →
        ∀ j, j ≤ w.length → Ev (fun k => impl_IncidenceOf.l1 k ((ms.take i).map fun w => incRow w ms.length) (incRow (w.take j) ms.length) ms (ms.length : Int) (i : Int) w (w.length : Int) (j : Int) ms) (ms.map (fun w => incRow w ms.length), true) := by
      intro i hi w hwe hw8 hl ih0
      refine down w.length ?_ ?_
      · refine Ev.step (fun k => by simp only [impl_IncidenceOf.l1]; rw [_root_.if_neg (by omega), _root_.if_pos (by rw [List.length_map, List.length_take]; omega), wsucc (by omega)]) ?_
        rw [List.take_length]; exact ih0
      · intro j hj ih
        have h1 := hl j hj
        obtain ⟨x, hx⟩ : ∃ x : Nat, w[j] = (x : Int) := ⟨w[j].toNat, by omega⟩
        have h2 := cnt_le (w.take j) (x : Int)
        rw [List.length_take] at h2
        have e : (incRow (w.take j) ms.length).set ((w[j]) : Int).toNat (wrap64 (rd (incRow (w.take j) ms.length) w[j] + 1)) = incRow (w.take (j + 1)) ms.length := by
          rw [hx, Int.toNat_natCast]
          unfold incRow
          rw [rd_row _ _ _ (by omega), row_set]
          refine row_congr _ _ _ (fun b hb => ?_)
          rw [cnt_take w _ j hj, hx]
          by_cases e : b = x
          · rw [_root_.if_pos e, e, _root_.if_pos rfl, w_id (by omega) (by omega)]; omega
          · rw [_root_.if_neg e, _root_.if_neg (by omega)]; rfl
        refine Ev.step (fun k => by simp only [impl_IncidenceOf.l1]; rw [_root_.if_pos (by omega), _root_.if_pos (by omega), _root_.if_pos (by omega), wsucc (by omega), rd_get w j hj, _root_.if_pos h1.1, _root_.if_pos (by unfold incRow; rw [row_length]; exact h1.2), e]) ih
    have key : ∀ i, i ≤ ms.length → Ev (fun k => impl_IncidenceOf.l0 k ((ms.take i).map fun w => incRow w ms.length) ms (ms.length : Int) (i : Int) ms) (ms.map (fun w => incRow w ms.length), true) := by
      refine down ms.length ?_ ?_
      · refine Ev.step (fun k => by simp only [impl_IncidenceOf.l0]; rw [_root_.if_neg (by omega)]) ?_
        rw [List.take_length]; exact Ev.some _
      · intro i hi ih
        rw [take_succ ms i hi, List.map_append, List.map_cons, List.map_nil] at ih
        refine Ev.step (fun k => by simp only [impl_IncidenceOf.l0]; rw [_root_.if_pos (by omega), _root_.if_pos (by omega), _root_.if_pos (by omega), _root_.if_pos (by omega), _root_.if_pos (by omega), Int.toNat_natCast]) ?_
        have hr := rdLL ms i hi
        have := l1 i hi (rd_L1 ms (i : Int)) rfl (by rw [hr]; exact mo_at q i hi) (fun j hj => by simp only [hr] at hj ⊢; exact mo_letters q i hi j hj) (by rw [hr]; exact ih) 0 (by omega)
        have e : incRow ((rd_L1 ms (i : Int)).take 0) ms.length = List.replicate ms.length 0 := by
          rw [row_replicate]; unfold incRow; exact row_congr _ _ _ (fun b _ => by simp [cnt])
        rw [e] at this
        exact this
    exact key 0 (by omega)
  · unfold inc
    rw [_root_.if_neg q]
    refine Ev.if_neg q ?_
    rw [Bool.eq_false_iff.2 q]; exact Ev.some _
theorem inc_len (ms : List (List Int)) : (inc ms).length ≤ 16 ∧ ∀ r ∈ inc ms, r.length = ms.length ∧ r.length ≤ 16 := by
  unfold inc
  split
  · rename_i q
    have : ms.length ≤ 16 := by unfold mo at q; rw [Bool.and_eq_true] at q; exact (of_decide_eq_true q.1).2
    refine ⟨by rw [List.length_map]; exact this, fun r hr => ?_⟩
    obtain ⟨w, _, rfl⟩ := List.mem_map.1 hr
    unfold incRow; rw [row_length]; exact ⟨rfl, this⟩
  · simp
theorem total_le (xs : List (List Int)) (c : Nat) (h : ∀ r ∈ xs, r.length ≤ c) : total xs ≤ c * xs.length := by
  induction xs with
  | nil => simp [total]
  | cons x xs ih =>
    have h1 := ih (fun r hr => h r (List.mem_cons_of_mem _ hr))
    have h2 := h x (List.mem_cons_self ..)
    simp only [total, List.length_cons, Nat.mul_succ]; omega
end Go.Proofs.Ytooamcjgejajeaa.M
/- The marks that markIntSS lays are found by heldIntSS. No condition but that sizes fit. -/
namespace Go.Proofs.Ytooamcjgejajeaa.M
open Go.RowKit Go.Proofs.YtooamcjgejajeaaW.PrintWords Go.Proofs.Ytooamcjgejajeaa.K

theorem heldIntSS_ev (xs : List (List Int)) (m : Int) (h0 : 0 ≤ m) (h : m + total xs < 1000000000000000000) (hl : xs.length < 1000000000000000000) : Ev (fun k => laws_heldIntSS.f k (marksS xs m) m) (m + total xs) := by
  have hml := marksS_length xs m
  have at_ : ∀ i (hi : i < xs.length), rd_L1 (marksS xs m) (i : Int) = marks xs[i].length (m + total (xs.take i)) := by
    intro i hi
    rw [rdLL _ i (by omega)]
    have e := half_set xs m i hi
    have e2 : (half xs m (i + 1))[i]? = some (marks xs[i].length (m + total (xs.take i))) := by rw [← e, List.getElem?_set_self (by rw [half_length xs m i (by omega)]; exact hi)]
    have e3 : marksS xs m = marksS (xs.take (i + 1)) m ++ marksS (xs.drop (i + 1)) (m + total (xs.take (i + 1))) := by rw [← marksS_append, List.take_append_drop]
    have e4 : (marksS xs m)[i]? = some (marks xs[i].length (m + total (xs.take i))) := by
      rw [e3, List.getElem?_append_left (by rw [marksS_length, List.length_take]; omega)]
      unfold half at e2
      rwa [List.getElem?_append_left (by rw [marksS_length, List.length_take]; omega)] at e2
    exact Option.some.inj ((List.getElem?_eq_getElem (by omega)).symm.trans e4)
  have key : ∀ i, i ≤ xs.length → Ev (fun k => laws_heldIntSS.l0 k (marksS xs m) (m + total (xs.take i)) (i : Int)) (m + total xs) := by
    refine down xs.length ?_ ?_
    · refine Ev.step (fun k => by simp only [laws_heldIntSS.l0]; rw [_root_.if_neg (by omega)]) ?_
      rw [List.take_length]; exact Ev.some _
    · intro i hi ih
      have e := total_take xs i hi
      have e2 := total_take_le xs (i + 1)
      refine Ev.step (fun k => by simp only [laws_heldIntSS.l0]; rw [_root_.if_pos (by omega), _root_.if_pos (by omega), wsucc (by omega), at_ i hi]) ?_
      refine Ev.bind (heldIntS_ev xs[i].length (m + total (xs.take i)) (by omega) (by omega)) ?_
      refine Ev.if_neg (by omega) ?_
      rw [show m + (total (xs.take i) : Int) + (xs[i].length : Int) = m + (total (xs.take (i + 1)) : Int) from by omega]
      exact ih
  unfold laws_heldIntSS.f
  have := key 0 (by omega)
  simpa [total] using this

end Go.Proofs.Ytooamcjgejajeaa.M
/- The law of IncidenceOf: program and reference count the same. No condition. -/

namespace Go.Proofs.Ytooamcjgejajeaa.M
open Go.RowKit Go.Proofs.YtooamcjgejajeaaW.PrintWords Go.Proofs.Ytooamcjgejajeaa.K
set_option linter.unusedVariables false
theorem lawInc (w : World) (A : Option Addr) (c : Nat) (l : List (List Int)) (hr : Kd.C (Kd.slice 3 (Kd.int .i64)) w A l.length l) (hc : l.length ≤ c) (hm : l.length ≤ maxLen) (hx : ∀ x ∈ l, x.length ≤ maxLen ∧ ∀ y ∈ x, (Lit.int .i64 y).wf = true) :
    Calls Try.prog 3 #[.agg #[.slice A l.length c]] w fun e w' => e = .returned (.bool true) ∧ Below w.heap.size w w' := by
  have hz := szMorphism_ev l hm (fun x hx' => (hx x hx').1)
  by_cases q : (1048576 : Int) < l.length + total l
  · rw [_root_.if_pos q] at hz
    exact FnExactIncidenceOf_big0 A c l (-1) (by omega) w hr hc hz
  · rw [_root_.if_neg q] at hz
    have h1 : l.length ≤ 1048576 := by omega
    have h2 : total l ≤ 1048576 := by omega
    have hi := inc_len l
    have ht := total_le (inc l) 16 (fun r hr => (hi.2 r hr).2)
    have he := eqIntSS_ev (inc l) (inc l) (by omega) (fun x hx => by have := (hi.2 x hx).2; omega)
    rw [decide_eq_true rfl] at he
    exact FnExactIncidenceOf_walk A c l (inc l) (mo l) _ (by omega) w hr hc (by omega) (by omega) (by omega) (by omega) hz (toMorphism_ev l h1 h2) (specInc_ev l h1 h2) (implInc_ev l h1 h2) he (eqMorphism_ev l h1 h2) (heldIntSS_ev _ 1 (by omega) (by omega) (by omega))
end Go.Proofs.Ytooamcjgejajeaa.M
