/- Texts of the claim on FnExactBrokenWord, joined (part 4 of 5): walks of the functions, what they come to, and in the last part the row. No condition of mine. -/
import Derived.Test.YtooamcjgejajeaaBFnExactBrokenWord3
import Derived.Test.YtooamcjgejajeaaBFnExactBrokenWord2
import Derived.Test.YtooamcjgejajeaaBFnExactBrokenWord1
/- The first word without squares whose image has one: program and reference find the same. No condition but lengths that fit. -/
namespace Go.Proofs.Ytooamcjgejajeaa.M
open Go.RowKit Go.Proofs.YtooamcjgejajeaaW.PrintWords Go.Proofs.Ytooamcjgejajeaa.K
set_option linter.unusedVariables false

noncomputable def fb (ms : List (List Int)) : List (List Int) → List Int × Bool
  | [] => ([], false)
  | w :: ws => if (am ms w).2 = true ∧ hasPower (am ms w).1 2 1 = false then fb ms ws else (w, true)
noncomputable def bw (ms : List (List Int)) (a1 : Int) : List Int × Bool := if (mo ms = true ∧ ms.length ≤ 4) ∧ 0 ≤ a1 ∧ a1 ≤ 5 then fb ms (fw ms.length (tst false) a1.toNat) else ([], false)
theorem fw_smallB (m : Nat) (p : List Int → Bool) (n : Nat) (hm : m ≤ 4) (hn : n ≤ 10) : (fw m p n).length ≤ 1000000000000 := Nat.le_trans (fw_le m p n) (small_pow m n hm hn n (Nat.le_refl _))
theorem mo_pos {ms : List (List Int)} (h : mo ms = true) : 1 ≤ ms.length := by
  unfold mo at h
  rw [Bool.and_eq_true] at h
  exact (of_decide_eq_true h.1).1

theorem specSF_ev (m : Nat) (a1 : Int) (hm : 1 ≤ m) (hm4 : m ≤ 4) : Ev (fun k => spec_SquareFreeWords.f k (m : Int) a1) (if 0 ≤ a1 ∧ a1 ≤ 5 then (fw m (tst false) a1.toNat, true) else ([], false)) := by
  unfold spec_SquareFreeWords.f
  refine Ev.bind (Ev.val (l1In_val _ _ _)) ?_
  rw [decide_eq_true (by omega)]
  refine Ev.if_pos rfl (Ev.bind (Ev.val (l1In_val _ _ _)) ?_)
  by_cases q2 : 0 ≤ a1 ∧ a1 ≤ 5
  · rw [decide_eq_true q2, _root_.if_pos q2]
    obtain ⟨n, rfl⟩ : ∃ n : Nat, a1 = (n : Int) := ⟨a1.toNat, by omega⟩
    exact Ev.if_pos rfl (Ev.bind (l29_ev m n false (by omega) (by omega) (small_pow m n (by omega) (by omega))) (Ev.some _))
  · rw [decide_eq_false q2, _root_.if_neg q2]; exact Ev.if_neg (by simp) (Ev.some _)

theorem specBW_ev (ms : List (List Int)) (a1 : Int) (h : ms.length ≤ 1048576) (ht : total ms ≤ 1048576) : Ev (fun k => spec_BrokenWord.f k ms a1) (bw ms a1) := by
  have bad : ¬ (mo ms = true ∧ ms.length ≤ 4) → Ev (fun k => spec_BrokenWord.j0 k a1 true ms) (bw ms a1) := fun q => by
    unfold bw; rw [_root_.if_neg (fun h => q h.1)]
    refine Ev.step (fun k => by simp only [spec_BrokenWord.j0]; rw [_root_.if_pos trivial]) ?_
    exact Ev.some _
  unfold spec_BrokenWord.f
  refine Ev.bind (specIsMorphism_ev ms h ht) ?_
  by_cases q1 : mo ms = true
  · refine Ev.if_pos q1 ?_
    by_cases q2 : ms.length ≤ 4
    · rw [decide_eq_false (by omega)]
      refine Ev.step (fun k => by simp only [spec_BrokenWord.j0]; rw [_root_.if_neg (by simp)]) ?_
      refine Ev.bind (specSF_ev ms.length a1 (mo_pos q1) q2) ?_
      unfold bw
      by_cases q3 : 0 ≤ a1 ∧ a1 ≤ 5
      · rw [_root_.if_pos q3, _root_.if_pos ⟨⟨q1, q2⟩, q3⟩]
        obtain ⟨n, rfl⟩ : ∃ n : Nat, a1 = (n : Int) := ⟨a1.toNat, by omega⟩
        rw [Int.toNat_natCast]
        have hS := fw_smallB ms.length (tst false) n (by omega) (by omega)
        have hL := fw_len ms.length (tst false) n
        generalize fw ms.length (tst false) n = ws at hS hL
        have key : ∀ i, i ≤ ws.length → Ev (fun k => spec_BrokenWord.l0 k ws true (i : Int) ms) (fb ms (ws.drop i)) := by
          refine down ws.length ?_ ?_
          · refine Ev.step (fun k => by simp only [spec_BrokenWord.l0]; rw [_root_.if_neg (by omega)]) ?_
            refine Ev.step (fun k => by simp only [spec_BrokenWord.j2]; rw [_root_.if_neg (by simp)]) ?_
            rw [List.drop_length]; exact Ev.some _
          · intro i hi ih
            rw [drop_eq ws i hi]
            have hli := hL _ (List.getElem_mem hi)
            refine Ev.step (fun k => by simp only [spec_BrokenWord.l0]; rw [_root_.if_pos (by omega)]) ?_
            refine Ev.step (fun k => by simp only [spec_BrokenWord.j2]; rw [_root_.if_pos trivial, _root_.if_pos (by omega), _root_.if_pos (by omega), wsucc (by omega), rdLL ws i hi]) ?_
            refine Ev.bind (specApply_ev ms ws[i] h ht (by omega)) ?_
            simp only [fb]
            refine Ev.ite (fun q => ?_) (fun q => ?_)
            · refine Ev.bind (specSquare_ev _ (by have := am_len ms ws[i]; omega)) ?_
              refine Ev.ite (fun q' => ?_) (fun q' => ?_)
              · rw [_root_.if_neg (fun h => by rw [h.2] at q'; cases q')]
                refine Ev.bind (Ev.some _) (Ev.if_pos (by simp; omega) (Ev.some _))
              · rw [_root_.if_pos ⟨q, Bool.eq_false_iff.2 q'⟩]; exact ih
            · rw [_root_.if_neg (fun h => q h.1)]
              refine Ev.bind (Ev.some _) (Ev.if_pos (by simp; omega) (Ev.some _))
        exact key 0 (by omega)
      · rw [_root_.if_neg q3, _root_.if_neg (fun h => q3 h.2)]
        refine Ev.step (fun k => by simp only [spec_BrokenWord.l0]; rw [_root_.if_neg (by simp)]) ?_
        refine Ev.step (fun k => by simp only [spec_BrokenWord.j2]; rw [_root_.if_neg (by simp)]) ?_
        exact Ev.some _
    · rw [decide_eq_true (by omega)]; exact bad (fun h => q2 h.2)
  · exact Ev.if_neg q1 (bad (fun h => q1 h.1))

theorem isTried_ev (ms : List (List Int)) (a1 : Int) (h : ms.length ≤ 1048576) (ht : total ms ≤ 1048576) : Ev (fun k => impl_isTried.f k ms a1) (decide ((mo ms = true ∧ ms.length ≤ 4) ∧ 0 ≤ a1 ∧ a1 ≤ 5)) := by
  unfold impl_isTried.f
  refine Ev.bind (implIsMorphism_ev ms h ht) ?_
  refine Ev.ite (fun q1 => ?_) (fun q1 => ?_)
  · refine Ev.ite (fun q2 => ?_) (fun q2 => ?_)
    · refine Ev.ite (fun q3 => ?_) (fun q3 => ?_)
      · refine Ev.same (Ev.some _) ?_
        rw [decide_eq_decide]
        exact ⟨fun q4 => ⟨⟨q1, by omega⟩, by omega, q4⟩, fun q => q.2.2⟩
      · rw [decide_eq_false (fun q => q3 q.2.1)]; exact Ev.some _
    · rw [decide_eq_false (fun q => q2 (by omega))]; exact Ev.some _
  · rw [decide_eq_false (fun q => q1 q.1.1)]; exact Ev.some _

theorem implBW_ev (ms : List (List Int)) (a1 : Int) (h : ms.length ≤ 1048576) (ht : total ms ≤ 1048576) : Ev (fun k => impl_BrokenWord.f k ms a1) (bw ms a1) := by
  unfold impl_BrokenWord.f bw
  refine Ev.bind (isTried_ev ms a1 h ht) ?_
  by_cases q : (mo ms = true ∧ ms.length ≤ 4) ∧ 0 ≤ a1 ∧ a1 ≤ 5
  · rw [decide_eq_true q, _root_.if_pos q]
    refine Ev.if_pos rfl ?_
    obtain ⟨n, rfl⟩ : ∃ n : Nat, a1 = (n : Int) := ⟨a1.toNat, by omega⟩
    rw [Int.toNat_natCast]
    refine Ev.bind (impl_freeWords_of121.ev ms.length n (by omega) (by omega)) ?_
    have hS := fw_smallB ms.length (tst false) n (by omega) (by omega)
    have hL := fw_len ms.length (tst false) n
    generalize fw ms.length (tst false) n = ws at hS hL
    have key : ∀ i, i ≤ ws.length → Ev (fun k => impl_BrokenWord.l0 k ws (ws.length : Int) (i : Int) ms) (fb ms (ws.drop i)) := by
      refine down ws.length ?_ ?_
      · refine Ev.step (fun k => by simp only [impl_BrokenWord.l0]; rw [_root_.if_neg (by omega)]) ?_
        rw [List.drop_length]; exact Ev.some _
      · intro i hi ih
        rw [drop_eq ws i hi]
        have hli := hL _ (List.getElem_mem hi)
        refine Ev.step (fun k => by simp only [impl_BrokenWord.l0]; rw [_root_.if_pos (by omega), _root_.if_pos (by omega), _root_.if_pos (by omega), wsucc (by omega), rdLL ws i hi]) ?_
        refine Ev.bind (implApply_ev ms ws[i] h ht (by omega)) ?_
        simp only [fb]
        refine Ev.ite (fun q => ?_) (fun q => ?_)
        · refine Ev.bind (implSquare_ev _ (by have := am_len ms ws[i]; omega)) ?_
          refine Ev.ite (fun q' => ?_) (fun q' => ?_)
          · rw [_root_.if_neg (fun h => by rw [h.2] at q'; cases q')]; exact Ev.some _
          · rw [_root_.if_pos ⟨q, Bool.eq_false_iff.2 q'⟩]; exact ih
        · rw [_root_.if_neg (fun h => q h.1)]; exact Ev.some _
    exact key 0 (by omega)
  · rw [decide_eq_false q, _root_.if_neg q]; exact Ev.if_neg (by simp) (Ev.some _)

noncomputable def ksf (ms : List (List Int)) (a1 : Int) : Bool := decide ((mo ms = true ∧ ms.length ≤ 4) ∧ 0 ≤ a1 ∧ a1 ≤ 5) && !(bw ms a1).2
theorem specKSF_ev (ms : List (List Int)) (a1 : Int) (h : ms.length ≤ 1048576) (ht : total ms ≤ 1048576) : Ev (fun k => spec_KeepsSquareFree.f k ms a1) (ksf ms a1) := by
  unfold spec_KeepsSquareFree.f ksf
  refine Ev.bind (specBW_ev ms a1 h ht) (Ev.bind (specIsMorphism_ev ms h ht) ?_)
  refine Ev.ite (fun q1 => ?_) (fun q1 => ?_)
  · refine Ev.ite (fun q2 => ?_) (fun q2 => ?_)
    · refine Ev.bind (Ev.val (l1In_val _ _ _)) ?_
      refine Ev.ite (fun q3 => ?_) (fun q3 => ?_)
      · have q3 := of_decide_eq_true q3
        rw [decide_eq_true ⟨⟨q1, by omega⟩, q3⟩, Bool.true_and]; exact Ev.some _
      · rw [decide_eq_false (fun q => q3 (decide_eq_true q.2)), Bool.false_and]; exact Ev.some _
    · rw [decide_eq_false (fun q => q2 (by omega)), Bool.false_and]; exact Ev.some _
  · rw [decide_eq_false (fun q => q1 q.1.1), Bool.false_and]; exact Ev.some _
theorem implKSF_ev (ms : List (List Int)) (a1 : Int) (h : ms.length ≤ 1048576) (ht : total ms ≤ 1048576) : Ev (fun k => impl_KeepsSquareFree.f k ms a1) (ksf ms a1) := by
  unfold impl_KeepsSquareFree.f ksf
  refine Ev.bind (implBW_ev ms a1 h ht) (Ev.bind (isTried_ev ms a1 h ht) ?_)
  refine Ev.ite (fun q => ?_) (fun q => ?_)
  · rw [q, Bool.true_and]; exact Ev.some _
  · rw [Bool.eq_false_iff.2 q, Bool.false_and]; exact Ev.some _
end Go.Proofs.Ytooamcjgejajeaa.M
/- The law of BrokenWord: program and reference find the same word, and what is handed back is its own. No condition. -/

namespace Go.Proofs.Ytooamcjgejajeaa.M
open Go.RowKit Go.Proofs.YtooamcjgejajeaaW.PrintWords Go.Proofs.Ytooamcjgejajeaa.K
set_option linter.unusedVariables false
theorem fb_len (ms : List (List Int)) : ∀ ws : List (List Int), (∀ u ∈ ws, u.length ≤ 10) → (fb ms ws).1.length ≤ 10
  | [], _ => by simp [fb]
  | v :: ws, h => by
    simp only [fb]
    split
    · exact fb_len ms ws (fun u hu => h u (List.mem_cons_of_mem _ hu))
    · exact h v (List.mem_cons_self ..)
theorem bw_len (ms : List (List Int)) (a1 : Int) : (bw ms a1).1.length ≤ 10 := by
  unfold bw
  split
  · rename_i q
    exact fb_len ms _ (fun u hu => by rw [fw_len _ _ _ u hu]; omega)
  · simp
theorem lawBW (w : World) (A : Option Addr) (c : Nat) (l : List (List Int)) (hr : Kd.C (Kd.slice 3 (Kd.int .i64)) w A l.length l) (hc : l.length ≤ c) (hm : l.length ≤ maxLen) (hx : ∀ x ∈ l, x.length ≤ maxLen ∧ ∀ y ∈ x, (Lit.int .i64 y).wf = true) (a1 : Int) (_ : (Lit.int .i64 a1).wf = true) :
    Calls Try.prog 9 #[.agg #[.slice A l.length c], .int .i64 a1] w fun e w' => e = .returned (.bool true) ∧ Below w.heap.size w w' := by
  have hz := szMorphism_ev l hm (fun x hx' => (hx x hx').1)
  by_cases q : (1048576 : Int) < l.length + total l
  · rw [_root_.if_pos q] at hz
    exact FnExactBrokenWord_big0 A c l a1 (-1) (by omega) w hr hc hz
  · rw [_root_.if_neg q] at hz
    have h1 : l.length ≤ 1048576 := by omega
    have h2 : total l ≤ 1048576 := by omega
    have hb := bw_len l a1
    have he := eqIntS_ev (bw l a1).1 (bw l a1).1 (by omega)
    rw [decide_eq_true rfl] at he
    exact FnExactBrokenWord_walk A c l a1 (bw l a1).1 (bw l a1).2 _ (by omega) w hr hc (by omega) (by omega) (by omega) hz (toMorphism_ev l h1 h2) (specBW_ev l a1 h1 h2) (implBW_ev l a1 h1 h2) he (eqMorphism_ev l h1 h2) (markIntS_ev _ 1 (by omega) (by omega)) (heldIntS_ev _ 1 (by omega) (by omega))
end Go.Proofs.Ytooamcjgejajeaa.M
