/- The law of DigitClasses: where the arguments are refused both give no rows, and the few others are reckoned. No condition but what the form hands over. -/
import Derived.Test.YtpdgjciaihlhmaaWDigitClasses
import Derived.Test.YtpdgjciaihlhmaaM1
import Derived.Test.YtpdgjciaihlhmaaM55
import Derived.Test.YtpdgjciaihlhmaaM56
import Derived.Test.YtpdgjciaihlhmaaM57
namespace Go.Proofs.Ytpdgjciaihlhmaa.M
open Go.RowKit Go.Proofs.YtpdgjciaihlhmaaW.PrintWords Go.Proofs.Ytpdgjciaihlhmaa.K
set_option maxRecDepth 100000

def okDC (b n : Int) : Bool :=
  match spec_DigitClasses.f 200 b n with
  | some (R, c) => decide (impl_DigitClasses.f 200 b n = some (R, c)) && (decide (total R ≤ 1000) && decide (R.length ≤ 1000))
  | none => false
theorem okDC_two : okDC 2 0 = true ∧ okDC 2 1 = true ∧ okDC 2 2 = true ∧ okDC 2 3 = true ∧ okDC 2 4 = true ∧ okDC 2 5 = true := by decide +kernel
theorem okDC_three : okDC 3 0 = true ∧ okDC 3 1 = true ∧ okDC 3 2 = true ∧ okDC 3 3 = true ∧ okDC 3 4 = true ∧ okDC 3 5 = true := by decide +kernel
theorem okDC_gives (b n : Int) (h : okDC b n = true) : ∃ R c, Ev (fun k => spec_DigitClasses.f k b n) (R, c) ∧ Ev (fun k => impl_DigitClasses.f k b n) (R, c) ∧ total R ≤ 1000 ∧ R.length ≤ 1000 := by
  unfold okDC at h
  split at h
  · rename_i R c hs
    simp only [Bool.and_eq_true, decide_eq_true_eq] at h
    exact ⟨R, c, Ev.of (spec_DigitClasses.mono _ _) hs, Ev.of (impl_DigitClasses.mono _ _) h.1, h.2.1, h.2.2⟩
  · cases h

attribute [local irreducible] okDC
theorem DC_ev (b n : Int) : ∃ R c, Ev (fun k => spec_DigitClasses.f k b n) (R, c) ∧ Ev (fun k => impl_DigitClasses.f k b n) (R, c) ∧ total R ≤ 1000 ∧ R.length ≤ 1000 := by
  by_cases hb : b = 2 ∨ b = 3
  · by_cases hn : 0 ≤ n ∧ n ≤ 5
    · have h5 : n = 0 ∨ n = 1 ∨ n = 2 ∨ n = 3 ∨ n = 4 ∨ n = 5 := by omega
      obtain ⟨t0, t1, t2, t3, t4, t5⟩ := okDC_two
      obtain ⟨u0, u1, u2, u3, u4, u5⟩ := okDC_three
      rcases hb with rfl | rfl <;> rcases h5 with rfl | rfl | rfl | rfl | rfl | rfl <;> exact okDC_gives _ _ (by assumption)
    · refine ⟨[], false, ?_, ?_, by simp [total], by simp⟩
      · unfold spec_DigitClasses.f
        refine Ev.congr (fun k => Option.bind_some _ _) ?_
        have e1 : spec_l1In.f b 2 3 = some true := by rcases hb with rfl | rfl <;> rfl
        have e2 : spec_l1In.f n 0 5 = some false := by
          unfold spec_l1In.f
          by_cases q : n ≥ 0
          · rw [_root_.if_pos q, decide_eq_false (by omega)]
          · rw [_root_.if_neg q]
        refine Ev.bind (Ev.val e1) (Ev.if_pos rfl (Ev.bind (Ev.val e2) (Ev.if_neg (by simp) ?_)))
        exact Ev.step (fun k => by simp only [spec_DigitClasses.j0]; rw [_root_.if_pos trivial]) (Ev.some _)
      · unfold impl_DigitClasses.f
        have e1 : impl_isSmallBase.f b = some true := by rcases hb with rfl | rfl <;> rfl
        have e3 : Ev (fun k => impl_DigitClasses.j0 k b n true) ([], false) := Ev.step (fun k => by simp only [impl_DigitClasses.j0]; rw [_root_.if_pos trivial]) (Ev.some _)
        exact Ev.bind (Ev.val e1) (Ev.if_pos rfl (Ev.ite (fun _ => e3) (fun _ => Ev.if_pos (by omega) e3)))
  · refine ⟨[], false, ?_, ?_, by simp [total], by simp⟩
    · unfold spec_DigitClasses.f
      refine Ev.congr (fun k => Option.bind_some _ _) ?_
      have e1 : spec_l1In.f b 2 3 = some false := by
        unfold spec_l1In.f
        by_cases q : b ≥ 2
        · rw [_root_.if_pos q, decide_eq_false (by omega)]
        · rw [_root_.if_neg q]
      refine Ev.bind (Ev.val e1) (Ev.if_neg (by simp) ?_)
      exact Ev.step (fun k => by simp only [spec_DigitClasses.j0]; rw [_root_.if_pos trivial]) (Ev.some _)
    · unfold impl_DigitClasses.f
      have e1 : impl_isSmallBase.f b = some false := by
        unfold impl_isSmallBase.f
        rw [_root_.if_neg (by omega)]
        simp; omega
      refine Ev.bind (Ev.val e1) (Ev.if_neg (by simp) ?_)
      exact Ev.step (fun k => by simp only [impl_DigitClasses.j0]; rw [_root_.if_pos trivial]) (Ev.some _)

theorem lawDC_all (a0 : Int) (_ : (Lit.int .i64 a0).wf = true) (a1 : Int) (_ : (Lit.int .i64 a1).wf = true) (w : World) : Calls Try.prog 10 #[.int .i64 a0, .int .i64 a1] w fun e w' => e = .returned (.bool true) ∧ Below w.heap.size w w' := by
  obtain ⟨R, c, hs, hi, ht, hl⟩ := DC_ev a0 a1
  have he := eqIntSS_ev R R (by omega) (fun x hx => by have := total_mem R x hx; omega)
  rw [decide_eq_true rfl] at he
  have hh := heldIntSS_ev R 1 (by omega) (by omega) (by omega)
  obtain ⟨k1, h1⟩ := hs
  obtain ⟨k2, h2⟩ := hi
  obtain ⟨k3, h3⟩ := he
  obtain ⟨k4, h4⟩ := hh
  exact lawDC (k1 + k2 + k3 + k4) a0 a1 R c w (by omega) (by omega) (h1 _ (by omega)) (h2 _ (by omega)) (h3 _ (by omega)) (h4 _ (by omega))
end Go.Proofs.Ytpdgjciaihlhmaa.M
