/- For every whole number, the program's ClaimWord gives the same word as the reference's. No condition. -/
import Derived.Test.YtpdgjciaihlhmaaPFnExactClaimWordx1
namespace Go.Proofs.Ytpdgjciaihlhmaa.Pure
open Go.RowKit Go.Proofs.Ytpdgjciaihlhmaa.PFnExactClaimWord Go.Proofs.YtpdgjciaihlhmaaW.PrintWords Go.Proofs.YtpdgjciaihlhmaaW.PrintLast

theorem FnExactClaimWord : laws_FnExactClaimWord.Pure := by
  intro a0 _
  unfold laws_FnExactClaimWord.f spec_ClaimWord.f impl_ClaimWord.f spec_l1In.f
  by_cases h1 : a0 < 1
  · rw [if_neg (by omega), if_pos h1]; simp
  · by_cases h2 : 6 < a0
    · rw [if_pos (by omega), if_neg h1, if_pos h2]
      simp [decide_eq_false (show ¬ a0 ≤ 6 by omega)]
    · rw [if_pos (by omega), if_neg h1, if_neg h2]
      have h : a0 = 1 ∨ a0 = 2 ∨ a0 = 3 ∨ a0 = 4 ∨ a0 = 5 ∨ a0 = 6 := by omega
      rcases h with rfl | rfl | rfl | rfl | rfl | rfl <;> simp [wrap64, rdOf]

end Go.Proofs.Ytpdgjciaihlhmaa.Pure
