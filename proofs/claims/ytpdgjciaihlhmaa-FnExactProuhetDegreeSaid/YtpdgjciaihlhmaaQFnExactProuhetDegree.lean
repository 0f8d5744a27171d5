/- The law of ProuhetDegree holds of what program and reference come to. No condition but what the form hands over. -/
import Derived.Test.YtpdgjciaihlhmaaSFnExactProuhetDegree
import Derived.Test.YtpdgjciaihlhmaaEqualSums
import Derived.Test.YtpdgjciaihlhmaaM75
namespace Go.Proofs.Ytpdgjciaihlhmaa.Pure
open Go.RowKit Go.Proofs.YtpdgjciaihlhmaaW.PrintWords Go.Proofs.Ytpdgjciaihlhmaa.K Go.Proofs.Ytpdgjciaihlhmaa.M

theorem fnExactProuhetDegree : FnExactProuhetDegree.Pure := by
  intro l hl hx
  have hx' : ∀ x ∈ l, x.length ≤ maxLen := fun x h => (hx x h).1
  suffices h : Ev (fun k => laws_FnExactProuhetDegree.f k l) true from h.rounds
  unfold laws_FnExactProuhetDegree.f
  refine Ev.bind (szIntSS_ev l 1048576 (by omega) (by omega) hl hx') ?_
  refine Ev.ite (fun _ => Ev.some _) (fun q => ?_)
  have hs : ¬ (1048576 : Int) < l.length + total l := fun h => q (by rw [_root_.if_pos h]; omega)
  have h1 : l.length ≤ 1048576 := by omega
  have h2 : total l ≤ 1048576 := by omega
  have h3 : ∀ x ∈ l, x.length ≤ 1048576 := fun x h => by have := total_mem l x h; omega
  refine Ev.bind (toIntSS_ev l h1 h2) (Ev.bind (specPD_ev l h1 h3) (Ev.bind (toIntSS_ev l h1 h2) (Ev.bind (implPD_ev l h1 h3) (Ev.if_pos rfl ?_))))
  exact Ev.bind (toIntSS_ev l h1 h2) (Ev.bind (eqIntSS_ev l l (by omega) (fun x h => by have := h3 x h; omega)) (Ev.if_pos (by simp) (Ev.some _)))
end Go.Proofs.Ytpdgjciaihlhmaa.Pure
