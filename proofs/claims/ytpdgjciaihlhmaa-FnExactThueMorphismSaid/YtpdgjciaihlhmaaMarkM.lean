/- markMorphism, walked: it marks the images. Condition: they are the call's own, apart from each other, and the marks fit. -/
import Derived.Test.YtpdgjciaihlhmaaMarkSS

namespace Go.Proofs.Ytpdgjciaihlhmaa.M
open Go.RowKit Go.Proofs.YtpdgjciaihlhmaaW.PrintWords Go.Proofs.YtpdgjciaihlhmaaW.PrintLast Go.Proofs.YtpdgjciaihlhmaaW.PrintMore Go.Proofs.Ytpdgjciaihlhmaa.K
set_option linter.unusedVariables false
set_option linter.unusedSimpArgs false
set_option maxHeartbeats 1000000 in
set_option maxRecDepth 100000 in
theorem markMorphism_calls (P0_ : Nat → Prop) (u : Value) (xs : List (List Int)) (m : Int) (w0 w : World) (hm : 0 ≤ m) (ht : m + total xs < 1000000000000000000) (hl : xs.length < 1000000000000000000)
    (hB : Below w0.heap.size w0 w) (ho0 : Kd.S (Kd.slice 3 (Kd.int .i64)) 31 w w0.heap.size P0_ u xs) :
    Calls Try.prog 20 #[.agg #[u], .int .i64 m] w fun e w' => e = .returned (.int .i64 (m + total xs)) ∧ Kd.S (Kd.slice 3 (Kd.int .i64)) 31 w' w0.heap.size P0_ u (marksS xs m) ∧ Below w0.heap.size w0 w' ∧ Kept w w' P0_ := by
  obtain ⟨A, c, rfl⟩ := Kd.S_slice ho0
  have HO := Aside0.mk (Kd.S_alloc ho0 (.cells #[.slice A xs.length c] 26))
  have HB := Aside0.mk (below_alloc hB (.cells #[.slice A xs.length c] 26))
  have HK := Aside0.mk (Kept.alloc (Kept.refl w P0_) (.cells #[.slice A xs.length c] 26))
  have hu := Try.underlying26
  clear ho0 hB
  go_enter Try.func20, Try.ntmps20
  go_wp2_with fail
  refine (markIntSS_calls P0_ _ xs m w0 _ hm ht hl HB.out HO.out).mono ?_
  rintro e w1 ⟨rfl, h1, h2, h3⟩
  have H1 := Aside0.mk h1
  have H2 := Aside0.mk h2
  have H3 := Aside0.mk (Kept.then_ HK.out h3 (fun j hj => .inl hj))
  clear h1 h2 h3 HO HB HK
  go_wp2_with fail
  go_ret
  exact ⟨rfl, H1.out, H2.out, H3.out⟩
end Go.Proofs.Ytpdgjciaihlhmaa.M
