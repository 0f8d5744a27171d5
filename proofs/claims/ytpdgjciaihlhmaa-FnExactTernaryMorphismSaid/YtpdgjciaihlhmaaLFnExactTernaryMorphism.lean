/- The law FnExactTernaryMorphism, walked on the way that it takes where program and reference come to the same. Conditions: what the functions come to, and that sizes fit. -/
import Derived.Test.YtpdgjciaihlhmaaMarkSS
import Derived.Test.YtpdgjciaihlhmaaLK
import Derived.Test.YtpdgjciaihlhmaaThue
import Derived.Test.YtpdgjciaihlhmaaMarkM
import Derived.Test.YtpdgjciaihlhmaaM9
import Derived.Test.YtpdgjciaihlhmaaM15
import Derived.Test.YtpdgjciaihlhmaaM17
import Derived.Test.YtpdgjciaihlhmaaM18
namespace Go.Proofs.Ytpdgjciaihlhmaa.M
open Go.RowKit Go.Proofs.YtpdgjciaihlhmaaW.PrintWords Go.Proofs.YtpdgjciaihlhmaaW.PrintLast Go.Proofs.YtpdgjciaihlhmaaW.PrintMore Go.Proofs.Ytpdgjciaihlhmaa.K Go.Proofs.Ytpdgjciaihlhmaa.LK
set_option linter.unusedVariables false
set_option linter.unusedSimpArgs false
set_option maxHeartbeats 2000000 in
set_option maxRecDepth 100000 in
theorem FnExactTernaryMorphism_walk  (r0 : List (List Int))  (w : World)  (s_0 : r0.length < 100000000000000000) (t_0 : total r0 < 100000000000000000)
    (h1 : Ev (fun k => spec_TernaryMorphism.f ) (r0))
    (h2 : Ev (fun k => impl_TernaryMorphism.f ) (r0))
    (h3 : Ev (fun k => laws_eqMorphism.f k r0 r0) (true))
    (h4 : Ev (fun k => laws_heldMorphism.f k (marksS r0 1) 1) (1 + (total r0 : Int))) :
    Calls Try.prog 5 #[] w fun e w' => e = .returned (.bool true) ∧ Below w.heap.size w w' := by
  obtain ⟨k1, e1⟩ := h1
  obtain ⟨k2, e2⟩ := h2
  obtain ⟨k3, e3⟩ := h3
  obtain ⟨k4, e4⟩ := h4
  obtain ⟨k, hk⟩ : ∃ k, k = k1 + k2 + k3 + k4 := ⟨_, rfl⟩
  have H1 := Aside0.mk (e1 k (by omega))
  have H2 := Aside0.mk (e2 k (by omega))
  have H3 := Aside0.mk (e3 k (by omega))
  have H4 := Aside0.mk (e4 k (by omega))
  clear hk e1 e2 e3 e4
  have HB := Aside0.mk (Below.refl w.heap.size w)
  have hmp_r0 : decide (1 + (total r0 : Int) < 0) = false := by simp; omega
  have hmn_r0 : (1 + (total r0 : Int) != 1 + (total r0 : Int)) = false := by simp
  go_enter Try.func5, Try.ntmps5
  go_wp2_with fail
  refine (spec_TernaryMorphism.callsS r0 _ H1.out).mono ?_
  rintro e_ w1 ⟨v1_0, rfl, hf1_0, hb1⟩
  obtain ⟨A1_0, c1_0, rfl⟩ := Kd.S_slice hf1_0
  have F1_0 := Aside0.mk (Kd.S_lower (Kd.S_mono (ok' := Blk (w.heap.size) w1.heap.size) (Kd.S_bound hf1_0) (fun j hj => ⟨by have h2 := hj.2.1; simpa using h2, hj.2.2.1⟩)) (below_size (by repeat (first | (with_reducible first | exact HB.out | apply below_alloc | apply pw_below_drewN | apply below_drew1) | exact HB.out))))
  clear hf1_0
  have HBn := Aside0.mk (below_step (by repeat (first | (with_reducible first | exact HB.out | apply below_alloc | apply pw_below_drewN | apply below_drew1) | exact HB.out)) hb1)
  have hz1 := hb1.size
  (try simp at hz1)
  have HZ1 := Aside0.mk (show w.heap.size ≤ w1.heap.size from by omega)
  clear hz1
  clear HB hb1
  have HB := HBn
  clear HBn
  go_wp2_with fail
  refine (impl_TernaryMorphism.callsS r0 _ H2.out).mono ?_
  rintro e_ w2 ⟨v2_0, rfl, hf2_0, hb2⟩
  obtain ⟨A2_0, c2_0, rfl⟩ := Kd.S_slice hf2_0
  have F2_0 := Aside0.mk (Kd.S_lower (Kd.S_mono (ok' := Blk (w1.heap.size + 1) w2.heap.size) (Kd.S_bound hf2_0) (fun j hj => ⟨by have h2 := hj.2.1; simpa using h2, hj.2.2.1⟩)) (below_size (by repeat (first | (with_reducible first | exact HB.out | apply below_alloc | apply pw_below_drewN | apply below_drew1) | exact HB.out))))
  clear hf2_0
  have HBn := Aside0.mk (below_step (by repeat (first | (with_reducible first | exact HB.out | apply below_alloc | apply pw_below_drewN | apply below_drew1) | exact HB.out)) hb2)
  have hz2 := hb2.size
  (try simp at hz2)
  have HZ2 := Aside0.mk (show w1.heap.size + 1 ≤ w2.heap.size from by omega)
  clear hz2
  replace F1_0 := Aside0.mk (Kd.S_below (by (with_reducible repeat (first | apply Kd.S_alloc | apply Kd.S_drewN | apply Kd.S_drew)); exact F1_0.out) hb2)
  have hcz2_0 : w2.cell? ⟨w1.heap.size, 0, none⟩ = some (.slice A1_0 r0.length c1_0) := pw_cell_below hb2 (by go_simp)
  have hbl2_0 : w1.heap.size < w2.heap.size := by have := HZ1.out; have := HZ2.out; omega
  clear HB hb2
  have HB := HBn
  clear HBn
  go_wp2_with fail
  refine (laws_eqMorphism.calls k A2_0 c2_0 (r0) A1_0 c1_0 (r0) true _ ?s1 ?s2 ?s3 ?s4 H3.out).mono ?_
  case s1 => (with_reducible repeat (first | apply Kd.C_alloc | apply Kd.C_drewN | apply Kd.C_drew)); exact (Kd.S_reads' F2_0.out).2.2
  case s2 => exact (Kd.S_reads' F2_0.out).2.1
  case s3 => (with_reducible repeat (first | apply Kd.C_alloc | apply Kd.C_drewN | apply Kd.C_drew)); exact (Kd.S_reads' F1_0.out).2.2
  case s4 => exact (Kd.S_reads' F1_0.out).2.1
  rintro e_ w3 ⟨rfl, hb3⟩
  have HBn := Aside0.mk (below_step (by repeat (first | (with_reducible first | exact HB.out | apply below_alloc | apply pw_below_drewN | apply below_drew1) | exact HB.out)) hb3)
  have hz3 := hb3.size
  (try simp at hz3)
  have HZ3 := Aside0.mk (show w2.heap.size + 1 ≤ w3.heap.size from by omega)
  clear hz3
  replace F1_0 := Aside0.mk (Kd.S_below (by (with_reducible repeat (first | apply Kd.S_alloc | apply Kd.S_drewN | apply Kd.S_drew)); exact F1_0.out) hb3)
  replace F2_0 := Aside0.mk (Kd.S_below (by (with_reducible repeat (first | apply Kd.S_alloc | apply Kd.S_drewN | apply Kd.S_drew)); exact F2_0.out) hb3)
  have hcz3_0 : w3.cell? ⟨w1.heap.size, 0, none⟩ = some (.slice A1_0 r0.length c1_0) := pw_cell_below hb3 (by repeat (first | exact hcz2_0 | apply LK.cell_alloc | apply LK.cell_drewN))
  have hcz3_1 : w3.cell? ⟨w2.heap.size, 0, none⟩ = some (.slice A2_0 r0.length c2_0) := pw_cell_below hb3 (by go_simp)
  clear hcz2_0
  have hbl3_0 : w1.heap.size < w3.heap.size := by have := HZ1.out; have := HZ2.out; have := HZ3.out; omega
  have hbl3_1 : w2.heap.size < w3.heap.size := by have := HZ1.out; have := HZ2.out; have := HZ3.out; omega
  clear HB hb3
  have HB := HBn
  clear HBn
  go_wp2_with fail
  refine (markMorphism_calls (Blk (w1.heap.size + 1) w2.heap.size) _ r0 1 w _ (by omega) (by omega) (by omega) ?s1 ?s2).mono ?_
  case s1 => exact (by repeat (first | (with_reducible first | exact HB.out | apply below_alloc | apply pw_below_drewN | apply below_drew1) | exact HB.out))
  case s2 => (with_reducible repeat (first | apply Kd.S_alloc | apply Kd.S_drewN | apply Kd.S_drew)); exact F2_0.out
  rintro e_ w4 ⟨rfl, hm4, hb4, hk4⟩
  have G2_0 := Aside0.mk hm4
  have hz4 := hk4.1
  (try simp at hz4)
  have HZ4 := Aside0.mk (show w3.heap.size ≤ w4.heap.size from by omega)
  clear hz4
  replace F1_0 := Aside0.mk (Kd.S_kept (by (with_reducible repeat (first | apply Kd.S_alloc | apply Kd.S_drewN | apply Kd.S_drew)); exact F1_0.out) hk4 (fun j hj hs => by have h1 := hj; have h2 := hs; have := HZ1.out; have := HZ2.out; have := HZ3.out; have := HZ4.out; omega))
  have hcz4_0 : w4.cell? ⟨w1.heap.size, 0, none⟩ = some (.slice A1_0 r0.length c1_0) := LK.cell_kept (by repeat (first | exact hcz3_0 | apply LK.cell_alloc | apply LK.cell_drewN)) hk4 (fun hs => by have h2 : (Blk (w1.heap.size + 1) w2.heap.size) (w1.heap.size) := hs; have := HZ1.out; have := HZ2.out; have := HZ3.out; have := HZ4.out; omega)
  have hcz4_1 : w4.cell? ⟨w2.heap.size, 0, none⟩ = some (.slice A2_0 r0.length c2_0) := LK.cell_kept (by repeat (first | exact hcz3_1 | apply LK.cell_alloc | apply LK.cell_drewN)) hk4 (fun hs => by have h2 : (Blk (w1.heap.size + 1) w2.heap.size) (w2.heap.size) := hs; have := HZ1.out; have := HZ2.out; have := HZ3.out; have := HZ4.out; omega)
  clear hcz3_0
  have hbl4_0 : w1.heap.size < w4.heap.size := by have := HZ1.out; have := HZ2.out; have := HZ3.out; have := HZ4.out; omega
  clear hcz3_1
  have hbl4_1 : w2.heap.size < w4.heap.size := by have := HZ1.out; have := HZ2.out; have := HZ3.out; have := HZ4.out; omega
  clear F2_0
  have F2_0 := G2_0
  clear G2_0
  replace HB := Aside0.mk hb4
  clear hm4 hb4 hk4
  go_wp2_with fail
  rw [← marksS_length r0 1]
  refine (laws_heldMorphism.calls k A2_0 c2_0 (marksS r0 1) 1 (1 + (total r0 : Int)) _ ?s1 ?s2 H4.out).mono ?_
  case s1 => (with_reducible repeat (first | apply Kd.C_alloc | apply Kd.C_drewN | apply Kd.C_drew)); exact (Kd.S_reads' F2_0.out).2.2
  case s2 => rw [marksS_length]; exact (Kd.S_reads' F2_0.out).2.1
  rintro e_ w5 ⟨rfl, hb5⟩
  (try rw [marksS_length])
  have HBn := Aside0.mk (below_step (by repeat (first | (with_reducible first | exact HB.out | apply below_alloc | apply pw_below_drewN | apply below_drew1) | exact HB.out)) hb5)
  have hz5 := hb5.size
  (try simp at hz5)
  have HZ5 := Aside0.mk (show w4.heap.size ≤ w5.heap.size from by omega)
  clear hz5
  replace F1_0 := Aside0.mk (Kd.S_below (by (with_reducible repeat (first | apply Kd.S_alloc | apply Kd.S_drewN | apply Kd.S_drew)); exact F1_0.out) hb5)
  replace F2_0 := Aside0.mk (Kd.S_below (by (with_reducible repeat (first | apply Kd.S_alloc | apply Kd.S_drewN | apply Kd.S_drew)); exact F2_0.out) hb5)
  have hcz5_0 : w5.cell? ⟨w1.heap.size, 0, none⟩ = some (.slice A1_0 r0.length c1_0) := pw_cell_below hb5 (by repeat (first | exact hcz4_0 | apply LK.cell_alloc | apply LK.cell_drewN))
  have hcz5_1 : w5.cell? ⟨w2.heap.size, 0, none⟩ = some (.slice A2_0 r0.length c2_0) := pw_cell_below hb5 (by repeat (first | exact hcz4_1 | apply LK.cell_alloc | apply LK.cell_drewN))
  clear hcz4_0
  have hbl5_0 : w1.heap.size < w5.heap.size := by have := HZ1.out; have := HZ2.out; have := HZ3.out; have := HZ4.out; have := HZ5.out; omega
  clear hcz4_1
  have hbl5_1 : w2.heap.size < w5.heap.size := by have := HZ1.out; have := HZ2.out; have := HZ3.out; have := HZ4.out; have := HZ5.out; omega
  clear HB hb5
  have HB := HBn
  clear HBn
  go_wp2_with fail
  refine (impl_TernaryMorphism.callsS r0 _ H2.out).mono ?_
  rintro e_ w6 ⟨v6_0, rfl, hf6_0, hb6⟩
  obtain ⟨A6_0, c6_0, rfl⟩ := Kd.S_slice hf6_0
  have F6_0 := Aside0.mk (Kd.S_lower (Kd.S_mono (ok' := Blk (w5.heap.size) w6.heap.size) (Kd.S_bound hf6_0) (fun j hj => ⟨by have h2 := hj.2.1; simpa using h2, hj.2.2.1⟩)) (below_size (by repeat (first | (with_reducible first | exact HB.out | apply below_alloc | apply pw_below_drewN | apply below_drew1) | exact HB.out))))
  clear hf6_0
  have HBn := Aside0.mk (below_step (by repeat (first | (with_reducible first | exact HB.out | apply below_alloc | apply pw_below_drewN | apply below_drew1) | exact HB.out)) hb6)
  have hz6 := hb6.size
  (try simp at hz6)
  have HZ6 := Aside0.mk (show w5.heap.size ≤ w6.heap.size from by omega)
  clear hz6
  replace F1_0 := Aside0.mk (Kd.S_below (by (with_reducible repeat (first | apply Kd.S_alloc | apply Kd.S_drewN | apply Kd.S_drew)); exact F1_0.out) hb6)
  replace F2_0 := Aside0.mk (Kd.S_below (by (with_reducible repeat (first | apply Kd.S_alloc | apply Kd.S_drewN | apply Kd.S_drew)); exact F2_0.out) hb6)
  have hcz6_0 : w6.cell? ⟨w1.heap.size, 0, none⟩ = some (.slice A1_0 r0.length c1_0) := pw_cell_below hb6 (by repeat (first | exact hcz5_0 | apply LK.cell_alloc | apply LK.cell_drewN))
  have hcz6_1 : w6.cell? ⟨w2.heap.size, 0, none⟩ = some (.slice A2_0 r0.length c2_0) := pw_cell_below hb6 (by repeat (first | exact hcz5_1 | apply LK.cell_alloc | apply LK.cell_drewN))
  clear hcz5_0
  have hbl6_0 : w1.heap.size < w6.heap.size := by have := HZ1.out; have := HZ2.out; have := HZ3.out; have := HZ4.out; have := HZ5.out; have := HZ6.out; omega
  clear hcz5_1
  have hbl6_1 : w2.heap.size < w6.heap.size := by have := HZ1.out; have := HZ2.out; have := HZ3.out; have := HZ4.out; have := HZ5.out; have := HZ6.out; omega
  clear HB hb6
  have HB := HBn
  clear HBn
  go_wp2_with fail
  refine (laws_eqMorphism.calls k A6_0 c6_0 (r0) A1_0 c1_0 (r0) true _ ?s1 ?s2 ?s3 ?s4 H3.out).mono ?_
  case s1 => (with_reducible repeat (first | apply Kd.C_alloc | apply Kd.C_drewN | apply Kd.C_drew)); exact (Kd.S_reads' F6_0.out).2.2
  case s2 => exact (Kd.S_reads' F6_0.out).2.1
  case s3 => (with_reducible repeat (first | apply Kd.C_alloc | apply Kd.C_drewN | apply Kd.C_drew)); exact (Kd.S_reads' F1_0.out).2.2
  case s4 => exact (Kd.S_reads' F1_0.out).2.1
  rintro e_ w7 ⟨rfl, hb7⟩
  have HBn := Aside0.mk (below_step (by repeat (first | (with_reducible first | exact HB.out | apply below_alloc | apply pw_below_drewN | apply below_drew1) | exact HB.out)) hb7)
  have hz7 := hb7.size
  (try simp at hz7)
  have HZ7 := Aside0.mk (show w6.heap.size + 1 ≤ w7.heap.size from by omega)
  clear hz7
  replace F1_0 := Aside0.mk (Kd.S_below (by (with_reducible repeat (first | apply Kd.S_alloc | apply Kd.S_drewN | apply Kd.S_drew)); exact F1_0.out) hb7)
  replace F2_0 := Aside0.mk (Kd.S_below (by (with_reducible repeat (first | apply Kd.S_alloc | apply Kd.S_drewN | apply Kd.S_drew)); exact F2_0.out) hb7)
  replace F6_0 := Aside0.mk (Kd.S_below (by (with_reducible repeat (first | apply Kd.S_alloc | apply Kd.S_drewN | apply Kd.S_drew)); exact F6_0.out) hb7)
  have hcz7_0 : w7.cell? ⟨w1.heap.size, 0, none⟩ = some (.slice A1_0 r0.length c1_0) := pw_cell_below hb7 (by repeat (first | exact hcz6_0 | apply LK.cell_alloc | apply LK.cell_drewN))
  have hcz7_1 : w7.cell? ⟨w2.heap.size, 0, none⟩ = some (.slice A2_0 r0.length c2_0) := pw_cell_below hb7 (by repeat (first | exact hcz6_1 | apply LK.cell_alloc | apply LK.cell_drewN))
  have hcz7_2 : w7.cell? ⟨w6.heap.size, 0, none⟩ = some (.slice A6_0 r0.length c6_0) := pw_cell_below hb7 (by go_simp)
  clear hcz6_0
  have hbl7_0 : w1.heap.size < w7.heap.size := by have := HZ1.out; have := HZ2.out; have := HZ3.out; have := HZ4.out; have := HZ5.out; have := HZ6.out; have := HZ7.out; omega
  clear hcz6_1
  have hbl7_1 : w2.heap.size < w7.heap.size := by have := HZ1.out; have := HZ2.out; have := HZ3.out; have := HZ4.out; have := HZ5.out; have := HZ6.out; have := HZ7.out; omega
  have hbl7_2 : w6.heap.size < w7.heap.size := by have := HZ1.out; have := HZ2.out; have := HZ3.out; have := HZ4.out; have := HZ5.out; have := HZ6.out; have := HZ7.out; omega
  clear HB hb7
  have HB := HBn
  clear HBn
  go_wp2_with fail
  rw [← marksS_length r0 1]
  refine (laws_heldMorphism.calls k A2_0 c2_0 (marksS r0 1) 1 (1 + (total r0 : Int)) _ ?s1 ?s2 H4.out).mono ?_
  case s1 => (with_reducible repeat (first | apply Kd.C_alloc | apply Kd.C_drewN | apply Kd.C_drew)); exact (Kd.S_reads' F2_0.out).2.2
  case s2 => rw [marksS_length]; exact (Kd.S_reads' F2_0.out).2.1
  rintro e_ w8 ⟨rfl, hb8⟩
  (try rw [marksS_length])
  have HBn := Aside0.mk (below_step (by repeat (first | (with_reducible first | exact HB.out | apply below_alloc | apply pw_below_drewN | apply below_drew1) | exact HB.out)) hb8)
  have hz8 := hb8.size
  (try simp at hz8)
  have HZ8 := Aside0.mk (show w7.heap.size ≤ w8.heap.size from by omega)
  clear hz8
  replace F1_0 := Aside0.mk (Kd.S_below (by (with_reducible repeat (first | apply Kd.S_alloc | apply Kd.S_drewN | apply Kd.S_drew)); exact F1_0.out) hb8)
  replace F2_0 := Aside0.mk (Kd.S_below (by (with_reducible repeat (first | apply Kd.S_alloc | apply Kd.S_drewN | apply Kd.S_drew)); exact F2_0.out) hb8)
  replace F6_0 := Aside0.mk (Kd.S_below (by (with_reducible repeat (first | apply Kd.S_alloc | apply Kd.S_drewN | apply Kd.S_drew)); exact F6_0.out) hb8)
  have hcz8_0 : w8.cell? ⟨w1.heap.size, 0, none⟩ = some (.slice A1_0 r0.length c1_0) := pw_cell_below hb8 (by repeat (first | exact hcz7_0 | apply LK.cell_alloc | apply LK.cell_drewN))
  have hcz8_1 : w8.cell? ⟨w2.heap.size, 0, none⟩ = some (.slice A2_0 r0.length c2_0) := pw_cell_below hb8 (by repeat (first | exact hcz7_1 | apply LK.cell_alloc | apply LK.cell_drewN))
  have hcz8_2 : w8.cell? ⟨w6.heap.size, 0, none⟩ = some (.slice A6_0 r0.length c6_0) := pw_cell_below hb8 (by repeat (first | exact hcz7_2 | apply LK.cell_alloc | apply LK.cell_drewN))
  clear hcz7_0
  have hbl8_0 : w1.heap.size < w8.heap.size := by have := HZ1.out; have := HZ2.out; have := HZ3.out; have := HZ4.out; have := HZ5.out; have := HZ6.out; have := HZ7.out; have := HZ8.out; omega
  clear hcz7_1
  have hbl8_1 : w2.heap.size < w8.heap.size := by have := HZ1.out; have := HZ2.out; have := HZ3.out; have := HZ4.out; have := HZ5.out; have := HZ6.out; have := HZ7.out; have := HZ8.out; omega
  clear hcz7_2
  have hbl8_2 : w6.heap.size < w8.heap.size := by have := HZ1.out; have := HZ2.out; have := HZ3.out; have := HZ4.out; have := HZ5.out; have := HZ6.out; have := HZ7.out; have := HZ8.out; omega
  clear HB hb8
  have HB := HBn
  clear HBn
  go_wp2_with fail
  go_ret
  exact ⟨rfl, (by repeat (first | (with_reducible first | exact HB.out | apply below_alloc | apply pw_below_drewN | apply below_drew1) | exact HB.out))⟩
end Go.Proofs.Ytpdgjciaihlhmaa.M