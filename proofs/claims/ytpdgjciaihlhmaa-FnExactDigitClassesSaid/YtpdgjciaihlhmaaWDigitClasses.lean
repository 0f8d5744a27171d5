/- The law of DigitClasses, walked on the way that it takes where program and reference come to the same rows. Condition: they do. -/
import Derived.Test.YtpdgjciaihlhmaaMarkSS
import Derived.Test.YtpdgjciaihlhmaaIntSS
import Derived.Test.YtpdgjciaihlhmaaM8
import Derived.Test.YtpdgjciaihlhmaaM14
import Derived.Test.YtpdgjciaihlhmaaM55
import Derived.Test.YtpdgjciaihlhmaaM57
namespace Go.Proofs.Ytpdgjciaihlhmaa.M
open Go.RowKit Go.Proofs.YtpdgjciaihlhmaaW.PrintWords Go.Proofs.YtpdgjciaihlhmaaW.PrintLast Go.Proofs.YtpdgjciaihlhmaaW.PrintMore Go.Proofs.Ytpdgjciaihlhmaa.K
set_option linter.unusedVariables false
set_option linter.unusedSimpArgs false

theorem heldIntSS_ev (xs : List (List Int)) (m : Int) (h0 : 0 ≤ m) (h : m + total xs < 1000000000000000000) (hl : xs.length < 1000000000000000000) : Ev (fun k => laws_heldIntSS.f k (marksS xs m) m) (m + total xs) := by
  have hml := marksS_length xs m
  have at_ : ∀ i (hi : i < xs.length), rd_L2 (marksS xs m) (i : Int) = marks xs[i].length (m + total (xs.take i)) := by
    intro i hi
    rw [rdLL _ i (by omega)]
    have e := half_set xs m i hi
    have e2 : (half xs m (i + 1))[i]? = some (marks xs[i].length (m + total (xs.take i))) := by rw [← e, List.getElem?_set_self (by rw [half_length xs m i (by omega)]; exact hi)]
    have e3 : marksS xs m = marksS (xs.take (i + 1)) m ++ marksS (xs.drop (i + 1)) (m + total (xs.take (i + 1))) := by rw [← marksS_append, List.take_append_drop]
    have e4 : (marksS xs m)[i]? = some (marks xs[i].length (m + total (xs.take i))) := by
      rw [e3, List.getElem?_append_left (by rw [marksS_length, List.length_take]; omega)]
      unfold half at e2
      rwa [List.getElem?_append_left (by rw [marksS_length, List.length_take]; omega)] at e2
    exact Option.some.inj ((List.getElem?_eq_getElem (by omega)).symm.trans e4)
  have key : ∀ i, i ≤ xs.length → Ev (fun k => laws_heldIntSS.l0 k (marksS xs m) (m + total (xs.take i)) (i : Int)) (m + total xs) := by
    refine down xs.length ?_ ?_
    · refine Ev.step (fun k => by simp only [laws_heldIntSS.l0]; rw [_root_.if_neg (by omega)]) ?_
      rw [List.take_length]; exact Ev.some _
    · intro i hi ih
      have e := total_take xs i hi
      have e2 := total_take_le xs (i + 1)
      refine Ev.step (fun k => by simp only [laws_heldIntSS.l0]; rw [_root_.if_pos (by omega), _root_.if_pos (by omega), wsucc (by omega), at_ i hi]) ?_
      refine Ev.bind (heldIntS_ev xs[i].length (m + total (xs.take i)) (by omega) (by omega)) ?_
      refine Ev.if_neg (by omega) ?_
      rw [show m + (total (xs.take i) : Int) + (xs[i].length : Int) = m + (total (xs.take (i + 1)) : Int) from by omega]
      exact ih
  unfold laws_heldIntSS.f
  have := key 0 (by omega)
  simpa [total] using this

set_option maxHeartbeats 1000000 in
set_option maxRecDepth 100000 in
theorem lawDC (k : Nat) (a0 a1 : Int) (R : List (List Int)) (b : Bool) (w : World) (hsz : total R < 100000000000000000) (hlen : R.length < 100000000000000000)
    (hs : spec_DigitClasses.f k a0 a1 = some (R, b)) (hi : impl_DigitClasses.f k a0 a1 = some (R, b)) (he : laws_eqIntSS.f k R R = some true) (hh : laws_heldIntSS.f k (marksS R 1) 1 = some (1 + (total R : Int))) :
    Calls Try.prog 10 #[.int .i64 a0, .int .i64 a1] w fun e w' => e = .returned (.bool true) ∧ Below w.heap.size w w' := by
  have Hs := Aside0.mk hs
  have Hi := Aside0.mk hi
  have He := Aside0.mk he
  have Hh := Aside0.mk hh
  have Hb : (b != b) = false := by simp
  have Hm : (1 + (total R : Int) != 1 + (total R : Int)) = false := by simp
  have Hp : decide (1 + (total R : Int) < 0) = false := by simp; omega
  clear hs hi he hh
  go_enter Try.func10, Try.ntmps10
  go_wp2_with fail
  refine (spec_DigitClasses.calls k a0 a1 R b _ Hs.out).mono ?_
  rintro e w1 ⟨v0, rfl, hS0, hB0⟩
  obtain ⟨A0, c0, rfl⟩ := Kd.S_slice hS0
  have HS0 := Aside0.mk hS0
  have HB0 := Aside0.mk hB0
  clear hS0 hB0
  go_wp2_with fail
  refine (impl_DigitClasses.calls k a0 a1 R b _ Hi.out).mono ?_
  rintro e w2 ⟨v1, rfl, hS1, hB1⟩
  obtain ⟨A1, c1, rfl⟩ := Kd.S_slice hS1
  have HS0b := Aside0.mk (Kd.S_below (Kd.S_mono (ok' := fun j => j < w1.heap.size) (Kd.S_bound HS0.out) (fun j hj => hj.2.2.1)) hB1)
  have HS1 := Aside0.mk (Kd.S_mono (ok' := fun j => w1.heap.size ≤ j) (Kd.S_bound hS1) (fun j hj => hj.2.1))
  have HB1 := Aside0.mk hB1
  clear hS1 hB1
  go_wp2_with fail
  refine (laws_eqIntSS.calls k A1 c1 R A0 c0 R true _ (Kd.S_reads' HS1.out).2.2 (Kd.S_reads' HS1.out).2.1 (Kd.S_reads' HS0b.out).2.2 (Kd.S_reads' HS0b.out).2.1 He.out).mono ?_
  rintro e w3 ⟨rfl, ⟨n3, rfl⟩⟩
  go_wp2_with fail
  refine (markIntSS_calls (fun j => w1.heap.size ≤ j) _ R 1 w1 _ (by omega) (by omega) (by omega) (pw_below_drewN HB1.out n3) (Kd.S_drewN HS1.out n3)).mono ?_
  rintro e w4 ⟨rfl, hS4, hB4, hK4⟩
  have HS0c := Aside0.mk (Kd.S_kept (Kd.S_drewN HS0b.out n3) hK4 (fun j hj hs => by omega))
  have HS4 := Aside0.mk hS4
  have HB4 := Aside0.mk hB4
  have HH4 := Aside0.mk (laws_heldIntSS.calls k A1 c1 (marksS R 1) 1 (1 + (total R : Int)) w4 (by have h := (Kd.S_reads' hS4).2.2; exact h) (by rw [marksS_length]; exact (Kd.S_reads' HS1.out).2.1) Hh.out)
  clear hS4 hB4 hK4 HS0b HS1
  rw [marksS_length] at HH4
  go_wp2_with fail
  refine HH4.out.mono ?_
  rintro e w5 ⟨rfl, ⟨n5, rfl⟩⟩
  clear HH4
  go_wp2_with fail
  refine (impl_DigitClasses.calls k a0 a1 R b _ Hi.out).mono ?_
  rintro e w6 ⟨v2, rfl, hS6, hB6⟩
  obtain ⟨A2, c2, rfl⟩ := Kd.S_slice hS6
  have HS0d := Aside0.mk (Kd.S_below (Kd.S_drewN HS0c.out n5) hB6)
  have HS4d := Aside0.mk (Kd.S_below (Kd.S_drewN HS4.out n5) hB6)
  have HS6 := Aside0.mk hS6
  have HB6 := Aside0.mk hB6
  clear hS6 hB6 HS0c HS4
  go_wp2_with fail
  refine (laws_eqIntSS.calls k A2 c2 R A0 c0 R true _ (Kd.S_reads' HS6.out).2.2 (Kd.S_reads' HS6.out).2.1 (Kd.S_reads' HS0d.out).2.2 (Kd.S_reads' HS0d.out).2.1 He.out).mono ?_
  rintro e w7 ⟨rfl, ⟨n7, rfl⟩⟩
  have HH7 := Aside0.mk (laws_heldIntSS.calls k A1 c1 (marksS R 1) 1 (1 + (total R : Int)) (w6.drewN n7) (Kd.S_reads' (Kd.S_drewN HS4d.out n7)).2.2 (by rw [marksS_length]; have h := (Kd.S_reads' HS4d.out).2.1; exact h) Hh.out)
  rw [marksS_length] at HH7
  go_wp2_with fail
  refine HH7.out.mono ?_
  rintro e w8 ⟨rfl, ⟨n8, rfl⟩⟩
  go_wp2_with fail
  go_ret
  refine ⟨rfl, ?_⟩
  have h1 := HB0.out
  have h4 : Below w.heap.size w1 w4 := HB4.out.mono h1.size
  have h5 := pw_below_drewN h4 n5
  have h6 : Below w.heap.size (w4.drewN n5) w6 := HB6.out.mono (Nat.le_trans h1.size h5.size)
  exact pw_below_drewN ((h1.trans h5).trans h6) (n7 + n8)
end Go.Proofs.Ytpdgjciaihlhmaa.M
