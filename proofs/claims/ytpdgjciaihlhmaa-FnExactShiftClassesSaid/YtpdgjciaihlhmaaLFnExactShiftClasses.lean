/- The law FnExactShiftClasses, walked on the way that it takes where program and reference come to the same. Conditions: what the functions come to, and that sizes fit. -/
import Derived.Test.YtpdgjciaihlhmaaMarkSS
import Derived.Test.YtpdgjciaihlhmaaLK
import Derived.Test.YtpdgjciaihlhmaaM8
import Derived.Test.YtpdgjciaihlhmaaM14
import Derived.Test.YtpdgjciaihlhmaaM60
import Derived.Test.YtpdgjciaihlhmaaM61
import Derived.Test.YtpdgjciaihlhmaaM62
import Derived.Test.YtpdgjciaihlhmaaM63
namespace Go.Proofs.Ytpdgjciaihlhmaa.M
open Go.RowKit Go.Proofs.YtpdgjciaihlhmaaW.PrintWords Go.Proofs.YtpdgjciaihlhmaaW.PrintLast Go.Proofs.YtpdgjciaihlhmaaW.PrintMore Go.Proofs.Ytpdgjciaihlhmaa.K Go.Proofs.Ytpdgjciaihlhmaa.LK
set_option linter.unusedVariables false
set_option linter.unusedSimpArgs false
set_option maxHeartbeats 2000000 in
set_option maxRecDepth 100000 in
theorem FnExactShiftClasses_walk (A0 : Option Addr) (c0 : Nat) (l0 : List (List Int)) (a1 : Int) (r0 : List (List Int)) (r1 : Bool) (z0 : Int) (hz0 : 0 ≤ z0) (w : World) (hC0 : Kd.C (Kd.slice 3 (Kd.int .i64)) w A0 l0.length l0) (hc0 : l0.length ≤ c0) (s0 : l0.length < 100000000000000000) (t0 : total l0 < 100000000000000000) (s_0 : r0.length < 100000000000000000) (t_0 : total r0 < 100000000000000000)
    (h1 : Ev (fun k => laws_szIntSS.f k l0 1048576) (z0))
    (h2 : Ev (fun k => laws_toIntSS.f k l0) (l0))
    (h3 : Ev (fun k => spec_ShiftClasses.f k l0 a1) (r0, r1))
    (h4 : Ev (fun k => impl_ShiftClasses.f k l0 a1) (r0, r1))
    (h5 : Ev (fun k => laws_eqIntSS.f k r0 r0) (true))
    (h6 : Ev (fun k => laws_eqIntSS.f k l0 l0) (true))
    (h7 : Ev (fun k => laws_heldIntSS.f k (marksS r0 1) 1) (1 + (total r0 : Int))) :
    Calls Try.prog 11 #[.slice A0 l0.length c0, .int .i64 a1] w fun e w' => e = .returned (.bool true) ∧ Below w.heap.size w w' := by
  obtain ⟨k1, e1⟩ := h1
  obtain ⟨k2, e2⟩ := h2
  obtain ⟨k3, e3⟩ := h3
  obtain ⟨k4, e4⟩ := h4
  obtain ⟨k5, e5⟩ := h5
  obtain ⟨k6, e6⟩ := h6
  obtain ⟨k7, e7⟩ := h7
  obtain ⟨k, hk⟩ : ∃ k, k = k1 + k2 + k3 + k4 + k5 + k6 + k7 := ⟨_, rfl⟩
  have H1 := Aside0.mk (e1 k (by omega))
  have H2 := Aside0.mk (e2 k (by omega))
  have H3 := Aside0.mk (e3 k (by omega))
  have H4 := Aside0.mk (e4 k (by omega))
  have H5 := Aside0.mk (e5 k (by omega))
  have H6 := Aside0.mk (e6 k (by omega))
  have H7 := Aside0.mk (e7 k (by omega))
  clear hk e1 e2 e3 e4 e5 e6 e7
  have HC0 := Aside0.mk hC0
  have Hc0 := Aside0.mk hc0
  clear hC0 hc0
  have HB := Aside0.mk (Below.refl w.heap.size w)
  have hne1 : (r1 != r1) = false := by simp
  have hzd0 : decide (z0 < 0) = false := by simp; omega
  have hmp_l0 : decide (1 + (total l0 : Int) < 0) = false := by simp; omega
  have hmn_l0 : (1 + (total l0 : Int) != 1 + (total l0 : Int)) = false := by simp
  have hmp_r0 : decide (1 + (total r0 : Int) < 0) = false := by simp; omega
  have hmn_r0 : (1 + (total r0 : Int) != 1 + (total r0 : Int)) = false := by simp
  go_enter Try.func11, Try.ntmps11
  go_wp2_with fail
  refine (laws_szIntSS.calls k A0 c0 (l0) 1048576 z0 _ (Kd.C_below HC0.out HB.out) Hc0.out H1.out).mono ?_
  rintro e_ w1 ⟨rfl, ⟨n1, rfl⟩⟩
  replace HB := Aside0.mk (LK.below_at (pw_below_drewN HB.out n1) (rfl))
  have HZn1 := Aside0.mk (show w.heap.size ≤ (w.drewN n1).heap.size from Nat.le_refl _)
  go_wp2_with fail
  refine (laws_toIntSS.calls k A0 c0 (l0) l0 _ (Kd.C_below HC0.out HB.out) Hc0.out H2.out).mono ?_
  rintro e_ w2 ⟨v2_0, rfl, hf2_0, hb2⟩
  obtain ⟨A2_0, c2_0, rfl⟩ := Kd.S_slice hf2_0
  have F2_0 := Aside0.mk (Kd.S_lower (Kd.S_mono (Kd.S_bound hf2_0) (fun j hj => (⟨hj.2.1, hj.2.2.1⟩ : Blk _ _ j))) HB.out.size)
  clear hf2_0
  replace HB := Aside0.mk (HB.out.trans (hb2.mono HB.out.size))
  have HZw2 := Aside0.mk (show (w.drewN n1).heap.size ≤ w2.heap.size from hb2.size)
  clear hb2
  go_wp2_with fail
  refine (spec_ShiftClasses.calls k A2_0 c2_0 (l0) a1 r0 r1 _ (Kd.S_reads' F2_0.out).2.2 (Kd.S_reads' F2_0.out).2.1 H3.out).mono ?_
  rintro e_ w3 ⟨v3_0, rfl, hf3_0, hb3⟩
  obtain ⟨A3_0, c3_0, rfl⟩ := Kd.S_slice hf3_0
  have F3_0 := Aside0.mk (Kd.S_lower (Kd.S_mono (Kd.S_bound hf3_0) (fun j hj => (⟨hj.2.1, hj.2.2.1⟩ : Blk _ _ j))) HB.out.size)
  clear hf3_0
  replace F2_0 := Aside0.mk (Kd.S_below F2_0.out hb3)
  replace HB := Aside0.mk (HB.out.trans (hb3.mono HB.out.size))
  have HZw3 := Aside0.mk (show w2.heap.size ≤ w3.heap.size from hb3.size)
  clear hb3
  go_wp2_with fail
  refine (laws_toIntSS.calls k A0 c0 (l0) l0 _ (Kd.C_below HC0.out HB.out) Hc0.out H2.out).mono ?_
  rintro e_ w4 ⟨v4_0, rfl, hf4_0, hb4⟩
  obtain ⟨A4_0, c4_0, rfl⟩ := Kd.S_slice hf4_0
  have F4_0 := Aside0.mk (Kd.S_lower (Kd.S_mono (Kd.S_bound hf4_0) (fun j hj => (⟨hj.2.1, hj.2.2.1⟩ : Blk _ _ j))) HB.out.size)
  clear hf4_0
  replace F2_0 := Aside0.mk (Kd.S_below F2_0.out hb4)
  replace F3_0 := Aside0.mk (Kd.S_below F3_0.out hb4)
  replace HB := Aside0.mk (HB.out.trans (hb4.mono HB.out.size))
  have HZw4 := Aside0.mk (show w3.heap.size ≤ w4.heap.size from hb4.size)
  clear hb4
  go_wp2_with fail
  refine (impl_ShiftClasses.calls k A4_0 c4_0 (l0) a1 r0 r1 _ (Kd.S_reads' F4_0.out).2.2 (Kd.S_reads' F4_0.out).2.1 H4.out).mono ?_
  rintro e_ w5 ⟨v5_0, rfl, hf5_0, hb5⟩
  obtain ⟨A5_0, c5_0, rfl⟩ := Kd.S_slice hf5_0
  have F5_0 := Aside0.mk (Kd.S_lower (Kd.S_mono (Kd.S_bound hf5_0) (fun j hj => (⟨hj.2.1, hj.2.2.1⟩ : Blk _ _ j))) HB.out.size)
  clear hf5_0
  replace F2_0 := Aside0.mk (Kd.S_below F2_0.out hb5)
  replace F3_0 := Aside0.mk (Kd.S_below F3_0.out hb5)
  replace F4_0 := Aside0.mk (Kd.S_below F4_0.out hb5)
  replace HB := Aside0.mk (HB.out.trans (hb5.mono HB.out.size))
  have HZw5 := Aside0.mk (show w4.heap.size ≤ w5.heap.size from hb5.size)
  clear hb5
  go_wp2_with fail
  refine (laws_eqIntSS.calls k A5_0 c5_0 (r0) A3_0 c3_0 (r0) true _ (Kd.S_reads' F5_0.out).2.2 (Kd.S_reads' F5_0.out).2.1 (Kd.S_reads' F3_0.out).2.2 (Kd.S_reads' F3_0.out).2.1 H5.out).mono ?_
  rintro e_ w6 ⟨rfl, ⟨n6, rfl⟩⟩
  replace F2_0 := Aside0.mk (LK.S_at (Kd.S_drewN F2_0.out n6) (rfl))
  replace F3_0 := Aside0.mk (LK.S_at (Kd.S_drewN F3_0.out n6) (rfl))
  replace F4_0 := Aside0.mk (LK.S_at (Kd.S_drewN F4_0.out n6) (rfl))
  replace F5_0 := Aside0.mk (LK.S_at (Kd.S_drewN F5_0.out n6) (rfl))
  replace HB := Aside0.mk (LK.below_at (pw_below_drewN HB.out n6) (rfl))
  have HZn6 := Aside0.mk (show w5.heap.size ≤ (w5.drewN n6).heap.size from Nat.le_refl _)
  go_wp2_with fail
  refine (laws_toIntSS.calls k A0 c0 (l0) l0 _ (Kd.C_below HC0.out HB.out) Hc0.out H2.out).mono ?_
  rintro e_ w7 ⟨v7_0, rfl, hf7_0, hb7⟩
  obtain ⟨A7_0, c7_0, rfl⟩ := Kd.S_slice hf7_0
  have F7_0 := Aside0.mk (Kd.S_lower (Kd.S_mono (Kd.S_bound hf7_0) (fun j hj => (⟨hj.2.1, hj.2.2.1⟩ : Blk _ _ j))) HB.out.size)
  clear hf7_0
  replace F2_0 := Aside0.mk (Kd.S_below F2_0.out hb7)
  replace F3_0 := Aside0.mk (Kd.S_below F3_0.out hb7)
  replace F4_0 := Aside0.mk (Kd.S_below F4_0.out hb7)
  replace F5_0 := Aside0.mk (Kd.S_below F5_0.out hb7)
  replace HB := Aside0.mk (HB.out.trans (hb7.mono HB.out.size))
  have HZw7 := Aside0.mk (show (w5.drewN n6).heap.size ≤ w7.heap.size from hb7.size)
  clear hb7
  go_wp2_with fail
  refine (laws_eqIntSS.calls k A4_0 c4_0 (l0) A7_0 c7_0 (l0) true _ (Kd.S_reads' F4_0.out).2.2 (Kd.S_reads' F4_0.out).2.1 (Kd.S_reads' F7_0.out).2.2 (Kd.S_reads' F7_0.out).2.1 H6.out).mono ?_
  rintro e_ w8 ⟨rfl, ⟨n8, rfl⟩⟩
  replace F2_0 := Aside0.mk (LK.S_at (Kd.S_drewN F2_0.out n8) (rfl))
  replace F3_0 := Aside0.mk (LK.S_at (Kd.S_drewN F3_0.out n8) (rfl))
  replace F4_0 := Aside0.mk (LK.S_at (Kd.S_drewN F4_0.out n8) (rfl))
  replace F5_0 := Aside0.mk (LK.S_at (Kd.S_drewN F5_0.out n8) (rfl))
  replace F7_0 := Aside0.mk (LK.S_at (Kd.S_drewN F7_0.out n8) (rfl))
  replace HB := Aside0.mk (LK.below_at (pw_below_drewN HB.out n8) (rfl))
  have HZn8 := Aside0.mk (show w7.heap.size ≤ (w7.drewN n8).heap.size from Nat.le_refl _)
  go_wp2_with fail
  refine (markIntSS_calls _ _ l0 1 w _ (by omega) (by omega) (by omega) HB.out F4_0.out).mono ?_
  rintro e_ w9 ⟨rfl, hm9, hb9, hk9⟩
  have G4_0 := Aside0.mk hm9
  replace F2_0 := Aside0.mk (Kd.S_kept F2_0.out hk9 (fun j hj hs => by have h1 := hj; have h2 := hs; have := HZn1.out; have := HZw2.out; have := HZw3.out; have := HZw4.out; have := HZw5.out; have := HZn6.out; have := HZw7.out; have := HZn8.out; omega))
  replace F3_0 := Aside0.mk (Kd.S_kept F3_0.out hk9 (fun j hj hs => by have h1 := hj; have h2 := hs; have := HZn1.out; have := HZw2.out; have := HZw3.out; have := HZw4.out; have := HZw5.out; have := HZn6.out; have := HZw7.out; have := HZn8.out; omega))
  replace F5_0 := Aside0.mk (Kd.S_kept F5_0.out hk9 (fun j hj hs => by have h1 := hj; have h2 := hs; have := HZn1.out; have := HZw2.out; have := HZw3.out; have := HZw4.out; have := HZw5.out; have := HZn6.out; have := HZw7.out; have := HZn8.out; omega))
  replace F7_0 := Aside0.mk (Kd.S_kept F7_0.out hk9 (fun j hj hs => by have h1 := hj; have h2 := hs; have := HZn1.out; have := HZw2.out; have := HZw3.out; have := HZw4.out; have := HZw5.out; have := HZn6.out; have := HZw7.out; have := HZn8.out; omega))
  clear F4_0
  have F4_0 := G4_0
  clear G4_0
  replace HB := Aside0.mk hb9
  have HZw9 := Aside0.mk (show (w7.drewN n8).heap.size ≤ w9.heap.size from hk9.1)
  clear hm9 hb9 hk9
  go_wp2_with fail
  refine (laws_eqIntSS.calls k A5_0 c5_0 (r0) A3_0 c3_0 (r0) true _ (Kd.S_reads' F5_0.out).2.2 (Kd.S_reads' F5_0.out).2.1 (Kd.S_reads' F3_0.out).2.2 (Kd.S_reads' F3_0.out).2.1 H5.out).mono ?_
  rintro e_ w10 ⟨rfl, ⟨n10, rfl⟩⟩
  replace F2_0 := Aside0.mk (LK.S_at (Kd.S_drewN F2_0.out n10) (rfl))
  replace F3_0 := Aside0.mk (LK.S_at (Kd.S_drewN F3_0.out n10) (rfl))
  replace F4_0 := Aside0.mk (LK.S_at (Kd.S_drewN F4_0.out n10) (rfl))
  replace F5_0 := Aside0.mk (LK.S_at (Kd.S_drewN F5_0.out n10) (rfl))
  replace F7_0 := Aside0.mk (LK.S_at (Kd.S_drewN F7_0.out n10) (rfl))
  replace HB := Aside0.mk (LK.below_at (pw_below_drewN HB.out n10) (rfl))
  have HZn10 := Aside0.mk (show w9.heap.size ≤ (w9.drewN n10).heap.size from Nat.le_refl _)
  go_wp2_with fail
  refine (markIntSS_calls _ _ r0 1 w _ (by omega) (by omega) (by omega) HB.out F5_0.out).mono ?_
  rintro e_ w11 ⟨rfl, hm11, hb11, hk11⟩
  have G5_0 := Aside0.mk hm11
  replace F2_0 := Aside0.mk (Kd.S_kept F2_0.out hk11 (fun j hj hs => by have h1 := hj; have h2 := hs; have := HZn1.out; have := HZw2.out; have := HZw3.out; have := HZw4.out; have := HZw5.out; have := HZn6.out; have := HZw7.out; have := HZn8.out; have := HZw9.out; have := HZn10.out; omega))
  replace F3_0 := Aside0.mk (Kd.S_kept F3_0.out hk11 (fun j hj hs => by have h1 := hj; have h2 := hs; have := HZn1.out; have := HZw2.out; have := HZw3.out; have := HZw4.out; have := HZw5.out; have := HZn6.out; have := HZw7.out; have := HZn8.out; have := HZw9.out; have := HZn10.out; omega))
  replace F4_0 := Aside0.mk (Kd.S_kept F4_0.out hk11 (fun j hj hs => by have h1 := hj; have h2 := hs; have := HZn1.out; have := HZw2.out; have := HZw3.out; have := HZw4.out; have := HZw5.out; have := HZn6.out; have := HZw7.out; have := HZn8.out; have := HZw9.out; have := HZn10.out; omega))
  replace F7_0 := Aside0.mk (Kd.S_kept F7_0.out hk11 (fun j hj hs => by have h1 := hj; have h2 := hs; have := HZn1.out; have := HZw2.out; have := HZw3.out; have := HZw4.out; have := HZw5.out; have := HZn6.out; have := HZw7.out; have := HZn8.out; have := HZw9.out; have := HZn10.out; omega))
  clear F5_0
  have F5_0 := G5_0
  clear G5_0
  replace HB := Aside0.mk hb11
  have HZw11 := Aside0.mk (show (w9.drewN n10).heap.size ≤ w11.heap.size from hk11.1)
  clear hm11 hb11 hk11
  have HH12 := Aside0.mk (laws_heldIntSS.calls k A5_0 c5_0 (marksS r0 1) 1 (1 + (total r0 : Int)) _ (Kd.S_reads' F5_0.out).2.2 (by rw [marksS_length]; exact (Kd.S_reads' F5_0.out).2.1) H7.out)
  rw [marksS_length] at HH12
  go_wp2_with fail
  refine HH12.out.mono ?_
  rintro e_ w12 ⟨rfl, ⟨n12, rfl⟩⟩
  clear HH12
  replace F2_0 := Aside0.mk (LK.S_at (Kd.S_drewN F2_0.out n12) (rfl))
  replace F3_0 := Aside0.mk (LK.S_at (Kd.S_drewN F3_0.out n12) (rfl))
  replace F4_0 := Aside0.mk (LK.S_at (Kd.S_drewN F4_0.out n12) (rfl))
  replace F5_0 := Aside0.mk (LK.S_at (Kd.S_drewN F5_0.out n12) (rfl))
  replace F7_0 := Aside0.mk (LK.S_at (Kd.S_drewN F7_0.out n12) (rfl))
  replace HB := Aside0.mk (LK.below_at (pw_below_drewN HB.out n12) (rfl))
  have HZn12 := Aside0.mk (show w11.heap.size ≤ (w11.drewN n12).heap.size from Nat.le_refl _)
  go_wp2_with fail
  refine (laws_toIntSS.calls k A0 c0 (l0) l0 _ (Kd.C_below HC0.out HB.out) Hc0.out H2.out).mono ?_
  rintro e_ w13 ⟨v13_0, rfl, hf13_0, hb13⟩
  obtain ⟨A13_0, c13_0, rfl⟩ := Kd.S_slice hf13_0
  have F13_0 := Aside0.mk (Kd.S_lower (Kd.S_mono (Kd.S_bound hf13_0) (fun j hj => (⟨hj.2.1, hj.2.2.1⟩ : Blk _ _ j))) HB.out.size)
  clear hf13_0
  replace F2_0 := Aside0.mk (Kd.S_below F2_0.out hb13)
  replace F3_0 := Aside0.mk (Kd.S_below F3_0.out hb13)
  replace F4_0 := Aside0.mk (Kd.S_below F4_0.out hb13)
  replace F5_0 := Aside0.mk (Kd.S_below F5_0.out hb13)
  replace F7_0 := Aside0.mk (Kd.S_below F7_0.out hb13)
  replace HB := Aside0.mk (HB.out.trans (hb13.mono HB.out.size))
  have HZw13 := Aside0.mk (show (w11.drewN n12).heap.size ≤ w13.heap.size from hb13.size)
  clear hb13
  go_wp2_with fail
  refine (impl_ShiftClasses.calls k A13_0 c13_0 (l0) a1 r0 r1 _ (Kd.S_reads' F13_0.out).2.2 (Kd.S_reads' F13_0.out).2.1 H4.out).mono ?_
  rintro e_ w14 ⟨v14_0, rfl, hf14_0, hb14⟩
  obtain ⟨A14_0, c14_0, rfl⟩ := Kd.S_slice hf14_0
  have F14_0 := Aside0.mk (Kd.S_lower (Kd.S_mono (Kd.S_bound hf14_0) (fun j hj => (⟨hj.2.1, hj.2.2.1⟩ : Blk _ _ j))) HB.out.size)
  clear hf14_0
  replace F2_0 := Aside0.mk (Kd.S_below F2_0.out hb14)
  replace F3_0 := Aside0.mk (Kd.S_below F3_0.out hb14)
  replace F4_0 := Aside0.mk (Kd.S_below F4_0.out hb14)
  replace F5_0 := Aside0.mk (Kd.S_below F5_0.out hb14)
  replace F7_0 := Aside0.mk (Kd.S_below F7_0.out hb14)
  replace F13_0 := Aside0.mk (Kd.S_below F13_0.out hb14)
  replace HB := Aside0.mk (HB.out.trans (hb14.mono HB.out.size))
  have HZw14 := Aside0.mk (show w13.heap.size ≤ w14.heap.size from hb14.size)
  clear hb14
  go_wp2_with fail
  refine (laws_eqIntSS.calls k A14_0 c14_0 (r0) A3_0 c3_0 (r0) true _ (Kd.S_reads' F14_0.out).2.2 (Kd.S_reads' F14_0.out).2.1 (Kd.S_reads' F3_0.out).2.2 (Kd.S_reads' F3_0.out).2.1 H5.out).mono ?_
  rintro e_ w15 ⟨rfl, ⟨n15, rfl⟩⟩
  replace F2_0 := Aside0.mk (LK.S_at (Kd.S_drewN F2_0.out n15) (rfl))
  replace F3_0 := Aside0.mk (LK.S_at (Kd.S_drewN F3_0.out n15) (rfl))
  replace F4_0 := Aside0.mk (LK.S_at (Kd.S_drewN F4_0.out n15) (rfl))
  replace F5_0 := Aside0.mk (LK.S_at (Kd.S_drewN F5_0.out n15) (rfl))
  replace F7_0 := Aside0.mk (LK.S_at (Kd.S_drewN F7_0.out n15) (rfl))
  replace F13_0 := Aside0.mk (LK.S_at (Kd.S_drewN F13_0.out n15) (rfl))
  replace F14_0 := Aside0.mk (LK.S_at (Kd.S_drewN F14_0.out n15) (rfl))
  replace HB := Aside0.mk (LK.below_at (pw_below_drewN HB.out n15) (rfl))
  have HZn15 := Aside0.mk (show w14.heap.size ≤ (w14.drewN n15).heap.size from Nat.le_refl _)
  have HH16 := Aside0.mk (laws_heldIntSS.calls k A5_0 c5_0 (marksS r0 1) 1 (1 + (total r0 : Int)) _ (Kd.S_reads' F5_0.out).2.2 (by rw [marksS_length]; exact (Kd.S_reads' F5_0.out).2.1) H7.out)
  rw [marksS_length] at HH16
  go_wp2_with fail
  refine HH16.out.mono ?_
  rintro e_ w16 ⟨rfl, ⟨n16, rfl⟩⟩
  clear HH16
  replace F2_0 := Aside0.mk (LK.S_at (Kd.S_drewN F2_0.out n16) (World.drewN_drewN _ _ _))
  replace F3_0 := Aside0.mk (LK.S_at (Kd.S_drewN F3_0.out n16) (World.drewN_drewN _ _ _))
  replace F4_0 := Aside0.mk (LK.S_at (Kd.S_drewN F4_0.out n16) (World.drewN_drewN _ _ _))
  replace F5_0 := Aside0.mk (LK.S_at (Kd.S_drewN F5_0.out n16) (World.drewN_drewN _ _ _))
  replace F7_0 := Aside0.mk (LK.S_at (Kd.S_drewN F7_0.out n16) (World.drewN_drewN _ _ _))
  replace F13_0 := Aside0.mk (LK.S_at (Kd.S_drewN F13_0.out n16) (World.drewN_drewN _ _ _))
  replace F14_0 := Aside0.mk (LK.S_at (Kd.S_drewN F14_0.out n16) (World.drewN_drewN _ _ _))
  replace HB := Aside0.mk (LK.below_at (pw_below_drewN HB.out n16) (World.drewN_drewN _ _ _))
  have HZn16 := Aside0.mk (show (w14.drewN n15).heap.size ≤ (w14.drewN (n15 + n16)).heap.size from Nat.le_refl _)
  go_wp2_with fail
  go_ret
  exact ⟨rfl, HB.out⟩
set_option maxHeartbeats 2000000 in
set_option maxRecDepth 100000 in
theorem FnExactShiftClasses_big0 (A0 : Option Addr) (c0 : Nat) (l0 : List (List Int)) (a1 : Int) (z0 : Int) (hz0 : z0 < 0) (w : World) (hC0 : Kd.C (Kd.slice 3 (Kd.int .i64)) w A0 l0.length l0) (hc0 : l0.length ≤ c0)
    (h0 : Ev (fun k => laws_szIntSS.f k l0 1048576) z0) :
    Calls Try.prog 11 #[.slice A0 l0.length c0, .int .i64 a1] w fun e w' => e = .returned (.bool true) ∧ Below w.heap.size w w' := by
  obtain ⟨k0, e0⟩ := h0
  obtain ⟨k, hk⟩ : ∃ k, k = k0 := ⟨_, rfl⟩
  have H0 := Aside0.mk (e0 k (by omega))
  clear hk e0
  have HC0 := Aside0.mk hC0
  have Hc0 := Aside0.mk hc0
  clear hC0 hc0
  have HB := Aside0.mk (Below.refl w.heap.size w)
  have hzd0 : decide (z0 < 0) = true := by simp; omega
  go_enter Try.func11, Try.ntmps11
  go_wp2_with fail
  refine (laws_szIntSS.calls k A0 c0 (l0) 1048576 z0 _ (Kd.C_below HC0.out HB.out) Hc0.out H0.out).mono ?_
  rintro e_ w1 ⟨rfl, ⟨n1, rfl⟩⟩
  replace HB := Aside0.mk (LK.below_at (pw_below_drewN HB.out n1) (rfl))
  have HZn1 := Aside0.mk (show w.heap.size ≤ (w.drewN n1).heap.size from Nat.le_refl _)
  go_wp2_with fail
  go_ret
  exact ⟨rfl, HB.out⟩
end Go.Proofs.Ytpdgjciaihlhmaa.M