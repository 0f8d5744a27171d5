/- Texts of the claim on FnAvoidance, joined (part 3 of 6): walks of the functions, what they come to, and in the last part the row. No condition of mine. -/
import Derived.Test.YthkkpdgadfhijaaBFnAvoidance0
import Derived.Test.YthkkpdgadfhijaaBFnAvoidance1
import Derived.Test.YthkkpdgadfhijaaBFnAvoidance2
import Derived.Deep.RegionHeld3
/- Walks for this claim, written by a program of mine over the kit's print. No condition of mine. -/
namespace Go.Proofs.Ythkkpdgadfhijaa.M
open Go.RowKit Go.Proofs.Ythkkpdgadfhijaa.KW Go.Proofs.YthkkpdgadfhijaaW.PrintWords Go.Proofs.YthkkpdgadfhijaaW.PrintLast Go.Proofs.YthkkpdgadfhijaaW.PrintMore
attribute [local go_sem] max2_int min2_int max_two min_two max_three min_three max_four min_four   -- for this text's walks alone
set_option linter.unusedVariables false
set_option linter.unusedSimpArgs false

/-! ### impl_areAvoided: function 108 -/
def impl_areAvoided.f (k : Nat) (a0 : Int) (l1 : List Int) : Option (Bool) := if a0 ≥ 1 then (if a0 ≤ 3 then ((impl_IsPattern.f k l1).bind fun t861 => (some t861)) else (some false)) else (some false)
theorem impl_areAvoided.mono : ∀ a0 a1 k, LeO (impl_areAvoided.f k a0 a1) (impl_areAvoided.f (k + 1) a0 a1) := by
 intro a0 a1 k
 unfold impl_areAvoided.f
 repeat' first
   | (with_reducible exact impl_IsPattern.mono _ _)
   | (with_reducible exact LeO.refl _)
   | (with_reducible exact LeO.none _)
   | (with_reducible refine LeO.ite ?_ ?_)
   | (with_reducible refine LeO.bind ?_ (fun _ => ?_))
   | exact impl_IsPattern.mono _ _
   | exact LeO.none _
   | refine LeO.ite ?_ ?_
   | refine LeO.bind ?_ (fun _ => ?_)
set_option maxHeartbeats 8000000 in
set_option maxRecDepth 100000 in
theorem impl_areAvoided.calls (k : Nat) (a0 : Int) (A1 : Option Addr) (c1 : Nat) (l1 : List Int) (r : Bool) (w : World) (hr1 : Kd.C (Kd.int .i64) w A1 l1.length l1) (hc1 : l1.length ≤ c1) (h : impl_areAvoided.f k a0 l1 = some r) :
  Calls Try.prog 108 #[.int .i64 a0, .slice A1 l1.length c1] w fun e w' => e = .returned (.bool r) ∧ Drawn0 w w' := by
 have HR1 := Aside0.mk hr1
 have HC1 := Aside0.mk hc1
 clear hr1 hc1
 have H : (if a0 ≥ 1 then (if a0 ≤ 3 then ((impl_IsPattern.f k l1).bind fun t861 => (some t861)) else (some false)) else (some false)) = some r := h
 clear h
 by_cases c3 : a0 ≥ 1
 ·rw [if_pos c3] at H
  have c3b0 : decide (1 ≤ a0) = true := decide_eq_true c3
  clear c3
  by_cases c4 : a0 ≤ 3
  ·rw [if_pos c4] at H
   have c4b0 : decide (a0 ≤ 3) = true := decide_eq_true c4
   clear c4
   replace H := Option.bind_eq_some_iff.mp H
   obtain ⟨t861, A50, H⟩ := H
   replace H : (some t861) = some r := H
   have A5 := Aside0.mk A50
   clear A50
   obtain rfl := Option.some.inj H
   go_enter Try.func108, Try.ntmps108
   go_wp2_with (first | (go_at_call 62; (with_reducible refine (impl_IsPattern.calls k _ _ l1 t861 _ ?side1 ?side2 A5.out).mono ?_); (case side1 => repeat (first | exact HR1.out | (with_reducible refine Kd.C_alloc ?_ _) | (with_reducible refine Kd.C_drewN ?_ _) | (with_reducible refine Kd.C_drew ?_))); (case side2 => exact HC1.out); rintro e w' ⟨rfl, ⟨nd, rfl⟩⟩))
   go_ret
   exact ⟨by first | rfl | (simp; done) | (simp [*]; done), by repeat (first | exact Drawn0.refl _ | apply Drawn0.step)⟩
  ·rw [if_neg c4] at H
   have c4b0 : decide (a0 ≤ 3) = false := decide_eq_false c4
   clear c4
   obtain rfl := Option.some.inj H
   go_enter Try.func108, Try.ntmps108
   go_wp2
   go_ret
   exact ⟨by first | rfl | (simp; done) | (simp [*]; done), by repeat (first | exact Drawn0.refl _ | apply Drawn0.step)⟩
 ·rw [if_neg c3] at H
  have c3b0 : decide (1 ≤ a0) = false := decide_eq_false c3
  clear c3
  obtain rfl := Option.some.inj H
  go_enter Try.func108, Try.ntmps108
  go_wp2
  go_ret
  exact ⟨by first | rfl | (simp; done) | (simp [*]; done), by repeat (first | exact Drawn0.refl _ | apply Drawn0.step)⟩

end Go.Proofs.Ythkkpdgadfhijaa.M
/- Walks for this claim, written by a program of mine over the kit's print. No condition of mine. -/
namespace Go.Proofs.Ythkkpdgadfhijaa.M
open Go.RowKit Go.Proofs.Ythkkpdgadfhijaa.KW Go.Proofs.YthkkpdgadfhijaaW.PrintWords Go.Proofs.YthkkpdgadfhijaaW.PrintLast Go.Proofs.YthkkpdgadfhijaaW.PrintMore
attribute [local go_sem] max2_int min2_int max_two min_two max_three min_three max_four min_four   -- for this text's walks alone
set_option linter.unusedVariables false
set_option linter.unusedSimpArgs false

/-! ### spec_ExtensionsOf: function 46 -/
mutual
def spec_ExtensionsOf.l0 : Nat → List Int → Int → List Int → List Int → Int → Option (List Int)
 | 0, _, _, _, _, _ => none
 | k + 1, x0, x1, x2, x7, x8 => if x8 < x1 then ((spec_l30Fine.f k x1 x2).bind fun t915 => (if t915 = true then ((spec_IsWord.f k x0 x1).bind fun t916 => (spec_ExtensionsOf.j1 k x0 x1 x2 x7 x8 t916)) else (spec_ExtensionsOf.j1 k x0 x1 x2 x7 x8 false))) else (spec_ExtensionsOf.j1 k x0 x1 x2 x7 x8 false)
def spec_ExtensionsOf.j1 : Nat → List Int → Int → List Int → List Int → Int → Bool → Option (List Int)
 | 0, _, _, _, _, _, _ => none
 | k + 1, x0, x1, x2, x7, x8, x22 => if x22 = true then ((some (([] : List Int) : List Int)).bind fun y917 => (if y917.length + x0.length < 17592186044416 then ((some (y917 ++ x0 : List Int)).bind fun y920 => (if y920.length < 17592186044416 then ((spec_AvoidsPattern.f k (y920 ++ [x8]) x2).bind fun t926 => (if t926 = true then (if x7.length < 17592186044416 then (spec_ExtensionsOf.l0 k x0 x1 x2 (x7 ++ [x8]) (wrap64 (x8 + 1))) else (none)) else (spec_ExtensionsOf.l0 k x0 x1 x2 x7 (wrap64 (x8 + 1))))) else (none))) else (none))) else (some x7)
end
def spec_ExtensionsOf.f (k : Nat) (l0 : List Int) (a1 : Int) (l2 : List Int) : Option (List Int) := spec_ExtensionsOf.l0 k l0 a1 l2 (([] : List Int)) 0
theorem spec_ExtensionsOf.mono_l : ∀ k, (∀ y0 y1 y2 y3 y4, LeO (spec_ExtensionsOf.l0 k y0 y1 y2 y3 y4) (spec_ExtensionsOf.l0 (k + 1) y0 y1 y2 y3 y4)) ∧ (∀ y0 y1 y2 y3 y4 y5, LeO (spec_ExtensionsOf.j1 k y0 y1 y2 y3 y4 y5) (spec_ExtensionsOf.j1 (k + 1) y0 y1 y2 y3 y4 y5))
 | 0 => ⟨fun _ _ _ _ _ r h => by simp [spec_ExtensionsOf.l0] at h, fun _ _ _ _ _ _ r h => by simp [spec_ExtensionsOf.j1] at h⟩
 | k + 1 => by
  obtain ⟨ih0, ih1⟩ := spec_ExtensionsOf.mono_l k
  refine ⟨?_, ?_⟩
  ·intro y0 y1 y2 y3 y4
   unfold spec_ExtensionsOf.l0
   repeat' first
   | (with_reducible exact ih0 _ _ _ _ _)
   | (with_reducible exact ih1 _ _ _ _ _ _)
   | (with_reducible exact spec_AvoidsPattern.mono _ _ _)
   | (with_reducible exact spec_IsWord.mono _ _ _)
   | (with_reducible exact spec_l30Fine.mono _ _ _)
   | (with_reducible exact LeO.refl _)
   | (with_reducible exact LeO.none _)
   | (with_reducible refine LeO.ite ?_ ?_)
   | (with_reducible refine LeO.bind ?_ (fun _ => ?_))
   | exact ih0 _ _ _ _ _
   | exact ih1 _ _ _ _ _ _
   | exact spec_AvoidsPattern.mono _ _ _
   | exact spec_IsWord.mono _ _ _
   | exact spec_l30Fine.mono _ _ _
   | exact LeO.none _
   | refine LeO.ite ?_ ?_
   | refine LeO.bind ?_ (fun _ => ?_)
  ·intro y0 y1 y2 y3 y4 y5
   unfold spec_ExtensionsOf.j1
   repeat' first
   | (with_reducible exact ih0 _ _ _ _ _)
   | (with_reducible exact ih1 _ _ _ _ _ _)
   | (with_reducible exact spec_AvoidsPattern.mono _ _ _)
   | (with_reducible exact spec_IsWord.mono _ _ _)
   | (with_reducible exact spec_l30Fine.mono _ _ _)
   | (with_reducible exact LeO.refl _)
   | (with_reducible exact LeO.none _)
   | (with_reducible refine LeO.ite ?_ ?_)
   | (with_reducible refine LeO.bind ?_ (fun _ => ?_))
   | exact ih0 _ _ _ _ _
   | exact ih1 _ _ _ _ _ _
   | exact spec_AvoidsPattern.mono _ _ _
   | exact spec_IsWord.mono _ _ _
   | exact spec_l30Fine.mono _ _ _
   | exact LeO.none _
   | refine LeO.ite ?_ ?_
   | refine LeO.bind ?_ (fun _ => ?_)
theorem spec_ExtensionsOf.mono : ∀ a0 a1 a2 k, LeO (spec_ExtensionsOf.f k a0 a1 a2) (spec_ExtensionsOf.f (k + 1) a0 a1 a2) := by
 intro a0 a1 a2 k
 obtain ⟨ih0, ih1⟩ := spec_ExtensionsOf.mono_l k
 unfold spec_ExtensionsOf.f
 repeat' first
   | (with_reducible exact ih0 _ _ _ _ _)
   | (with_reducible exact ih1 _ _ _ _ _ _)
   | (with_reducible exact spec_AvoidsPattern.mono _ _ _)
   | (with_reducible exact spec_IsWord.mono _ _ _)
   | (with_reducible exact spec_l30Fine.mono _ _ _)
   | (with_reducible exact LeO.refl _)
   | (with_reducible exact LeO.none _)
   | (with_reducible refine LeO.ite ?_ ?_)
   | (with_reducible refine LeO.bind ?_ (fun _ => ?_))
   | exact ih0 _ _ _ _ _
   | exact ih1 _ _ _ _ _ _
   | exact spec_AvoidsPattern.mono _ _ _
   | exact spec_IsWord.mono _ _ _
   | exact spec_l30Fine.mono _ _ _
   | exact LeO.none _
   | refine LeO.ite ?_ ?_
   | refine LeO.bind ?_ (fun _ => ?_)
set_option maxHeartbeats 8000000 in
set_option maxRecDepth 100000 in
theorem spec_ExtensionsOf.calls (k : Nat) (A0 : Option Addr) (c0 : Nat) (l0 : List Int) (a1 : Int) (A2 : Option Addr) (c2 : Nat) (l2 : List Int) (r : List Int) (w : World) (hr0 : Kd.C (Kd.int .i64) w A0 l0.length l0) (hc0 : l0.length ≤ c0) (hr2 : Kd.C (Kd.int .i64) w A2 l2.length l2) (hc2 : l2.length ≤ c2) (h : spec_ExtensionsOf.f k l0 a1 l2 = some r) :
  Calls Try.prog 46 #[.slice A0 l0.length c0, .int .i64 a1, .slice A2 l2.length c2] w fun e w' => ∃ v0_ : Value, e = .returned (v0_) ∧ Kd.R (Kd.int .i64) 3 w' w.heap.size (fun _ => True) v0_ r ∧ Below w.heap.size w w' := by
 have HR0 := Aside0.mk hr0
 have HC0 := Aside0.mk hc0
 clear hr0 hc0
 have HR2 := Aside0.mk hr2
 have HC2 := Aside0.mk hc2
 clear hr2 hc2
 have HB := Aside0.mk (Below.refl w.heap.size w)
 have H : (spec_ExtensionsOf.l0 k l0 a1 l2 (([] : List Int)) 0) = some r := h
 clear h
 obtain ⟨y912, hy912⟩ : ∃ y_ : List Int, y_ = (([] : List Int)) := ⟨_, rfl⟩
 replace H : (spec_ExtensionsOf.l0 k l0 a1 l2 y912 0) = some r := by first | (rw [hy912]; with_reducible exact H) | (have H2_ := (Option.bind_some _ _).symm.trans H; rw [hy912]; with_reducible exact H2_) | (have H2_ := (Option.bind_some _ _).symm.trans H; with_reducible exact H2_) | with_reducible exact H | (rw [hy912]; exact H) | exact H
 have Ny912 := Aside0.mk hy912
 clear hy912
 have H' := Aside0.mk H
 clear H
 go_enter Try.func46, Try.ntmps46
 go_wp2_with (first | ((with_reducible refine gate_dst (N := 9) rfl ?_); refine Kd.R_lit (Kd.int .i64) _ 3 ?hg (N := 9) ?hd (xs := ([] : List Int)) (inner := []) (ok := fun _ => True) (okp := fun _ => True) ?hr ?hp (fun _ hk => hk) trivial (Below.refl _ _) (Nat.le_refl _) (by simp) ?_; (case hd => rfl); (case hg => rfl); (case hr => first | (go_simp; done) | (go_simp; rfl)); (case hp => exact (Reps.none _ _)); intro v913 w4 ho5 hb hg_ hnew_; clear hg_ hnew_; (first | rw [← Ny912.out] at ho5 | (simp only [Int.reduceToNat] at ho5; rw [← Ny912.out] at ho5)); have n0_ := Aside0.mk (Kd.R_lower ho5 (below_size (by repeat (first | (with_reducible first | exact HB.out | apply below_alloc | apply pw_below_drewN | apply below_drew1) | exact HB.out)))); have n1_ := Aside0.mk (below_step (by repeat (first | (with_reducible first | exact HB.out | apply below_alloc | apply pw_below_drewN | apply below_drew1) | exact HB.out)) hb); clear HB; have HO914 := n0_; have HB := n1_; clear n0_ n1_; clear hb ho5))
 go_loopg [7, 8] k (fun kq v7 v8 w' => ∃ (x7_1 : List Int) (x8_1 : Int), v8 = .int .i64 x8_1 ∧ Aside0 (spec_ExtensionsOf.l0 kq l0 a1 l2 x7_1 x8_1 = some r) ∧ Aside0 (kq ≤ k) ∧ Aside0 (Kd.R (Kd.int .i64) 3 w' w.heap.size (fun _ => True) v7 x7_1) ∧ Aside0 (Below w.heap.size w w'))
 case atStart => exact ⟨(y912), (0), (by first | rfl | (simp; done) | (simp [*]; done)), H', ⟨Nat.le_refl _⟩, ⟨by (with_reducible repeat (first | apply Kd.R_alloc | apply Kd.R_drewN | apply Kd.R_drew)); exact HO914.out⟩, ⟨by repeat (first | (with_reducible first | exact HB.out | apply below_alloc | apply pw_below_drewN | apply below_drew1) | exact HB.out)⟩⟩
 case round =>
  clear H'
  try clear c2
  try clear p2
  try clear c4
  obtain ⟨x7_1, x8_1, rfl, HA, HK1, HO_7, HB⟩ := hrel
  cases gk with
  | zero => exact absurd HA.out (by simp [spec_ExtensionsOf.l0])
  | succ k1 =>
   have H := HA.out
   clear HA
   simp only [spec_ExtensionsOf.l0] at H
   have HC6 := Aside0.mk H
   clear H
   go_upto_region 3 with (fail)
   go_cut [22] (fun v22 wc => ∃ (kq : Nat) (x22_5 : Bool), v22 = .bool x22_5 ∧ Aside0 (spec_ExtensionsOf.j1 kq l0 a1 l2 x7_1 x8_1 x22_5 = some r) ∧ Aside0 (kq ≤ k1) ∧ Aside0 (Kd.R (Kd.int .i64) 3 wc w.heap.size (fun _ => True) u7 x7_1) ∧ Aside0 (Below w.heap.size w wc))
   case first =>
    have H := HC6.out
    clear HC6
    by_cases c7 : x8_1 < a1
    ·rw [if_pos c7] at H
     have c7b0 : decide (x8_1 < a1) = true := decide_eq_true c7
     clear c7
     (first | rw [c7b0] | (simp only [i64_w, i32_w]; rw [c7b0]) | skip)
     replace H := Option.bind_eq_some_iff.mp H
     obtain ⟨t915, A80, H⟩ := H
     replace H : (if t915 = true then ((spec_IsWord.f k1 l0 a1).bind fun t916 => (spec_ExtensionsOf.j1 k1 l0 a1 l2 x7_1 x8_1 t916)) else (spec_ExtensionsOf.j1 k1 l0 a1 l2 x7_1 x8_1 false)) = some r := H
     have A8 := Aside0.mk A80
     clear A80
     by_cases c9 : t915 = true
     ·subst c9
      have H1 : ((spec_IsWord.f k1 l0 a1).bind fun t916 => (spec_ExtensionsOf.j1 k1 l0 a1 l2 x7_1 x8_1 t916)) = some r := by rw [if_pos rfl] at H; exact H
      clear H
      have H := H1
      clear H1
      replace H := Option.bind_eq_some_iff.mp H
      obtain ⟨t916, A100, H⟩ := H
      replace H : (spec_ExtensionsOf.j1 k1 l0 a1 l2 x7_1 x8_1 t916) = some r := H
      have A10 := Aside0.mk A100
      clear A100
      have H' := Aside0.mk H
      clear H
      go_wp2_with (first | (go_at_call 106; (with_reducible refine (spec_l30Fine.calls k1 a1 _ _ l2 true _ ?side1 ?side2 A8.out).mono ?_); (case side1 => repeat (first | exact (Kd.C_below HR2.out HB.out) | (with_reducible refine Kd.C_alloc ?_ _) | (with_reducible refine Kd.C_drewN ?_ _) | (with_reducible refine Kd.C_drew ?_))); (case side2 => exact HC2.out); rintro e w' ⟨rfl, ⟨nd, rfl⟩⟩) | (go_at_call 56; (with_reducible refine (spec_IsWord.calls k1 _ _ l0 a1 t916 _ ?side1 ?side2 A10.out).mono ?_); (case side1 => repeat (first | exact (Kd.C_below HR0.out (by repeat (first | (with_reducible first | exact HB.out | apply below_alloc | apply pw_below_drewN | apply below_drew1) | exact HB.out))) | (with_reducible refine Kd.C_alloc ?_ _) | (with_reducible refine Kd.C_drewN ?_ _) | (with_reducible refine Kd.C_drew ?_))); (case side2 => exact HC0.out); rintro e w' ⟨rfl, ⟨nd, rfl⟩⟩))
      go_meet
      case rel => exact ⟨_, (t916), (by first | rfl | (simp; done) | (simp [*]; done)), H', ⟨by have := HK1.out; first | omega | exact Nat.le_refl _⟩, ⟨by (with_reducible repeat (first | apply Kd.R_alloc | apply Kd.R_drewN | apply Kd.R_drew)); exact HO_7.out⟩, ⟨by repeat (first | (with_reducible first | exact HB.out | apply below_alloc | apply pw_below_drewN | apply below_drew1) | exact HB.out)⟩⟩
     ·replace c9 := Bool.eq_false_iff.mpr c9
      subst c9
      have H1 : (spec_ExtensionsOf.j1 k1 l0 a1 l2 x7_1 x8_1 false) = some r := by rw [if_neg (show ¬ (false = true) by decide)] at H; exact H
      clear H
      have H := H1
      clear H1
      have H' := Aside0.mk H
      clear H
      go_wp2_with (first | (go_at_call 106; (with_reducible refine (spec_l30Fine.calls k1 a1 _ _ l2 false _ ?side1 ?side2 A8.out).mono ?_); (case side1 => repeat (first | exact (Kd.C_below HR2.out HB.out) | (with_reducible refine Kd.C_alloc ?_ _) | (with_reducible refine Kd.C_drewN ?_ _) | (with_reducible refine Kd.C_drew ?_))); (case side2 => exact HC2.out); rintro e w' ⟨rfl, ⟨nd, rfl⟩⟩))
      go_meet
      case rel => exact ⟨_, (false), (by first | rfl | (simp; done) | (simp [*]; done)), H', ⟨by have := HK1.out; first | omega | exact Nat.le_refl _⟩, ⟨by (with_reducible repeat (first | apply Kd.R_alloc | apply Kd.R_drewN | apply Kd.R_drew)); exact HO_7.out⟩, ⟨by repeat (first | (with_reducible first | exact HB.out | apply below_alloc | apply pw_below_drewN | apply below_drew1) | exact HB.out)⟩⟩
    ·rw [if_neg c7] at H
     have c7b0 : decide (x8_1 < a1) = false := decide_eq_false c7
     clear c7
     (first | rw [c7b0] | (simp only [i64_w, i32_w]; rw [c7b0]) | skip)
     have H' := Aside0.mk H
     clear H
     go_wp2
     go_meet
     case rel => exact ⟨_, (false), (by first | rfl | (simp; done) | (simp [*]; done)), H', ⟨by have := HK1.out; first | omega | exact Nat.le_refl _⟩, ⟨by (with_reducible repeat (first | apply Kd.R_alloc | apply Kd.R_drewN | apply Kd.R_drew)); exact HO_7.out⟩, ⟨by repeat (first | (with_reducible first | exact HB.out | apply below_alloc | apply pw_below_drewN | apply below_drew1) | exact HB.out)⟩⟩
   case rest =>
    clear HC6
    try clear c2
    try clear p2
    try clear c4
    try clear c7
    try clear c7b0
    try clear c9
    try clear p2
    obtain ⟨kq, x22_5, rfl, HA, HJ5, HO_7, HB⟩ := hcut
    cases kq with
    | zero => exact absurd HA.out (by simp [spec_ExtensionsOf.j1])
    | succ kj5 =>
     have H := HA.out
     clear HA
     simp only [spec_ExtensionsOf.j1] at H
     by_cases c11 : x22_5 = true
     ·subst c11
      have H1 : ((some (([] : List Int) : List Int)).bind fun y917 => (if y917.length + l0.length < 17592186044416 then ((some (y917 ++ l0 : List Int)).bind fun y920 => (if y920.length < 17592186044416 then ((spec_AvoidsPattern.f kj5 (y920 ++ [x8_1]) l2).bind fun t926 => (if t926 = true then (if x7_1.length < 17592186044416 then (spec_ExtensionsOf.l0 kj5 l0 a1 l2 (x7_1 ++ [x8_1]) (wrap64 (x8_1 + 1))) else (none)) else (spec_ExtensionsOf.l0 kj5 l0 a1 l2 x7_1 (wrap64 (x8_1 + 1))))) else (none))) else (none))) = some r := by rw [if_pos rfl] at H; exact H
      clear H
      have H := H1
      clear H1
      obtain ⟨y917, hy917⟩ : ∃ y_ : List Int, y_ = (([] : List Int)) := ⟨_, rfl⟩
      replace H : (if y917.length + l0.length < 17592186044416 then ((some (y917 ++ l0 : List Int)).bind fun y920 => (if y920.length < 17592186044416 then ((spec_AvoidsPattern.f kj5 (y920 ++ [x8_1]) l2).bind fun t926 => (if t926 = true then (if x7_1.length < 17592186044416 then (spec_ExtensionsOf.l0 kj5 l0 a1 l2 (x7_1 ++ [x8_1]) (wrap64 (x8_1 + 1))) else (none)) else (spec_ExtensionsOf.l0 kj5 l0 a1 l2 x7_1 (wrap64 (x8_1 + 1))))) else (none))) else (none)) = some r := by first | (rw [hy917]; with_reducible exact H) | (have H2_ := (Option.bind_some _ _).symm.trans H; rw [hy917]; with_reducible exact H2_) | (have H2_ := (Option.bind_some _ _).symm.trans H; with_reducible exact H2_) | with_reducible exact H | (rw [hy917]; exact H) | exact H
      have Ny917 := Aside0.mk hy917
      clear hy917
      by_cases c12 : y917.length + l0.length < 17592186044416
      ·rw [if_pos c12] at H
       have LMc12 := Aside0.mk c12
       clear c12
       obtain ⟨y920, hy920⟩ : ∃ y_ : List Int, y_ = (y917 ++ l0) := ⟨_, rfl⟩
       replace H : (if y920.length < 17592186044416 then ((spec_AvoidsPattern.f kj5 (y920 ++ [x8_1]) l2).bind fun t926 => (if t926 = true then (if x7_1.length < 17592186044416 then (spec_ExtensionsOf.l0 kj5 l0 a1 l2 (x7_1 ++ [x8_1]) (wrap64 (x8_1 + 1))) else (none)) else (spec_ExtensionsOf.l0 kj5 l0 a1 l2 x7_1 (wrap64 (x8_1 + 1))))) else (none)) = some r := by first | (rw [hy920]; with_reducible exact H) | (have H2_ := (Option.bind_some _ _).symm.trans H; rw [hy920]; with_reducible exact H2_) | (have H2_ := (Option.bind_some _ _).symm.trans H; with_reducible exact H2_) | with_reducible exact H | (rw [hy920]; exact H) | exact H
       have Ny920 := Aside0.mk hy920
       clear hy920
       by_cases c13 : y920.length < 17592186044416
       ·rw [if_pos c13] at H
        have LMc13 := Aside0.mk c13
        clear c13
        obtain ⟨y923, hy923⟩ : ∃ y_ : List Int, y_ = (y920 ++ [x8_1]) := ⟨_, rfl⟩
        replace H : ((spec_AvoidsPattern.f kj5 y923 l2).bind fun t926 => (if t926 = true then (if x7_1.length < 17592186044416 then (spec_ExtensionsOf.l0 kj5 l0 a1 l2 (x7_1 ++ [x8_1]) (wrap64 (x8_1 + 1))) else (none)) else (spec_ExtensionsOf.l0 kj5 l0 a1 l2 x7_1 (wrap64 (x8_1 + 1))))) = some r := by first | (rw [hy923]; with_reducible exact H) | (have H2_ := (Option.bind_some _ _).symm.trans H; rw [hy923]; with_reducible exact H2_) | (have H2_ := (Option.bind_some _ _).symm.trans H; with_reducible exact H2_) | with_reducible exact H | (rw [hy923]; exact H) | exact H
        have Ny923 := Aside0.mk hy923
        clear hy923
        replace H := Option.bind_eq_some_iff.mp H
        obtain ⟨t926, A140, H⟩ := H
        replace H : (if t926 = true then (if x7_1.length < 17592186044416 then (spec_ExtensionsOf.l0 kj5 l0 a1 l2 (x7_1 ++ [x8_1]) (wrap64 (x8_1 + 1))) else (none)) else (spec_ExtensionsOf.l0 kj5 l0 a1 l2 x7_1 (wrap64 (x8_1 + 1)))) = some r := H
        have A14 := Aside0.mk A140
        clear A140
        by_cases c15 : t926 = true
        ·subst c15
         have H1 : (if x7_1.length < 17592186044416 then (spec_ExtensionsOf.l0 kj5 l0 a1 l2 (x7_1 ++ [x8_1]) (wrap64 (x8_1 + 1))) else (none)) = some r := by rw [if_pos rfl] at H; exact H
         clear H
         have H := H1
         clear H1
         by_cases c16 : x7_1.length < 17592186044416
         ·rw [if_pos c16] at H
          have LMc16 := Aside0.mk c16
          clear c16
          obtain ⟨y927, hy927⟩ : ∃ y_ : List Int, y_ = (x7_1 ++ [x8_1]) := ⟨_, rfl⟩
          replace H : (spec_ExtensionsOf.l0 kj5 l0 a1 l2 y927 (wrap64 (x8_1 + 1))) = some r := by first | (rw [hy927]; with_reducible exact H) | (have H2_ := (Option.bind_some _ _).symm.trans H; rw [hy927]; with_reducible exact H2_) | (have H2_ := (Option.bind_some _ _).symm.trans H; with_reducible exact H2_) | with_reducible exact H | (rw [hy927]; exact H) | exact H
          have Ny927 := Aside0.mk hy927
          clear hy927
          have H' := Aside0.mk H
          clear H
          go_wp2_with (first | ((with_reducible refine gate_dst (N := 25) rfl ?_); refine Kd.R_lit (Kd.int .i64) _ 3 ?hg (N := 25) ?hd (xs := ([] : List Int)) (inner := []) (ok := fun _ => True) (okp := fun _ => True) ?hr ?hp (fun _ hk => hk) trivial (Below.refl _ _) (Nat.le_refl _) (by simp) ?_; (case hd => rfl); (case hg => rfl); (case hr => first | (go_simp; done) | (go_simp; rfl)); (case hp => exact (Reps.none _ _)); intro v918 w17 ho18 hb hg_ hnew_; clear hg_ hnew_; (first | rw [← Ny917.out] at ho18 | (simp only [Int.reduceToNat] at ho18; rw [← Ny917.out] at ho18)); have n0_ := Aside0.mk (Kd.R_elder' (by (with_reducible repeat (first | apply Kd.R_alloc | apply Kd.R_drewN | apply Kd.R_drew)); exact HO_7.out) (Kd.R_base ho18) hb); have n1_ := Aside0.mk (Kd.R_lower (Kd.R_new' ho18 (Kd.R_lt (by (with_reducible repeat (first | apply Kd.R_alloc | apply Kd.R_drewN | apply Kd.R_drew)); exact HO_7.out))) (below_size (by repeat (first | (with_reducible first | exact HB.out | apply below_alloc | apply pw_below_drewN | apply below_drew1) | exact HB.out)))); have n2_ := Aside0.mk (below_step (by repeat (first | (with_reducible first | exact HB.out | apply below_alloc | apply pw_below_drewN | apply below_drew1) | exact HB.out)) hb); clear HO_7; clear HB; have HO_7 := n0_; have HO919 := n1_; have HB := n2_; clear n0_ n1_ n2_; clear hb ho18) | ((with_reducible refine gate_builtin (b := .append) (xs := #[.tmp 25, .tmp 26]) rfl ?_); at_builtin; refine Kd.R_append_rows (Kd.int .i64) (w0 := w) w.heap.size rfl (.tmp 25) (.tmp 26) 22 3 (.int .i64 0) 8 rfl Try.underlying22 info3 rfl (by decide) (by omega) v918 y917 l0 _ _ _ (fun k_ => some k_ ≠ (u7 : Value).ownBlock) (fun _ => False) rfl rfl ?aO ?aR (fun _ _ h => h) (fun _ h => h.elim) ?aF ?aB ?aS ?aL ?_; (case aR => repeat (first | exact (Kd.C_below HR0.out HB.out) | (with_reducible refine Kd.C_alloc ?_ _) | (with_reducible refine Kd.C_drewN ?_ _) | (with_reducible refine Kd.C_drew ?_))); (case aB => exact (by repeat (first | (with_reducible first | exact HB.out | apply below_alloc | apply pw_below_drewN | apply below_drew1) | exact HB.out))); (case aF => exact (fun k_ hk => Kd.fresh' (Kd.R_lt (by (with_reducible repeat (first | apply Kd.R_alloc | apply Kd.R_drewN | apply Kd.R_drew)); exact HO_7.out)) k_ hk)); (case aO => exact (by (with_reducible repeat (first | apply Kd.R_alloc | apply Kd.R_drewN | apply Kd.R_drew)); exact Kd.R_mono HO919.out (fun _ hk => hk.2))); (case aS => exact (below_size (by repeat (first | (with_reducible first | exact HB.out | apply below_alloc | apply pw_below_drewN | apply below_drew1) | exact HB.out)))); (case aL => have := LMc12.out; omega); intro v921 w19 ho hb hg hat; rw [← Ny920.out] at ho; have n0_ := Aside0.mk (Kd.R_after (ok := (fun _ => True)) (by (with_reducible repeat (first | apply Kd.R_alloc | apply Kd.R_drewN | apply Kd.R_drew)); exact HO_7.out) hg hat); have n1_ := Aside0.mk (hb); have n2_ := Aside0.mk (ho); clear HO_7; clear HB; clear HO919; have HO_7 := n0_; have HB := n1_; have HO922 := n2_; clear n0_ n1_ n2_; clear ho hb hg hat) | ((with_reducible refine gate_builtin (b := .append) (xs := #[.tmp 27, .tmp 29]) rfl ?_); at_builtin; refine Kd.R_append (Kd.int .i64) (w0 := w) w.heap.size rfl (.tmp 27) (.tmp 29) 22 3 (.int .i64 0) 8 rfl Try.underlying22 info3 rfl (by decide) (by omega) v921 y920 x8_1 [.int .i64 x8_1] (fun k_ => some k_ ≠ (u7 : Value).ownBlock) (fun _ => False) rfl rfl ?aP (fun _ hk => hk.elim) ?aF ?aO ?aB ?aS ?aL ?_; (case aP => exact rfl); (case aB => exact (by repeat (first | (with_reducible first | exact HB.out | apply below_alloc | apply pw_below_drewN | apply below_drew1) | exact HB.out))); (case aF => exact (fun k_ hk => Kd.fresh' (Kd.R_lt (by (with_reducible repeat (first | apply Kd.R_alloc | apply Kd.R_drewN | apply Kd.R_drew)); exact HO_7.out)) k_ hk)); (case aO => exact (by (with_reducible repeat (first | apply Kd.R_alloc | apply Kd.R_drewN | apply Kd.R_drew)); exact HO922.out)); (case aS => exact (below_size (by repeat (first | (with_reducible first | exact HB.out | apply below_alloc | apply pw_below_drewN | apply below_drew1) | exact HB.out)))); (case aL => have := LMc13.out; omega); intro v924 w20 ho hb hg hat; rw [← Ny923.out] at ho; have n0_ := Aside0.mk (Kd.R_after (ok := (fun _ => True)) (by (with_reducible repeat (first | apply Kd.R_alloc | apply Kd.R_drewN | apply Kd.R_drew)); exact HO_7.out) hg hat); have n1_ := Aside0.mk (hb); have n2_ := Aside0.mk (ho); clear HO_7; clear HB; clear HO922; have HO_7 := n0_; have HB := n1_; have HO925 := n2_; clear n0_ n1_ n2_; clear ho hb hg hat; obtain ⟨Ao21, co21, eo21⟩ := Kd.R_slice HO925.out; subst eo21) | ((with_reducible refine gate_callee (f := 67) rfl ?_); refine goesL_ (some 32) rfl rfl Try.func67 (by kernel_rfl) rfl #[.slice Ao21 y923.length co21, .slice A2 l2.length c2] rfl (by (try simp only [List.map_toArray, List.map_cons, List.map_nil]); first | done | rfl | (simp only [List.length_drop, List.length_take]; rfl)) ?_; (with_reducible refine (spec_AvoidsPattern.calls kj5 _ _ y923 _ _ l2 true _ ?side1 ?side2 ?side3 ?side4 A14.out).mono ?_); (case side1 => repeat (first | exact (Kd.R_reads' HO925.out).2.2 | (with_reducible refine Kd.C_alloc ?_ _) | (with_reducible refine Kd.C_drewN ?_ _) | (with_reducible refine Kd.C_drew ?_))); (case side2 => exact (Kd.R_reads' HO925.out).2.1); (case side3 => repeat (first | exact (Kd.C_below HR2.out HB.out) | (with_reducible refine Kd.C_alloc ?_ _) | (with_reducible refine Kd.C_drewN ?_ _) | (with_reducible refine Kd.C_drew ?_))); (case side4 => exact HC2.out); rintro e w22 ⟨rfl, hb⟩; refine ⟨_, rfl, ?_⟩; have n0_ := Aside0.mk (Kd.R_below (by (with_reducible repeat (first | apply Kd.R_alloc | apply Kd.R_drewN | apply Kd.R_drew)); exact HO_7.out) hb); have n1_ := Aside0.mk (Kd.R_below (by (with_reducible repeat (first | apply Kd.R_alloc | apply Kd.R_drewN | apply Kd.R_drew)); exact HO925.out) hb); have n2_ := Aside0.mk (below_step (by repeat (first | (with_reducible first | exact HB.out | apply below_alloc | apply pw_below_drewN | apply below_drew1) | exact HB.out)) hb); clear HO_7; clear HO925; clear HB; have HO_7 := n0_; have HO925 := n1_; have HB := n2_; clear n0_ n1_ n2_; (try clear hb); (try clear hb2); (try clear hk); (try clear hi)) | ((with_reducible refine gate_builtin (b := .append) (xs := #[.tmp 33, .tmp 35]) rfl ?_); at_builtin; refine Kd.R_append (Kd.int .i64) (w0 := w) w.heap.size rfl (.tmp 33) (.tmp 35) 22 3 (.int .i64 0) 8 rfl Try.underlying22 info3 rfl (by decide) (by omega) u7 x7_1 x8_1 [.int .i64 x8_1] (fun k_ => some k_ ≠ (.slice Ao21 y923.length co21 : Value).ownBlock) (fun _ => False) rfl rfl ?aP (fun _ hk => hk.elim) ?aF ?aO ?aB ?aS ?aL ?_; (case aP => exact rfl); (case aB => exact (by repeat (first | (with_reducible first | exact HB.out | apply below_alloc | apply pw_below_drewN | apply below_drew1) | exact HB.out))); (case aF => exact (fun k_ hk => Kd.fresh' (Kd.R_lt (by (with_reducible repeat (first | apply Kd.R_alloc | apply Kd.R_drewN | apply Kd.R_drew)); exact HO925.out)) k_ hk)); (case aO => exact (by (with_reducible repeat (first | apply Kd.R_alloc | apply Kd.R_drewN | apply Kd.R_drew)); exact Kd.R_mono HO_7.out (fun _ hk => hk.2))); (case aS => exact (below_size (by repeat (first | (with_reducible first | exact HB.out | apply below_alloc | apply pw_below_drewN | apply below_drew1) | exact HB.out)))); (case aL => have := LMc16.out; omega); intro v928 w23 ho hb hg hat; rw [← Ny927.out] at ho; have n0_ := Aside0.mk (Kd.R_after (ok := (fun _ => True)) (by (with_reducible repeat (first | apply Kd.R_alloc | apply Kd.R_drewN | apply Kd.R_drew)); exact Kd.R_mono HO925.out (fun _ hk => ⟨trivial, hk⟩)) hg hat); have n1_ := Aside0.mk (hb); have n2_ := Aside0.mk (ho); clear HO925; clear HB; clear HO_7; have HO925 := n0_; have HB := n1_; have HO929 := n2_; clear n0_ n1_ n2_; clear ho hb hg hat))
          go_roundg kj5
          case measure => have := HK1.out; have := HJ5.out; omega
          case rel => exact ⟨(y927), (wrap64 (x8_1 + 1)), (by first | rfl | (simp; done) | (simp [*]; done)), H', ⟨by have := HK1.out; have := HJ5.out; omega⟩, ⟨by (with_reducible repeat (first | apply Kd.R_alloc | apply Kd.R_drewN | apply Kd.R_drew)); exact Kd.R_mono HO929.out (fun _ hk => trivial)⟩, ⟨by repeat (first | (with_reducible first | exact HB.out | apply below_alloc | apply pw_below_drewN | apply below_drew1) | exact HB.out)⟩⟩
         ·rw [if_neg c16] at H
          exact absurd H (by simp)
        ·replace c15 := Bool.eq_false_iff.mpr c15
         subst c15
         have H1 : (spec_ExtensionsOf.l0 kj5 l0 a1 l2 x7_1 (wrap64 (x8_1 + 1))) = some r := by rw [if_neg (show ¬ (false = true) by decide)] at H; exact H
         clear H
         have H := H1
         clear H1
         have H' := Aside0.mk H
         clear H
         go_wp2_with (first | ((with_reducible refine gate_dst (N := 25) rfl ?_); refine Kd.R_lit (Kd.int .i64) _ 3 ?hg (N := 25) ?hd (xs := ([] : List Int)) (inner := []) (ok := fun _ => True) (okp := fun _ => True) ?hr ?hp (fun _ hk => hk) trivial (Below.refl _ _) (Nat.le_refl _) (by simp) ?_; (case hd => rfl); (case hg => rfl); (case hr => first | (go_simp; done) | (go_simp; rfl)); (case hp => exact (Reps.none _ _)); intro v918 w24 ho25 hb hg_ hnew_; clear hg_ hnew_; (first | rw [← Ny917.out] at ho25 | (simp only [Int.reduceToNat] at ho25; rw [← Ny917.out] at ho25)); have n0_ := Aside0.mk (Kd.R_elder' (by (with_reducible repeat (first | apply Kd.R_alloc | apply Kd.R_drewN | apply Kd.R_drew)); exact HO_7.out) (Kd.R_base ho25) hb); have n1_ := Aside0.mk (Kd.R_lower (Kd.R_new' ho25 (Kd.R_lt (by (with_reducible repeat (first | apply Kd.R_alloc | apply Kd.R_drewN | apply Kd.R_drew)); exact HO_7.out))) (below_size (by repeat (first | (with_reducible first | exact HB.out | apply below_alloc | apply pw_below_drewN | apply below_drew1) | exact HB.out)))); have n2_ := Aside0.mk (below_step (by repeat (first | (with_reducible first | exact HB.out | apply below_alloc | apply pw_below_drewN | apply below_drew1) | exact HB.out)) hb); clear HO_7; clear HB; have HO_7 := n0_; have HO919 := n1_; have HB := n2_; clear n0_ n1_ n2_; clear hb ho25) | ((with_reducible refine gate_builtin (b := .append) (xs := #[.tmp 25, .tmp 26]) rfl ?_); at_builtin; refine Kd.R_append_rows (Kd.int .i64) (w0 := w) w.heap.size rfl (.tmp 25) (.tmp 26) 22 3 (.int .i64 0) 8 rfl Try.underlying22 info3 rfl (by decide) (by omega) v918 y917 l0 _ _ _ (fun k_ => some k_ ≠ (u7 : Value).ownBlock) (fun _ => False) rfl rfl ?aO ?aR (fun _ _ h => h) (fun _ h => h.elim) ?aF ?aB ?aS ?aL ?_; (case aR => repeat (first | exact (Kd.C_below HR0.out HB.out) | (with_reducible refine Kd.C_alloc ?_ _) | (with_reducible refine Kd.C_drewN ?_ _) | (with_reducible refine Kd.C_drew ?_))); (case aB => exact (by repeat (first | (with_reducible first | exact HB.out | apply below_alloc | apply pw_below_drewN | apply below_drew1) | exact HB.out))); (case aF => exact (fun k_ hk => Kd.fresh' (Kd.R_lt (by (with_reducible repeat (first | apply Kd.R_alloc | apply Kd.R_drewN | apply Kd.R_drew)); exact HO_7.out)) k_ hk)); (case aO => exact (by (with_reducible repeat (first | apply Kd.R_alloc | apply Kd.R_drewN | apply Kd.R_drew)); exact Kd.R_mono HO919.out (fun _ hk => hk.2))); (case aS => exact (below_size (by repeat (first | (with_reducible first | exact HB.out | apply below_alloc | apply pw_below_drewN | apply below_drew1) | exact HB.out)))); (case aL => have := LMc12.out; omega); intro v921 w26 ho hb hg hat; rw [← Ny920.out] at ho; have n0_ := Aside0.mk (Kd.R_after (ok := (fun _ => True)) (by (with_reducible repeat (first | apply Kd.R_alloc | apply Kd.R_drewN | apply Kd.R_drew)); exact HO_7.out) hg hat); have n1_ := Aside0.mk (hb); have n2_ := Aside0.mk (ho); clear HO_7; clear HB; clear HO919; have HO_7 := n0_; have HB := n1_; have HO922 := n2_; clear n0_ n1_ n2_; clear ho hb hg hat) | ((with_reducible refine gate_builtin (b := .append) (xs := #[.tmp 27, .tmp 29]) rfl ?_); at_builtin; refine Kd.R_append (Kd.int .i64) (w0 := w) w.heap.size rfl (.tmp 27) (.tmp 29) 22 3 (.int .i64 0) 8 rfl Try.underlying22 info3 rfl (by decide) (by omega) v921 y920 x8_1 [.int .i64 x8_1] (fun k_ => some k_ ≠ (u7 : Value).ownBlock) (fun _ => False) rfl rfl ?aP (fun _ hk => hk.elim) ?aF ?aO ?aB ?aS ?aL ?_; (case aP => exact rfl); (case aB => exact (by repeat (first | (with_reducible first | exact HB.out | apply below_alloc | apply pw_below_drewN | apply below_drew1) | exact HB.out))); (case aF => exact (fun k_ hk => Kd.fresh' (Kd.R_lt (by (with_reducible repeat (first | apply Kd.R_alloc | apply Kd.R_drewN | apply Kd.R_drew)); exact HO_7.out)) k_ hk)); (case aO => exact (by (with_reducible repeat (first | apply Kd.R_alloc | apply Kd.R_drewN | apply Kd.R_drew)); exact HO922.out)); (case aS => exact (below_size (by repeat (first | (with_reducible first | exact HB.out | apply below_alloc | apply pw_below_drewN | apply below_drew1) | exact HB.out)))); (case aL => have := LMc13.out; omega); intro v924 w27 ho hb hg hat; rw [← Ny923.out] at ho; have n0_ := Aside0.mk (Kd.R_after (ok := (fun _ => True)) (by (with_reducible repeat (first | apply Kd.R_alloc | apply Kd.R_drewN | apply Kd.R_drew)); exact HO_7.out) hg hat); have n1_ := Aside0.mk (hb); have n2_ := Aside0.mk (ho); clear HO_7; clear HB; clear HO922; have HO_7 := n0_; have HB := n1_; have HO925 := n2_; clear n0_ n1_ n2_; clear ho hb hg hat; obtain ⟨Ao28, co28, eo28⟩ := Kd.R_slice HO925.out; subst eo28) | ((with_reducible refine gate_callee (f := 67) rfl ?_); refine goesL_ (some 32) rfl rfl Try.func67 (by kernel_rfl) rfl #[.slice Ao28 y923.length co28, .slice A2 l2.length c2] rfl (by (try simp only [List.map_toArray, List.map_cons, List.map_nil]); first | done | rfl | (simp only [List.length_drop, List.length_take]; rfl)) ?_; (with_reducible refine (spec_AvoidsPattern.calls kj5 _ _ y923 _ _ l2 false _ ?side1 ?side2 ?side3 ?side4 A14.out).mono ?_); (case side1 => repeat (first | exact (Kd.R_reads' HO925.out).2.2 | (with_reducible refine Kd.C_alloc ?_ _) | (with_reducible refine Kd.C_drewN ?_ _) | (with_reducible refine Kd.C_drew ?_))); (case side2 => exact (Kd.R_reads' HO925.out).2.1); (case side3 => repeat (first | exact (Kd.C_below HR2.out HB.out) | (with_reducible refine Kd.C_alloc ?_ _) | (with_reducible refine Kd.C_drewN ?_ _) | (with_reducible refine Kd.C_drew ?_))); (case side4 => exact HC2.out); rintro e w29 ⟨rfl, hb⟩; refine ⟨_, rfl, ?_⟩; have n0_ := Aside0.mk (Kd.R_below (by (with_reducible repeat (first | apply Kd.R_alloc | apply Kd.R_drewN | apply Kd.R_drew)); exact HO_7.out) hb); have n1_ := Aside0.mk (Kd.R_below (by (with_reducible repeat (first | apply Kd.R_alloc | apply Kd.R_drewN | apply Kd.R_drew)); exact HO925.out) hb); have n2_ := Aside0.mk (below_step (by repeat (first | (with_reducible first | exact HB.out | apply below_alloc | apply pw_below_drewN | apply below_drew1) | exact HB.out)) hb); clear HO_7; clear HO925; clear HB; have HO_7 := n0_; have HO925 := n1_; have HB := n2_; clear n0_ n1_ n2_; (try clear hb); (try clear hb2); (try clear hk); (try clear hi)))
         go_roundg kj5
         case measure => have := HK1.out; have := HJ5.out; omega
         case rel => exact ⟨(x7_1), (wrap64 (x8_1 + 1)), (by first | rfl | (simp; done) | (simp [*]; done)), H', ⟨by have := HK1.out; have := HJ5.out; omega⟩, ⟨by (with_reducible repeat (first | apply Kd.R_alloc | apply Kd.R_drewN | apply Kd.R_drew)); exact Kd.R_mono HO_7.out (fun _ hk => trivial)⟩, ⟨by repeat (first | (with_reducible first | exact HB.out | apply below_alloc | apply pw_below_drewN | apply below_drew1) | exact HB.out)⟩⟩
       ·rw [if_neg c13] at H
        exact absurd H (by simp)
      ·rw [if_neg c12] at H
       exact absurd H (by simp)
     ·replace c11 := Bool.eq_false_iff.mpr c11
      subst c11
      have H1 : (some x7_1) = some r := by rw [if_neg (show ¬ (false = true) by decide)] at H; exact H
      clear H
      have H := H1
      clear H1
      obtain rfl := Option.some.inj H
      go_wp2
      go_ret
      exact ⟨_, by first | rfl | (simp [errW_none, errW_some] <;> rfl) | (simp [*, errW_none, errW_some] <;> rfl), by (with_reducible repeat (first | apply Kd.R_alloc | apply Kd.R_drewN | apply Kd.R_drew)); exact HO_7.out, by repeat (first | (with_reducible first | exact HB.out | apply below_alloc | apply pw_below_drewN | apply below_drew1) | exact HB.out)⟩

end Go.Proofs.Ythkkpdgadfhijaa.M
/- Walks for this claim, written by a program of mine over the kit's print. No condition of mine. -/
namespace Go.Proofs.Ythkkpdgadfhijaa.M
open Go.RowKit Go.Proofs.Ythkkpdgadfhijaa.KW Go.Proofs.YthkkpdgadfhijaaW.PrintWords Go.Proofs.YthkkpdgadfhijaaW.PrintLast Go.Proofs.YthkkpdgadfhijaaW.PrintMore
attribute [local go_sem] max2_int min2_int max_two min_two max_three min_three max_four min_four   -- for this text's walks alone
set_option linter.unusedVariables false
set_option linter.unusedSimpArgs false

/-! ### impl_ExtensionsOf: function 47 -/
mutual
def impl_ExtensionsOf.j0 : Nat → List Int → Int → List Int → List Int → Bool → Option (List Int)
 | 0, _, _, _, _, _ => none
 | k + 1, x0, x1, x2, x7, x24 => if x24 = true then (some x7) else (impl_ExtensionsOf.l0 k x0 x2 x7 x1 0)
def impl_ExtensionsOf.l0 : Nat → List Int → List Int → List Int → Int → Int → Option (List Int)
 | 0, _, _, _, _, _ => none
 | k + 1, x0, x2, x7, x26, x27 => if x27 < x26 then ((some (([] : List Int) : List Int)).bind fun y971 => (if y971.length + x0.length < 17592186044416 then ((some (y971 ++ x0 : List Int)).bind fun y974 => (if y974.length < 17592186044416 then ((impl_AvoidsPattern.f k (y974 ++ [x27]) x2).bind fun t980 => (if t980 = true then (if x7.length < 17592186044416 then (impl_ExtensionsOf.l0 k x0 x2 (x7 ++ [x27]) x26 (wrap64 (x27 + 1))) else (none)) else (impl_ExtensionsOf.l0 k x0 x2 x7 x26 (wrap64 (x27 + 1))))) else (none))) else (none))) else (some x7)
end
def impl_ExtensionsOf.f (k : Nat) (l0 : List Int) (a1 : Int) (l2 : List Int) : Option (List Int) := (some (([] : List Int) : List Int)).bind fun y966 => ((impl_areAvoided.f k a1 l2).bind fun t969 => (if t969 = true then ((impl_IsWord.f k l0 a1).bind fun t970 => (if t970 = true then (impl_ExtensionsOf.j0 k l0 a1 l2 y966 (decide ((l0.length : Int) ≥ 24))) else (impl_ExtensionsOf.j0 k l0 a1 l2 y966 true))) else (impl_ExtensionsOf.j0 k l0 a1 l2 y966 true)))
theorem impl_ExtensionsOf.mono_l : ∀ k, (∀ y0 y1 y2 y3 y4, LeO (impl_ExtensionsOf.j0 k y0 y1 y2 y3 y4) (impl_ExtensionsOf.j0 (k + 1) y0 y1 y2 y3 y4)) ∧ (∀ y0 y1 y2 y3 y4, LeO (impl_ExtensionsOf.l0 k y0 y1 y2 y3 y4) (impl_ExtensionsOf.l0 (k + 1) y0 y1 y2 y3 y4))
 | 0 => ⟨fun _ _ _ _ _ r h => by simp [impl_ExtensionsOf.j0] at h, fun _ _ _ _ _ r h => by simp [impl_ExtensionsOf.l0] at h⟩
 | k + 1 => by
  obtain ⟨ih0, ih1⟩ := impl_ExtensionsOf.mono_l k
  refine ⟨?_, ?_⟩
  ·intro y0 y1 y2 y3 y4
   unfold impl_ExtensionsOf.j0
   repeat' first
   | (with_reducible exact ih0 _ _ _ _ _)
   | (with_reducible exact ih1 _ _ _ _ _)
   | (with_reducible exact impl_AvoidsPattern.mono _ _ _)
   | (with_reducible exact impl_IsWord.mono _ _ _)
   | (with_reducible exact impl_areAvoided.mono _ _ _)
   | (with_reducible exact LeO.refl _)
   | (with_reducible exact LeO.none _)
   | (with_reducible refine LeO.ite ?_ ?_)
   | (with_reducible refine LeO.bind ?_ (fun _ => ?_))
   | exact ih0 _ _ _ _ _
   | exact ih1 _ _ _ _ _
   | exact impl_AvoidsPattern.mono _ _ _
   | exact impl_IsWord.mono _ _ _
   | exact impl_areAvoided.mono _ _ _
   | exact LeO.none _
   | refine LeO.ite ?_ ?_
   | refine LeO.bind ?_ (fun _ => ?_)
  ·intro y0 y1 y2 y3 y4
   unfold impl_ExtensionsOf.l0
   repeat' first
   | (with_reducible exact ih0 _ _ _ _ _)
   | (with_reducible exact ih1 _ _ _ _ _)
   | (with_reducible exact impl_AvoidsPattern.mono _ _ _)
   | (with_reducible exact impl_IsWord.mono _ _ _)
   | (with_reducible exact impl_areAvoided.mono _ _ _)
   | (with_reducible exact LeO.refl _)
   | (with_reducible exact LeO.none _)
   | (with_reducible refine LeO.ite ?_ ?_)
   | (with_reducible refine LeO.bind ?_ (fun _ => ?_))
   | exact ih0 _ _ _ _ _
   | exact ih1 _ _ _ _ _
   | exact impl_AvoidsPattern.mono _ _ _
   | exact impl_IsWord.mono _ _ _
   | exact impl_areAvoided.mono _ _ _
   | exact LeO.none _
   | refine LeO.ite ?_ ?_
   | refine LeO.bind ?_ (fun _ => ?_)
theorem impl_ExtensionsOf.mono : ∀ a0 a1 a2 k, LeO (impl_ExtensionsOf.f k a0 a1 a2) (impl_ExtensionsOf.f (k + 1) a0 a1 a2) := by
 intro a0 a1 a2 k
 obtain ⟨ih0, ih1⟩ := impl_ExtensionsOf.mono_l k
 unfold impl_ExtensionsOf.f
 repeat' first
   | (with_reducible exact ih0 _ _ _ _ _)
   | (with_reducible exact ih1 _ _ _ _ _)
   | (with_reducible exact impl_AvoidsPattern.mono _ _ _)
   | (with_reducible exact impl_IsWord.mono _ _ _)
   | (with_reducible exact impl_areAvoided.mono _ _ _)
   | (with_reducible exact LeO.refl _)
   | (with_reducible exact LeO.none _)
   | (with_reducible refine LeO.ite ?_ ?_)
   | (with_reducible refine LeO.bind ?_ (fun _ => ?_))
   | exact ih0 _ _ _ _ _
   | exact ih1 _ _ _ _ _
   | exact impl_AvoidsPattern.mono _ _ _
   | exact impl_IsWord.mono _ _ _
   | exact impl_areAvoided.mono _ _ _
   | exact LeO.none _
   | refine LeO.ite ?_ ?_
   | refine LeO.bind ?_ (fun _ => ?_)
set_option maxHeartbeats 8000000 in
set_option maxRecDepth 100000 in
theorem impl_ExtensionsOf.calls (k : Nat) (A0 : Option Addr) (c0 : Nat) (l0 : List Int) (a1 : Int) (A2 : Option Addr) (c2 : Nat) (l2 : List Int) (r : List Int) (w : World) (hr0 : Kd.C (Kd.int .i64) w A0 l0.length l0) (hc0 : l0.length ≤ c0) (hr2 : Kd.C (Kd.int .i64) w A2 l2.length l2) (hc2 : l2.length ≤ c2) (h : impl_ExtensionsOf.f k l0 a1 l2 = some r) :
  Calls Try.prog 47 #[.slice A0 l0.length c0, .int .i64 a1, .slice A2 l2.length c2] w fun e w' => ∃ v0_ : Value, e = .returned (v0_) ∧ Kd.R (Kd.int .i64) 3 w' w.heap.size (fun _ => True) v0_ r ∧ Below w.heap.size w w' := by
 have HR0 := Aside0.mk hr0
 have HC0 := Aside0.mk hc0
 clear hr0 hc0
 have HR2 := Aside0.mk hr2
 have HC2 := Aside0.mk hc2
 clear hr2 hc2
 have HB := Aside0.mk (Below.refl w.heap.size w)
 have H : ((some (([] : List Int) : List Int)).bind fun y966 => ((impl_areAvoided.f k a1 l2).bind fun t969 => (if t969 = true then ((impl_IsWord.f k l0 a1).bind fun t970 => (if t970 = true then (impl_ExtensionsOf.j0 k l0 a1 l2 y966 (decide ((l0.length : Int) ≥ 24))) else (impl_ExtensionsOf.j0 k l0 a1 l2 y966 true))) else (impl_ExtensionsOf.j0 k l0 a1 l2 y966 true)))) = some r := h
 clear h
 obtain ⟨y966, hy966⟩ : ∃ y_ : List Int, y_ = (([] : List Int)) := ⟨_, rfl⟩
 replace H : ((impl_areAvoided.f k a1 l2).bind fun t969 => (if t969 = true then ((impl_IsWord.f k l0 a1).bind fun t970 => (if t970 = true then (impl_ExtensionsOf.j0 k l0 a1 l2 y966 (decide ((l0.length : Int) ≥ 24))) else (impl_ExtensionsOf.j0 k l0 a1 l2 y966 true))) else (impl_ExtensionsOf.j0 k l0 a1 l2 y966 true))) = some r := by first | (rw [hy966]; with_reducible exact H) | (have H2_ := (Option.bind_some _ _).symm.trans H; rw [hy966]; with_reducible exact H2_) | (have H2_ := (Option.bind_some _ _).symm.trans H; with_reducible exact H2_) | with_reducible exact H | (rw [hy966]; exact H) | exact H
 have Ny966 := Aside0.mk hy966
 clear hy966
 have HC4 := Aside0.mk H
 clear H
 go_enter Try.func47, Try.ntmps47
 go_upto_region 2 with (first | ((with_reducible refine gate_dst (N := 9) rfl ?_); (try (refine gate_guard (by rfl) ?_; dsimp only)); refine Kd.R_lit (Kd.int .i64) _ 3 ?hg (N := 9) ?hd (xs := ([] : List Int)) (inner := []) (ok := fun _ => True) (okp := fun _ => True) ?hr ?hp (fun _ hk => hk) trivial (Below.refl _ _) (Nat.le_refl _) (by simp) ?_; (case hd => rfl); (case hg => rfl); (case hr => first | (go_simp; done) | (go_simp; rfl)); (case hp => exact (Reps.none _ _)); intro v967 w5 ho6 hb hg_ hnew_; clear hg_ hnew_; (first | rw [← Ny966.out] at ho6 | (simp only [Int.reduceToNat] at ho6; rw [← Ny966.out] at ho6)); have n0_ := Aside0.mk (Kd.R_lower ho6 (below_size (by repeat (first | (with_reducible first | exact HB.out | apply below_alloc | apply pw_below_drewN | apply below_drew1) | exact HB.out)))); have n1_ := Aside0.mk (below_step (by repeat (first | (with_reducible first | exact HB.out | apply below_alloc | apply pw_below_drewN | apply below_drew1) | exact HB.out)) hb); clear HB; have HO968 := n0_; have HB := n1_; clear n0_ n1_; clear hb ho6))
 (try simp only [Act.put, List.setIfInBounds_toArray, List.set_cons_zero, List.set_cons_succ])
 go_cut [24] (fun v24 wc => ∃ (kq : Nat) (x24_3 : Bool), v24 = .bool x24_3 ∧ Aside0 (impl_ExtensionsOf.j0 kq l0 a1 l2 y966 x24_3 = some r) ∧ Aside0 (kq ≤ k) ∧ Aside0 (Kd.R (Kd.int .i64) 3 wc w.heap.size (fun _ => True) v967 y966) ∧ Aside0 (Below w.heap.size w wc))
 case first =>
  have H := HC4.out
  clear HC4
  replace H := Option.bind_eq_some_iff.mp H
  obtain ⟨t969, A70, H⟩ := H
  replace H : (if t969 = true then ((impl_IsWord.f k l0 a1).bind fun t970 => (if t970 = true then (impl_ExtensionsOf.j0 k l0 a1 l2 y966 (decide ((l0.length : Int) ≥ 24))) else (impl_ExtensionsOf.j0 k l0 a1 l2 y966 true))) else (impl_ExtensionsOf.j0 k l0 a1 l2 y966 true)) = some r := H
  have A7 := Aside0.mk A70
  clear A70
  by_cases c8 : t969 = true
  ·subst c8
   have H1 : ((impl_IsWord.f k l0 a1).bind fun t970 => (if t970 = true then (impl_ExtensionsOf.j0 k l0 a1 l2 y966 (decide ((l0.length : Int) ≥ 24))) else (impl_ExtensionsOf.j0 k l0 a1 l2 y966 true))) = some r := by rw [if_pos rfl] at H; exact H
   clear H
   have H := H1
   clear H1
   replace H := Option.bind_eq_some_iff.mp H
   obtain ⟨t970, A90, H⟩ := H
   replace H : (if t970 = true then (impl_ExtensionsOf.j0 k l0 a1 l2 y966 (decide ((l0.length : Int) ≥ 24))) else (impl_ExtensionsOf.j0 k l0 a1 l2 y966 true)) = some r := H
   have A9 := Aside0.mk A90
   clear A90
   by_cases c10 : t970 = true
   ·subst c10
    have H1 : (impl_ExtensionsOf.j0 k l0 a1 l2 y966 (decide ((l0.length : Int) ≥ 24))) = some r := by rw [if_pos rfl] at H; exact H
    clear H
    have H := H1
    clear H1
    have H' := Aside0.mk H
    clear H
    go_wp2_with (first | ((with_reducible refine gate_callee (f := 108) rfl ?_); refine goesL_ (some 12) rfl rfl Try.func108 (by kernel_rfl) rfl #[.int .i64 a1, .slice A2 l2.length c2] rfl (by (try simp only [List.map_toArray, List.map_cons, List.map_nil]); first | done | rfl | (simp only [List.length_drop, List.length_take]; rfl)) ?_; (with_reducible refine (impl_areAvoided.calls k a1 _ _ l2 true _ ?side1 ?side2 A7.out).mono ?_); (case side1 => repeat (first | exact (Kd.C_below HR2.out HB.out) | (with_reducible refine Kd.C_alloc ?_ _) | (with_reducible refine Kd.C_drewN ?_ _) | (with_reducible refine Kd.C_drew ?_))); (case side2 => exact HC2.out); rintro e w' ⟨rfl, ⟨nd, rfl⟩⟩; refine ⟨_, rfl, ?_⟩) | (go_at_call 111; (with_reducible refine (impl_IsWord.calls k _ _ l0 a1 true _ ?side1 ?side2 A9.out).mono ?_); (case side1 => repeat (first | exact (Kd.C_below HR0.out (by repeat (first | (with_reducible first | exact HB.out | apply below_alloc | apply pw_below_drewN | apply below_drew1) | exact HB.out))) | (with_reducible refine Kd.C_alloc ?_ _) | (with_reducible refine Kd.C_drewN ?_ _) | (with_reducible refine Kd.C_drew ?_))); (case side2 => exact HC0.out); rintro e w' ⟨rfl, ⟨nd, rfl⟩⟩))
    go_meet
    case rel => exact ⟨_, (decide ((l0.length : Int) ≥ 24)), (by first | rfl | (simp; done) | (simp [*]; done)), H', ⟨by first | omega | exact Nat.le_refl _⟩, ⟨by (with_reducible repeat (first | apply Kd.R_alloc | apply Kd.R_drewN | apply Kd.R_drew)); exact HO968.out⟩, ⟨by repeat (first | (with_reducible first | exact HB.out | apply below_alloc | apply pw_below_drewN | apply below_drew1) | exact HB.out)⟩⟩
   ·replace c10 := Bool.eq_false_iff.mpr c10
    subst c10
    have H1 : (impl_ExtensionsOf.j0 k l0 a1 l2 y966 true) = some r := by rw [if_neg (show ¬ (false = true) by decide)] at H; exact H
    clear H
    have H := H1
    clear H1
    have H' := Aside0.mk H
    clear H
    go_wp2_with (first | ((with_reducible refine gate_callee (f := 108) rfl ?_); refine goesL_ (some 12) rfl rfl Try.func108 (by kernel_rfl) rfl #[.int .i64 a1, .slice A2 l2.length c2] rfl (by (try simp only [List.map_toArray, List.map_cons, List.map_nil]); first | done | rfl | (simp only [List.length_drop, List.length_take]; rfl)) ?_; (with_reducible refine (impl_areAvoided.calls k a1 _ _ l2 true _ ?side1 ?side2 A7.out).mono ?_); (case side1 => repeat (first | exact (Kd.C_below HR2.out HB.out) | (with_reducible refine Kd.C_alloc ?_ _) | (with_reducible refine Kd.C_drewN ?_ _) | (with_reducible refine Kd.C_drew ?_))); (case side2 => exact HC2.out); rintro e w' ⟨rfl, ⟨nd, rfl⟩⟩; refine ⟨_, rfl, ?_⟩) | (go_at_call 111; (with_reducible refine (impl_IsWord.calls k _ _ l0 a1 false _ ?side1 ?side2 A9.out).mono ?_); (case side1 => repeat (first | exact (Kd.C_below HR0.out (by repeat (first | (with_reducible first | exact HB.out | apply below_alloc | apply pw_below_drewN | apply below_drew1) | exact HB.out))) | (with_reducible refine Kd.C_alloc ?_ _) | (with_reducible refine Kd.C_drewN ?_ _) | (with_reducible refine Kd.C_drew ?_))); (case side2 => exact HC0.out); rintro e w' ⟨rfl, ⟨nd, rfl⟩⟩))
    go_meet
    case rel => exact ⟨_, (true), (by first | rfl | (simp; done) | (simp [*]; done)), H', ⟨by first | omega | exact Nat.le_refl _⟩, ⟨by (with_reducible repeat (first | apply Kd.R_alloc | apply Kd.R_drewN | apply Kd.R_drew)); exact HO968.out⟩, ⟨by repeat (first | (with_reducible first | exact HB.out | apply below_alloc | apply pw_below_drewN | apply below_drew1) | exact HB.out)⟩⟩
  ·replace c8 := Bool.eq_false_iff.mpr c8
   subst c8
   have H1 : (impl_ExtensionsOf.j0 k l0 a1 l2 y966 true) = some r := by rw [if_neg (show ¬ (false = true) by decide)] at H; exact H
   clear H
   have H := H1
   clear H1
   have H' := Aside0.mk H
   clear H
   go_wp2_with (first | ((with_reducible refine gate_callee (f := 108) rfl ?_); refine goesL_ (some 12) rfl rfl Try.func108 (by kernel_rfl) rfl #[.int .i64 a1, .slice A2 l2.length c2] rfl (by (try simp only [List.map_toArray, List.map_cons, List.map_nil]); first | done | rfl | (simp only [List.length_drop, List.length_take]; rfl)) ?_; (with_reducible refine (impl_areAvoided.calls k a1 _ _ l2 false _ ?side1 ?side2 A7.out).mono ?_); (case side1 => repeat (first | exact (Kd.C_below HR2.out HB.out) | (with_reducible refine Kd.C_alloc ?_ _) | (with_reducible refine Kd.C_drewN ?_ _) | (with_reducible refine Kd.C_drew ?_))); (case side2 => exact HC2.out); rintro e w' ⟨rfl, ⟨nd, rfl⟩⟩; refine ⟨_, rfl, ?_⟩))
   go_meet
   case rel => exact ⟨_, (true), (by first | rfl | (simp; done) | (simp [*]; done)), H', ⟨by first | omega | exact Nat.le_refl _⟩, ⟨by (with_reducible repeat (first | apply Kd.R_alloc | apply Kd.R_drewN | apply Kd.R_drew)); exact HO968.out⟩, ⟨by repeat (first | (with_reducible first | exact HB.out | apply below_alloc | apply pw_below_drewN | apply below_drew1) | exact HB.out)⟩⟩
 case rest =>
  clear HC4
  try clear c1
  try clear c2
  try clear p2
  try clear c4
  try clear c8
  try clear c10
  obtain ⟨kq, x24_3, rfl, HA, HJ3, HO_7, HB⟩ := hcut
  cases kq with
  | zero => exact absurd HA.out (by simp [impl_ExtensionsOf.j0])
  | succ kj3 =>
   have H := HA.out
   clear HA
   simp only [impl_ExtensionsOf.j0] at H
   by_cases c11 : x24_3 = true
   ·subst c11
    have H1 : (some y966) = some r := by rw [if_pos rfl] at H; exact H
    clear H
    have H := H1
    clear H1
    obtain rfl := Option.some.inj H
    go_wp2
    go_ret
    exact ⟨_, by first | rfl | (simp [errW_none, errW_some] <;> rfl) | (simp [*, errW_none, errW_some] <;> rfl), by (with_reducible repeat (first | apply Kd.R_alloc | apply Kd.R_drewN | apply Kd.R_drew)); exact HO_7.out, by repeat (first | (with_reducible first | exact HB.out | apply below_alloc | apply pw_below_drewN | apply below_drew1) | exact HB.out)⟩
   ·replace c11 := Bool.eq_false_iff.mpr c11
    subst c11
    have H1 : (impl_ExtensionsOf.l0 kj3 l0 l2 y966 a1 0) = some r := by rw [if_neg (show ¬ (false = true) by decide)] at H; exact H
    clear H
    have H := H1
    clear H1
    have H' := Aside0.mk H
    clear H
    go_wp2
    go_loopg [7, 27] kj3 (fun kq v7 v27 w' => ∃ (x7_2 : List Int) (x27_2 : Int), v27 = .int .i64 x27_2 ∧ Aside0 (impl_ExtensionsOf.l0 kq l0 l2 x7_2 a1 x27_2 = some r) ∧ Aside0 (kq ≤ kj3) ∧ Aside0 (Kd.R (Kd.int .i64) 3 w' w.heap.size (fun _ => True) v7 x7_2) ∧ Aside0 (Below w.heap.size w w'))
    case atStart => exact ⟨(y966), (0), (by first | rfl | (simp; done) | (simp [*]; done)), H', ⟨Nat.le_refl _⟩, ⟨by (with_reducible repeat (first | apply Kd.R_alloc | apply Kd.R_drewN | apply Kd.R_drew)); exact HO_7.out⟩, ⟨by repeat (first | (with_reducible first | exact HB.out | apply below_alloc | apply pw_below_drewN | apply below_drew1) | exact HB.out)⟩⟩
    case round =>
     clear H'
     try clear c1
     try clear c2
     try clear p2
     try clear c4
     try clear c8
     try clear c10
     try clear c11
     try clear p2
     obtain ⟨x7_2, x27_2, rfl, HA, HK2, HO_7, HB⟩ := hrel
     cases gk with
     | zero => exact absurd HA.out (by simp [impl_ExtensionsOf.l0])
     | succ k2 =>
      have H := HA.out
      clear HA
      simp only [impl_ExtensionsOf.l0] at H
      by_cases c12 : x27_2 < a1
      ·rw [if_pos c12] at H
       have c12b0 : decide (x27_2 < a1) = true := decide_eq_true c12
       clear c12
       obtain ⟨y971, hy971⟩ : ∃ y_ : List Int, y_ = (([] : List Int)) := ⟨_, rfl⟩
       replace H : (if y971.length + l0.length < 17592186044416 then ((some (y971 ++ l0 : List Int)).bind fun y974 => (if y974.length < 17592186044416 then ((impl_AvoidsPattern.f k2 (y974 ++ [x27_2]) l2).bind fun t980 => (if t980 = true then (if x7_2.length < 17592186044416 then (impl_ExtensionsOf.l0 k2 l0 l2 (x7_2 ++ [x27_2]) a1 (wrap64 (x27_2 + 1))) else (none)) else (impl_ExtensionsOf.l0 k2 l0 l2 x7_2 a1 (wrap64 (x27_2 + 1))))) else (none))) else (none)) = some r := by first | (rw [hy971]; with_reducible exact H) | (have H2_ := (Option.bind_some _ _).symm.trans H; rw [hy971]; with_reducible exact H2_) | (have H2_ := (Option.bind_some _ _).symm.trans H; with_reducible exact H2_) | with_reducible exact H | (rw [hy971]; exact H) | exact H
       have Ny971 := Aside0.mk hy971
       clear hy971
       by_cases c13 : y971.length + l0.length < 17592186044416
       ·rw [if_pos c13] at H
        have LMc13 := Aside0.mk c13
        clear c13
        obtain ⟨y974, hy974⟩ : ∃ y_ : List Int, y_ = (y971 ++ l0) := ⟨_, rfl⟩
        replace H : (if y974.length < 17592186044416 then ((impl_AvoidsPattern.f k2 (y974 ++ [x27_2]) l2).bind fun t980 => (if t980 = true then (if x7_2.length < 17592186044416 then (impl_ExtensionsOf.l0 k2 l0 l2 (x7_2 ++ [x27_2]) a1 (wrap64 (x27_2 + 1))) else (none)) else (impl_ExtensionsOf.l0 k2 l0 l2 x7_2 a1 (wrap64 (x27_2 + 1))))) else (none)) = some r := by first | (rw [hy974]; with_reducible exact H) | (have H2_ := (Option.bind_some _ _).symm.trans H; rw [hy974]; with_reducible exact H2_) | (have H2_ := (Option.bind_some _ _).symm.trans H; with_reducible exact H2_) | with_reducible exact H | (rw [hy974]; exact H) | exact H
        have Ny974 := Aside0.mk hy974
        clear hy974
        by_cases c14 : y974.length < 17592186044416
        ·rw [if_pos c14] at H
         have LMc14 := Aside0.mk c14
         clear c14
         obtain ⟨y977, hy977⟩ : ∃ y_ : List Int, y_ = (y974 ++ [x27_2]) := ⟨_, rfl⟩
         replace H : ((impl_AvoidsPattern.f k2 y977 l2).bind fun t980 => (if t980 = true then (if x7_2.length < 17592186044416 then (impl_ExtensionsOf.l0 k2 l0 l2 (x7_2 ++ [x27_2]) a1 (wrap64 (x27_2 + 1))) else (none)) else (impl_ExtensionsOf.l0 k2 l0 l2 x7_2 a1 (wrap64 (x27_2 + 1))))) = some r := by first | (rw [hy977]; with_reducible exact H) | (have H2_ := (Option.bind_some _ _).symm.trans H; rw [hy977]; with_reducible exact H2_) | (have H2_ := (Option.bind_some _ _).symm.trans H; with_reducible exact H2_) | with_reducible exact H | (rw [hy977]; exact H) | exact H
         have Ny977 := Aside0.mk hy977
         clear hy977
         replace H := Option.bind_eq_some_iff.mp H
         obtain ⟨t980, A150, H⟩ := H
         replace H : (if t980 = true then (if x7_2.length < 17592186044416 then (impl_ExtensionsOf.l0 k2 l0 l2 (x7_2 ++ [x27_2]) a1 (wrap64 (x27_2 + 1))) else (none)) else (impl_ExtensionsOf.l0 k2 l0 l2 x7_2 a1 (wrap64 (x27_2 + 1)))) = some r := H
         have A15 := Aside0.mk A150
         clear A150
         by_cases c16 : t980 = true
         ·subst c16
          have H1 : (if x7_2.length < 17592186044416 then (impl_ExtensionsOf.l0 k2 l0 l2 (x7_2 ++ [x27_2]) a1 (wrap64 (x27_2 + 1))) else (none)) = some r := by rw [if_pos rfl] at H; exact H
          clear H
          have H := H1
          clear H1
          by_cases c17 : x7_2.length < 17592186044416
          ·rw [if_pos c17] at H
           have LMc17 := Aside0.mk c17
           clear c17
           obtain ⟨y981, hy981⟩ : ∃ y_ : List Int, y_ = (x7_2 ++ [x27_2]) := ⟨_, rfl⟩
           replace H : (impl_ExtensionsOf.l0 k2 l0 l2 y981 a1 (wrap64 (x27_2 + 1))) = some r := by first | (rw [hy981]; with_reducible exact H) | (have H2_ := (Option.bind_some _ _).symm.trans H; rw [hy981]; with_reducible exact H2_) | (have H2_ := (Option.bind_some _ _).symm.trans H; with_reducible exact H2_) | with_reducible exact H | (rw [hy981]; exact H) | exact H
           have Ny981 := Aside0.mk hy981
           clear hy981
           have H' := Aside0.mk H
           clear H
           go_wp2_with (first | ((with_reducible refine gate_dst (N := 30) rfl ?_); (try (refine gate_guard (by rfl) ?_; dsimp only)); refine Kd.R_lit (Kd.int .i64) _ 3 ?hg (N := 30) ?hd (xs := ([] : List Int)) (inner := []) (ok := fun _ => True) (okp := fun _ => True) ?hr ?hp (fun _ hk => hk) trivial (Below.refl _ _) (Nat.le_refl _) (by simp) ?_; (case hd => rfl); (case hg => rfl); (case hr => first | (go_simp; done) | (go_simp; rfl)); (case hp => exact (Reps.none _ _)); intro v972 w18 ho19 hb hg_ hnew_; clear hg_ hnew_; (first | rw [← Ny971.out] at ho19 | (simp only [Int.reduceToNat] at ho19; rw [← Ny971.out] at ho19)); have n0_ := Aside0.mk (Kd.R_elder' (by (with_reducible repeat (first | apply Kd.R_alloc | apply Kd.R_drewN | apply Kd.R_drew)); exact HO_7.out) (Kd.R_base ho19) hb); have n1_ := Aside0.mk (Kd.R_lower (Kd.R_new' ho19 (Kd.R_lt (by (with_reducible repeat (first | apply Kd.R_alloc | apply Kd.R_drewN | apply Kd.R_drew)); exact HO_7.out))) (below_size (by repeat (first | (with_reducible first | exact HB.out | apply below_alloc | apply pw_below_drewN | apply below_drew1) | exact HB.out)))); have n2_ := Aside0.mk (below_step (by repeat (first | (with_reducible first | exact HB.out | apply below_alloc | apply pw_below_drewN | apply below_drew1) | exact HB.out)) hb); clear HO_7; clear HB; have HO_7 := n0_; have HO973 := n1_; have HB := n2_; clear n0_ n1_ n2_; clear hb ho19) | ((with_reducible refine gate_builtin (b := .append) (xs := #[.tmp 30, .tmp 31]) rfl ?_); (try (refine gate_guard (by rfl) ?_; dsimp only)); at_builtin; refine Kd.R_append_rows (Kd.int .i64) (w0 := w) w.heap.size rfl (.tmp 30) (.tmp 31) 22 3 (.int .i64 0) 8 rfl Try.underlying22 info3 rfl (by decide) (by omega) v972 y971 l0 _ _ _ (fun k_ => some k_ ≠ (u7 : Value).ownBlock) (fun _ => False) rfl rfl ?aO ?aR (fun _ _ h => h) (fun _ h => h.elim) ?aF ?aB ?aS ?aL ?_; (case aR => repeat (first | exact (Kd.C_below HR0.out HB.out) | (with_reducible refine Kd.C_alloc ?_ _) | (with_reducible refine Kd.C_drewN ?_ _) | (with_reducible refine Kd.C_drew ?_))); (case aB => exact (by repeat (first | (with_reducible first | exact HB.out | apply below_alloc | apply pw_below_drewN | apply below_drew1) | exact HB.out))); (case aF => exact (fun k_ hk => Kd.fresh' (Kd.R_lt (by (with_reducible repeat (first | apply Kd.R_alloc | apply Kd.R_drewN | apply Kd.R_drew)); exact HO_7.out)) k_ hk)); (case aO => exact (by (with_reducible repeat (first | apply Kd.R_alloc | apply Kd.R_drewN | apply Kd.R_drew)); exact Kd.R_mono HO973.out (fun _ hk => hk.2))); (case aS => exact (below_size (by repeat (first | (with_reducible first | exact HB.out | apply below_alloc | apply pw_below_drewN | apply below_drew1) | exact HB.out)))); (case aL => have := LMc13.out; omega); intro v975 w20 ho hb hg hat; rw [← Ny974.out] at ho; have n0_ := Aside0.mk (Kd.R_after (ok := (fun _ => True)) (by (with_reducible repeat (first | apply Kd.R_alloc | apply Kd.R_drewN | apply Kd.R_drew)); exact HO_7.out) hg hat); have n1_ := Aside0.mk (hb); have n2_ := Aside0.mk (ho); clear HO_7; clear HB; clear HO973; have HO_7 := n0_; have HB := n1_; have HO976 := n2_; clear n0_ n1_ n2_; clear ho hb hg hat) | ((with_reducible refine gate_builtin (b := .append) (xs := #[.tmp 32, .tmp 34]) rfl ?_); (try (refine gate_guard (by rfl) ?_; dsimp only)); at_builtin; refine Kd.R_append (Kd.int .i64) (w0 := w) w.heap.size rfl (.tmp 32) (.tmp 34) 22 3 (.int .i64 0) 8 rfl Try.underlying22 info3 rfl (by decide) (by omega) v975 y974 x27_2 [.int .i64 x27_2] (fun k_ => some k_ ≠ (u7 : Value).ownBlock) (fun _ => False) rfl rfl ?aP (fun _ hk => hk.elim) ?aF ?aO ?aB ?aS ?aL ?_; (case aP => exact rfl); (case aB => exact (by repeat (first | (with_reducible first | exact HB.out | apply below_alloc | apply pw_below_drewN | apply below_drew1) | exact HB.out))); (case aF => exact (fun k_ hk => Kd.fresh' (Kd.R_lt (by (with_reducible repeat (first | apply Kd.R_alloc | apply Kd.R_drewN | apply Kd.R_drew)); exact HO_7.out)) k_ hk)); (case aO => exact (by (with_reducible repeat (first | apply Kd.R_alloc | apply Kd.R_drewN | apply Kd.R_drew)); exact HO976.out)); (case aS => exact (below_size (by repeat (first | (with_reducible first | exact HB.out | apply below_alloc | apply pw_below_drewN | apply below_drew1) | exact HB.out)))); (case aL => have := LMc14.out; omega); intro v978 w21 ho hb hg hat; rw [← Ny977.out] at ho; have n0_ := Aside0.mk (Kd.R_after (ok := (fun _ => True)) (by (with_reducible repeat (first | apply Kd.R_alloc | apply Kd.R_drewN | apply Kd.R_drew)); exact HO_7.out) hg hat); have n1_ := Aside0.mk (hb); have n2_ := Aside0.mk (ho); clear HO_7; clear HB; clear HO976; have HO_7 := n0_; have HB := n1_; have HO979 := n2_; clear n0_ n1_ n2_; clear ho hb hg hat; obtain ⟨Ao22, co22, eo22⟩ := Kd.R_slice HO979.out; subst eo22) | ((with_reducible refine gate_callee (f := 55) rfl ?_); refine goesL_ (some 37) rfl rfl Try.func55 (by kernel_rfl) rfl #[.slice Ao22 y977.length co22, .slice A2 l2.length c2] rfl (by (try simp only [List.map_toArray, List.map_cons, List.map_nil]); first | done | rfl | (simp only [List.length_drop, List.length_take]; rfl)) ?_; (with_reducible refine (impl_AvoidsPattern.calls k2 _ _ y977 _ _ l2 true _ ?side1 ?side2 ?side3 ?side4 A15.out).mono ?_); (case side1 => repeat (first | exact (Kd.R_reads' HO979.out).2.2 | (with_reducible refine Kd.C_alloc ?_ _) | (with_reducible refine Kd.C_drewN ?_ _) | (with_reducible refine Kd.C_drew ?_))); (case side2 => exact (Kd.R_reads' HO979.out).2.1); (case side3 => repeat (first | exact (Kd.C_below HR2.out HB.out) | (with_reducible refine Kd.C_alloc ?_ _) | (with_reducible refine Kd.C_drewN ?_ _) | (with_reducible refine Kd.C_drew ?_))); (case side4 => exact HC2.out); rintro e w23 ⟨rfl, hb⟩; refine ⟨_, rfl, ?_⟩; have n0_ := Aside0.mk (Kd.R_below (by (with_reducible repeat (first | apply Kd.R_alloc | apply Kd.R_drewN | apply Kd.R_drew)); exact HO_7.out) hb); have n1_ := Aside0.mk (Kd.R_below (by (with_reducible repeat (first | apply Kd.R_alloc | apply Kd.R_drewN | apply Kd.R_drew)); exact HO979.out) hb); have n2_ := Aside0.mk (below_step (by repeat (first | (with_reducible first | exact HB.out | apply below_alloc | apply pw_below_drewN | apply below_drew1) | exact HB.out)) hb); clear HO_7; clear HO979; clear HB; have HO_7 := n0_; have HO979 := n1_; have HB := n2_; clear n0_ n1_ n2_; (try clear hb); (try clear hb2); (try clear hk); (try clear hi)) | ((with_reducible refine gate_builtin (b := .append) (xs := #[.tmp 38, .tmp 40]) rfl ?_); (try (refine gate_guard (by rfl) ?_; dsimp only)); at_builtin; refine Kd.R_append (Kd.int .i64) (w0 := w) w.heap.size rfl (.tmp 38) (.tmp 40) 22 3 (.int .i64 0) 8 rfl Try.underlying22 info3 rfl (by decide) (by omega) u7 x7_2 x27_2 [.int .i64 x27_2] (fun k_ => some k_ ≠ (.slice Ao22 y977.length co22 : Value).ownBlock) (fun _ => False) rfl rfl ?aP (fun _ hk => hk.elim) ?aF ?aO ?aB ?aS ?aL ?_; (case aP => exact rfl); (case aB => exact (by repeat (first | (with_reducible first | exact HB.out | apply below_alloc | apply pw_below_drewN | apply below_drew1) | exact HB.out))); (case aF => exact (fun k_ hk => Kd.fresh' (Kd.R_lt (by (with_reducible repeat (first | apply Kd.R_alloc | apply Kd.R_drewN | apply Kd.R_drew)); exact HO979.out)) k_ hk)); (case aO => exact (by (with_reducible repeat (first | apply Kd.R_alloc | apply Kd.R_drewN | apply Kd.R_drew)); exact Kd.R_mono HO_7.out (fun _ hk => hk.2))); (case aS => exact (below_size (by repeat (first | (with_reducible first | exact HB.out | apply below_alloc | apply pw_below_drewN | apply below_drew1) | exact HB.out)))); (case aL => have := LMc17.out; omega); intro v982 w24 ho hb hg hat; rw [← Ny981.out] at ho; have n0_ := Aside0.mk (Kd.R_after (ok := (fun _ => True)) (by (with_reducible repeat (first | apply Kd.R_alloc | apply Kd.R_drewN | apply Kd.R_drew)); exact Kd.R_mono HO979.out (fun _ hk => ⟨trivial, hk⟩)) hg hat); have n1_ := Aside0.mk (hb); have n2_ := Aside0.mk (ho); clear HO979; clear HB; clear HO_7; have HO979 := n0_; have HB := n1_; have HO983 := n2_; clear n0_ n1_ n2_; clear ho hb hg hat))
           go_roundg k2
           case measure => have := HJ3.out; have := HK2.out; omega
           case rel => exact ⟨(y981), (wrap64 (x27_2 + 1)), (by first | rfl | (simp; done) | (simp [*]; done)), H', ⟨by have := HJ3.out; have := HK2.out; omega⟩, ⟨by (with_reducible repeat (first | apply Kd.R_alloc | apply Kd.R_drewN | apply Kd.R_drew)); exact Kd.R_mono HO983.out (fun _ hk => trivial)⟩, ⟨by repeat (first | (with_reducible first | exact HB.out | apply below_alloc | apply pw_below_drewN | apply below_drew1) | exact HB.out)⟩⟩
          ·rw [if_neg c17] at H
           exact absurd H (by simp)
         ·replace c16 := Bool.eq_false_iff.mpr c16
          subst c16
          have H1 : (impl_ExtensionsOf.l0 k2 l0 l2 x7_2 a1 (wrap64 (x27_2 + 1))) = some r := by rw [if_neg (show ¬ (false = true) by decide)] at H; exact H
          clear H
          have H := H1
          clear H1
          have H' := Aside0.mk H
          clear H
          go_wp2_with (first | ((with_reducible refine gate_dst (N := 30) rfl ?_); (try (refine gate_guard (by rfl) ?_; dsimp only)); refine Kd.R_lit (Kd.int .i64) _ 3 ?hg (N := 30) ?hd (xs := ([] : List Int)) (inner := []) (ok := fun _ => True) (okp := fun _ => True) ?hr ?hp (fun _ hk => hk) trivial (Below.refl _ _) (Nat.le_refl _) (by simp) ?_; (case hd => rfl); (case hg => rfl); (case hr => first | (go_simp; done) | (go_simp; rfl)); (case hp => exact (Reps.none _ _)); intro v972 w25 ho26 hb hg_ hnew_; clear hg_ hnew_; (first | rw [← Ny971.out] at ho26 | (simp only [Int.reduceToNat] at ho26; rw [← Ny971.out] at ho26)); have n0_ := Aside0.mk (Kd.R_elder' (by (with_reducible repeat (first | apply Kd.R_alloc | apply Kd.R_drewN | apply Kd.R_drew)); exact HO_7.out) (Kd.R_base ho26) hb); have n1_ := Aside0.mk (Kd.R_lower (Kd.R_new' ho26 (Kd.R_lt (by (with_reducible repeat (first | apply Kd.R_alloc | apply Kd.R_drewN | apply Kd.R_drew)); exact HO_7.out))) (below_size (by repeat (first | (with_reducible first | exact HB.out | apply below_alloc | apply pw_below_drewN | apply below_drew1) | exact HB.out)))); have n2_ := Aside0.mk (below_step (by repeat (first | (with_reducible first | exact HB.out | apply below_alloc | apply pw_below_drewN | apply below_drew1) | exact HB.out)) hb); clear HO_7; clear HB; have HO_7 := n0_; have HO973 := n1_; have HB := n2_; clear n0_ n1_ n2_; clear hb ho26) | ((with_reducible refine gate_builtin (b := .append) (xs := #[.tmp 30, .tmp 31]) rfl ?_); (try (refine gate_guard (by rfl) ?_; dsimp only)); at_builtin; refine Kd.R_append_rows (Kd.int .i64) (w0 := w) w.heap.size rfl (.tmp 30) (.tmp 31) 22 3 (.int .i64 0) 8 rfl Try.underlying22 info3 rfl (by decide) (by omega) v972 y971 l0 _ _ _ (fun k_ => some k_ ≠ (u7 : Value).ownBlock) (fun _ => False) rfl rfl ?aO ?aR (fun _ _ h => h) (fun _ h => h.elim) ?aF ?aB ?aS ?aL ?_; (case aR => repeat (first | exact (Kd.C_below HR0.out HB.out) | (with_reducible refine Kd.C_alloc ?_ _) | (with_reducible refine Kd.C_drewN ?_ _) | (with_reducible refine Kd.C_drew ?_))); (case aB => exact (by repeat (first | (with_reducible first | exact HB.out | apply below_alloc | apply pw_below_drewN | apply below_drew1) | exact HB.out))); (case aF => exact (fun k_ hk => Kd.fresh' (Kd.R_lt (by (with_reducible repeat (first | apply Kd.R_alloc | apply Kd.R_drewN | apply Kd.R_drew)); exact HO_7.out)) k_ hk)); (case aO => exact (by (with_reducible repeat (first | apply Kd.R_alloc | apply Kd.R_drewN | apply Kd.R_drew)); exact Kd.R_mono HO973.out (fun _ hk => hk.2))); (case aS => exact (below_size (by repeat (first | (with_reducible first | exact HB.out | apply below_alloc | apply pw_below_drewN | apply below_drew1) | exact HB.out)))); (case aL => have := LMc13.out; omega); intro v975 w27 ho hb hg hat; rw [← Ny974.out] at ho; have n0_ := Aside0.mk (Kd.R_after (ok := (fun _ => True)) (by (with_reducible repeat (first | apply Kd.R_alloc | apply Kd.R_drewN | apply Kd.R_drew)); exact HO_7.out) hg hat); have n1_ := Aside0.mk (hb); have n2_ := Aside0.mk (ho); clear HO_7; clear HB; clear HO973; have HO_7 := n0_; have HB := n1_; have HO976 := n2_; clear n0_ n1_ n2_; clear ho hb hg hat) | ((with_reducible refine gate_builtin (b := .append) (xs := #[.tmp 32, .tmp 34]) rfl ?_); (try (refine gate_guard (by rfl) ?_; dsimp only)); at_builtin; refine Kd.R_append (Kd.int .i64) (w0 := w) w.heap.size rfl (.tmp 32) (.tmp 34) 22 3 (.int .i64 0) 8 rfl Try.underlying22 info3 rfl (by decide) (by omega) v975 y974 x27_2 [.int .i64 x27_2] (fun k_ => some k_ ≠ (u7 : Value).ownBlock) (fun _ => False) rfl rfl ?aP (fun _ hk => hk.elim) ?aF ?aO ?aB ?aS ?aL ?_; (case aP => exact rfl); (case aB => exact (by repeat (first | (with_reducible first | exact HB.out | apply below_alloc | apply pw_below_drewN | apply below_drew1) | exact HB.out))); (case aF => exact (fun k_ hk => Kd.fresh' (Kd.R_lt (by (with_reducible repeat (first | apply Kd.R_alloc | apply Kd.R_drewN | apply Kd.R_drew)); exact HO_7.out)) k_ hk)); (case aO => exact (by (with_reducible repeat (first | apply Kd.R_alloc | apply Kd.R_drewN | apply Kd.R_drew)); exact HO976.out)); (case aS => exact (below_size (by repeat (first | (with_reducible first | exact HB.out | apply below_alloc | apply pw_below_drewN | apply below_drew1) | exact HB.out)))); (case aL => have := LMc14.out; omega); intro v978 w28 ho hb hg hat; rw [← Ny977.out] at ho; have n0_ := Aside0.mk (Kd.R_after (ok := (fun _ => True)) (by (with_reducible repeat (first | apply Kd.R_alloc | apply Kd.R_drewN | apply Kd.R_drew)); exact HO_7.out) hg hat); have n1_ := Aside0.mk (hb); have n2_ := Aside0.mk (ho); clear HO_7; clear HB; clear HO976; have HO_7 := n0_; have HB := n1_; have HO979 := n2_; clear n0_ n1_ n2_; clear ho hb hg hat; obtain ⟨Ao29, co29, eo29⟩ := Kd.R_slice HO979.out; subst eo29) | ((with_reducible refine gate_callee (f := 55) rfl ?_); refine goesL_ (some 37) rfl rfl Try.func55 (by kernel_rfl) rfl #[.slice Ao29 y977.length co29, .slice A2 l2.length c2] rfl (by (try simp only [List.map_toArray, List.map_cons, List.map_nil]); first | done | rfl | (simp only [List.length_drop, List.length_take]; rfl)) ?_; (with_reducible refine (impl_AvoidsPattern.calls k2 _ _ y977 _ _ l2 false _ ?side1 ?side2 ?side3 ?side4 A15.out).mono ?_); (case side1 => repeat (first | exact (Kd.R_reads' HO979.out).2.2 | (with_reducible refine Kd.C_alloc ?_ _) | (with_reducible refine Kd.C_drewN ?_ _) | (with_reducible refine Kd.C_drew ?_))); (case side2 => exact (Kd.R_reads' HO979.out).2.1); (case side3 => repeat (first | exact (Kd.C_below HR2.out HB.out) | (with_reducible refine Kd.C_alloc ?_ _) | (with_reducible refine Kd.C_drewN ?_ _) | (with_reducible refine Kd.C_drew ?_))); (case side4 => exact HC2.out); rintro e w30 ⟨rfl, hb⟩; refine ⟨_, rfl, ?_⟩; have n0_ := Aside0.mk (Kd.R_below (by (with_reducible repeat (first | apply Kd.R_alloc | apply Kd.R_drewN | apply Kd.R_drew)); exact HO_7.out) hb); have n1_ := Aside0.mk (Kd.R_below (by (with_reducible repeat (first | apply Kd.R_alloc | apply Kd.R_drewN | apply Kd.R_drew)); exact HO979.out) hb); have n2_ := Aside0.mk (below_step (by repeat (first | (with_reducible first | exact HB.out | apply below_alloc | apply pw_below_drewN | apply below_drew1) | exact HB.out)) hb); clear HO_7; clear HO979; clear HB; have HO_7 := n0_; have HO979 := n1_; have HB := n2_; clear n0_ n1_ n2_; (try clear hb); (try clear hb2); (try clear hk); (try clear hi)))
          go_roundg k2
          case measure => have := HJ3.out; have := HK2.out; omega
          case rel => exact ⟨(x7_2), (wrap64 (x27_2 + 1)), (by first | rfl | (simp; done) | (simp [*]; done)), H', ⟨by have := HJ3.out; have := HK2.out; omega⟩, ⟨by (with_reducible repeat (first | apply Kd.R_alloc | apply Kd.R_drewN | apply Kd.R_drew)); exact Kd.R_mono HO_7.out (fun _ hk => trivial)⟩, ⟨by repeat (first | (with_reducible first | exact HB.out | apply below_alloc | apply pw_below_drewN | apply below_drew1) | exact HB.out)⟩⟩
        ·rw [if_neg c14] at H
         exact absurd H (by simp)
       ·rw [if_neg c13] at H
        exact absurd H (by simp)
      ·rw [if_neg c12] at H
       have c12b0 : decide (x27_2 < a1) = false := decide_eq_false c12
       clear c12
       obtain rfl := Option.some.inj H
       go_wp2
       go_ret
       exact ⟨_, by first | rfl | (simp [errW_none, errW_some] <;> rfl) | (simp [*, errW_none, errW_some] <;> rfl), by (with_reducible repeat (first | apply Kd.R_alloc | apply Kd.R_drewN | apply Kd.R_drew)); exact HO_7.out, by repeat (first | (with_reducible first | exact HB.out | apply below_alloc | apply pw_below_drewN | apply below_drew1) | exact HB.out)⟩

end Go.Proofs.Ythkkpdgadfhijaa.M
/- The letters with which a word goes on: program and reference tell the same, and the law. No condition. -/
namespace Go.Proofs.Ythkkpdgadfhijaa.M
open Go.RowKit Go.Proofs.YthkkpdgadfhijaaW.PrintWords Go.Proofs.Ythkkpdgadfhijaa.K
set_option linter.unusedVariables false
def avd (w p : List Int) : Bool := decide (isPat p = true ∧ w.length ≤ 24 ∧ fnd w p = none)
/-- The letters below n from a on that a word can go on with. -/
def exts (w p : List Int) (a n : Nat) : List Int := ((List.range' a (n - a)).map fun (x : Nat) => (x : Int)).filter fun x => avd (w ++ [x]) p
theorem exts_end (w p : List Int) (a n : Nat) (h : n ≤ a) : exts w p a n = [] := by unfold exts; rw [show n - a = 0 from by omega]; rfl
theorem exts_step (w p : List Int) (a n : Nat) (h : a < n) : exts w p a n = (if avd (w ++ [(a : Int)]) p = true then [(a : Int)] else []) ++ exts w p (a + 1) n := by
  unfold exts
  rw [show n - a = (n - (a + 1)) + 1 from by omega, List.range'_succ, List.map_cons, List.filter_cons]
  by_cases q : avd (w ++ [(a : Int)]) p = true
  · rw [_root_.if_pos q, _root_.if_pos q]; rfl
  · rw [_root_.if_neg q, _root_.if_neg q]; rfl
theorem exts_len (w p : List Int) (a n : Nat) : (exts w p a n).length ≤ n := by
  unfold exts
  refine Nat.le_trans (List.length_filter_le _ _) ?_
  simp
theorem exts_long (w p : List Int) (n : Nat) (h : 24 ≤ w.length) : ∀ a, a ≤ n → exts w p a n = [] := by
  refine down n ?_ ?_
  · exact exts_end _ _ _ _ (Nat.le_refl _)
  · intro a ha ih
    rw [exts_step _ _ _ _ ha, ih, _root_.if_neg]
    · rfl
    · unfold avd; rw [decide_eq_true_iff]; rintro ⟨_, h2, _⟩; simp at h2; omega
def eo (w p : List Int) (n : Int) : List Int := if (1 ≤ n ∧ n ≤ 3) ∧ isPat p = true ∧ iw w n.toNat = true then exts w p 0 n.toNat else []
theorem specFine_ev (n : Int) (p : List Int) (hp : p.length ≤ 1048576) : Ev (fun k => spec_l30Fine.f k n p) (decide ((1 ≤ n ∧ n ≤ 3) ∧ isPat p = true)) := by
  unfold spec_l30Fine.f
  refine Ev.bind (Ev.val (in_val _ _ _)) ?_
  by_cases q : 1 ≤ n ∧ n ≤ 3
  · rw [decide_eq_true q]
    refine Ev.if_pos rfl (Ev.bind (specIsPattern_ev p hp) (Ev.same (Ev.some _) ?_))
    cases isPat p <;> simp [q]
  · rw [decide_eq_false q, decide_eq_false (fun h => q h.1)]
    exact Ev.if_neg (by simp) (Ev.some _)
theorem implFine_ev (n : Int) (p : List Int) (hp : p.length ≤ 1048576) : Ev (fun k => impl_areAvoided.f k n p) (decide ((1 ≤ n ∧ n ≤ 3) ∧ isPat p = true)) := by
  unfold impl_areAvoided.f
  refine Ev.ite (fun q1 => ?_) (fun q1 => ?_)
  · refine Ev.ite (fun q2 => ?_) (fun q2 => ?_)
    · refine Ev.bind (implIsPattern_ev p hp) (Ev.same (Ev.some _) ?_)
      have q : 1 ≤ n ∧ n ≤ 3 := by omega
      cases isPat p <;> simp [q]
    · rw [decide_eq_false (fun h => by omega)]; exact Ev.some _
  · rw [decide_eq_false (fun h => by omega)]; exact Ev.some _
theorem specExt_ev (w p : List Int) (n : Int) (hw : w.length ≤ 1048576) (hp : p.length ≤ 1048576) : Ev (fun k => spec_ExtensionsOf.f k w n p) (eo w p n) := by
  have stop : ∀ (x7 : List Int) (a : Int), Ev (fun k => spec_ExtensionsOf.j1 k w n p x7 a false) x7 := fun x7 a => by
    refine Ev.step (fun k => by simp only [spec_ExtensionsOf.j1]; rw [_root_.if_neg (by simp)]) ?_
    exact Ev.some _
  unfold spec_ExtensionsOf.f
  by_cases q : (1 ≤ n ∧ n ≤ 3) ∧ isPat p = true ∧ iw w n.toNat = true
  · obtain ⟨m, rfl⟩ : ∃ m : Nat, n = (m : Int) := ⟨n.toNat, by omega⟩
    unfold eo
    rw [_root_.if_pos q]
    rw [Int.toNat_natCast] at q ⊢
    have key : ∀ a, a ≤ m → ∀ acc : List Int, acc.length ≤ 100 + a → Ev (fun k => spec_ExtensionsOf.l0 k w (m : Int) p acc (a : Int)) (acc ++ exts w p a m) := by
      refine down m ?_ ?_
      · intro acc ha
        refine Ev.step (fun k => by simp only [spec_ExtensionsOf.l0]; rw [_root_.if_neg (by omega)]) ?_
        rw [exts_end _ _ _ _ (Nat.le_refl _), List.append_nil]; exact stop _ _
      · intro a ha ih acc hacc
        refine Ev.step (fun k => by simp only [spec_ExtensionsOf.l0]; rw [_root_.if_pos (by omega)]) ?_
        refine Ev.bind (specFine_ev (m : Int) p hp) (Ev.if_pos (decide_eq_true ⟨q.1, q.2.1⟩) (Ev.bind (specIsWord_ev w m hw) ?_))
        rw [q.2.2]
        refine Ev.step (fun k => by simp only [spec_ExtensionsOf.j1]; rw [_root_.if_pos trivial, Option.bind_some, _root_.if_pos (by simp; omega), Option.bind_some, List.nil_append, _root_.if_pos (by omega)]) ?_
        refine Ev.bind (specAvoids_ev (w ++ [(a : Int)]) p (by have : w.length ≤ 400 := by { have h := q.2.2; unfold iw at h; simp only [Bool.and_eq_true, decide_eq_true_eq] at h; exact h.2.2 }; simp; omega) hp) ?_
        rw [exts_step _ _ _ _ ha]
        refine Ev.ite (fun q2 => ?_) (fun q2 => ?_)
        · have q3 : avd (w ++ [(a : Int)]) p = true := q2
          rw [_root_.if_pos q3, ← List.append_assoc]
          refine Ev.congr (fun k => by rw [_root_.if_pos (by omega), wsucc (i := a) (by omega)]) (ih (acc ++ [(a : Int)]) (by simp; omega))
        · have q3 : ¬ avd (w ++ [(a : Int)]) p = true := q2
          rw [_root_.if_neg q3, List.nil_append]
          refine Ev.congr (fun k => by rw [wsucc (i := a) (by omega)]) (ih acc (by omega))
    have := key 0 (by omega) [] (by simp)
    exact this
  · unfold eo
    rw [_root_.if_neg q]
    refine Ev.step (fun k => by simp only [spec_ExtensionsOf.l0]; rfl) ?_
    refine Ev.ite (fun q1 => ?_) (fun q1 => stop _ _)
    refine Ev.bind (specFine_ev n p hp) ?_
    by_cases q2 : (1 ≤ n ∧ n ≤ 3) ∧ isPat p = true
    · obtain ⟨m, rfl⟩ : ∃ m : Nat, n = (m : Int) := ⟨n.toNat, by omega⟩
      refine Ev.if_pos (decide_eq_true q2) (Ev.bind (specIsWord_ev w m hw) ?_)
      have hf : iw w m = false := Bool.eq_false_iff.2 (fun h => q ⟨q2.1, q2.2, by rw [Int.toNat_natCast]; exact h⟩)
      rw [hf]
      exact stop _ _
    · exact Ev.if_neg (by rw [decide_eq_false q2]; simp) (stop _ _)
theorem implExt_ev (w p : List Int) (n : Int) (hw : w.length ≤ 1048576) (hp : p.length ≤ 1048576) : Ev (fun k => impl_ExtensionsOf.f k w n p) (eo w p n) := by
  have stop : ∀ b, b = true → Ev (fun k => impl_ExtensionsOf.j0 k w n p [] b) [] := fun b hb => by
    refine Ev.step (fun k => by simp only [impl_ExtensionsOf.j0]; rw [_root_.if_pos hb]) ?_
    exact Ev.some _
  unfold impl_ExtensionsOf.f
  refine Ev.bind (Ev.some _) (Ev.bind (implFine_ev n p hp) ?_)
  by_cases q2 : (1 ≤ n ∧ n ≤ 3) ∧ isPat p = true
  · obtain ⟨m, rfl⟩ : ∃ m : Nat, n = (m : Int) := ⟨n.toNat, by omega⟩
    refine Ev.if_pos (decide_eq_true q2) (Ev.bind (implIsWord_ev w m hw) ?_)
    unfold eo
    rw [Int.toNat_natCast]
    by_cases q3 : iw w m = true
    · rw [_root_.if_pos ⟨q2.1, q2.2, q3⟩]
      refine Ev.if_pos q3 ?_
      by_cases q4 : 24 ≤ w.length
      · rw [exts_long w p m q4 0 (by omega)]
        exact stop _ (decide_eq_true (by omega))
      · rw [decide_eq_false (by omega)]
        refine Ev.step (fun k => by simp only [impl_ExtensionsOf.j0]; rw [_root_.if_neg (by simp)]) ?_
        have key : ∀ a, a ≤ m → ∀ acc : List Int, acc.length ≤ 100 + a → Ev (fun k => impl_ExtensionsOf.l0 k w p acc (m : Int) (a : Int)) (acc ++ exts w p a m) := by
          refine down m ?_ ?_
          · intro acc ha
            refine Ev.step (fun k => by simp only [impl_ExtensionsOf.l0]; rw [_root_.if_neg (by omega)]) ?_
            rw [exts_end _ _ _ _ (Nat.le_refl _), List.append_nil]; exact Ev.some _
          · intro a ha ih acc hacc
            refine Ev.step (fun k => by simp only [impl_ExtensionsOf.l0]; rw [_root_.if_pos (by omega), Option.bind_some, _root_.if_pos (by simp; omega), Option.bind_some, List.nil_append, _root_.if_pos (by omega)]) ?_
            refine Ev.bind (implAvoids_ev (w ++ [(a : Int)]) p (by simp; omega) hp) ?_
            rw [exts_step _ _ _ _ ha]
            refine Ev.ite (fun q2 => ?_) (fun q2 => ?_)
            · have q3 : avd (w ++ [(a : Int)]) p = true := q2
              rw [_root_.if_pos q3, ← List.append_assoc]
              refine Ev.congr (fun k => by rw [_root_.if_pos (by omega), wsucc (i := a) (by omega)]) (ih (acc ++ [(a : Int)]) (by simp; omega))
            · have q3 : ¬ avd (w ++ [(a : Int)]) p = true := q2
              rw [_root_.if_neg q3, List.nil_append]
              refine Ev.congr (fun k => by rw [wsucc (i := a) (by omega)]) (ih acc (by omega))
        exact key 0 (by omega) [] (by simp)
    · rw [_root_.if_neg (fun h => q3 h.2.2)]
      exact Ev.if_neg q3 (stop _ rfl)
  · unfold eo
    rw [_root_.if_neg (fun h => q2 ⟨h.1, h.2.1⟩)]
    exact Ev.if_neg (by rw [decide_eq_false q2]; simp) (stop _ rfl)
end Go.Proofs.Ythkkpdgadfhijaa.M
/- Does a match end where a word ends; and the letters a word that has no match goes on with. No condition but lengths that fit. -/
namespace Go.Proofs.Ythkkpdgadfhijaa.M
open Go.RowKit Go.Proofs.YthkkpdgadfhijaaW.PrintWords Go.Proofs.Ythkkpdgadfhijaa.K
set_option linter.unusedVariables false
def FE (w p L : List Int) : Option (List Int) := if okL p L = true ∧ tot L p ≤ w.length ∧ mAt w p (w.length - tot L p) L = true then some L else none
def ends (w p : List Int) : Bool := (srch w.length (FE w p) (nl p - 1) [] 1).isSome
section ends
variable (w p : List Int) (hw : w.length ≤ 1000)
include hw
theorem specE_carry1 (m a b c : Nat) (R : Bool) (h : Ev (fun k => spec_l30Ends.l0 k w p (m : Int) (abc (a + 1) b c)) R) : Ev (fun k => spec_l30Ends.l1 k w p (m : Int) (abc (a + 1) b c) 0) R :=
  have _ := hw
  Ev.step (fun k => by simp only [spec_l30Ends.l1]; rw [_root_.if_neg (by omega)]) h
theorem specE_carry2 (m a b c : Nat) (hb : b ≤ w.length) (ha : a ≤ w.length) (R : Bool) (h : Ev (fun k => spec_l30Ends.l0 k w p (m : Int) (if b < w.length then abc a (b + 1) c else abc (a + 1) 1 c)) R) : Ev (fun k => spec_l30Ends.l1 k w p (m : Int) (abc a (b + 1) c) 1) R := by
  by_cases q : b < w.length
  · rw [_root_.if_pos q] at h
    refine Ev.step (fun k => by simp only [spec_l30Ends.l1]; rw [_root_.if_pos (by omega), _root_.if_pos (by omega), _root_.if_pos (by rw [abc_len]; omega), rdA1, _root_.if_neg (by omega)]) h
  · rw [_root_.if_neg q] at h
    refine Ev.step (fun k => by simp only [spec_l30Ends.l1]; rw [_root_.if_pos (by omega), _root_.if_pos (by omega), _root_.if_pos (by rw [abc_len]; omega), rdA1, _root_.if_pos (by omega), oneA1, dec1, Option.bind_some, _root_.if_pos (by omega), _root_.if_pos (by rw [abc_len]; omega), show (0 : Int).toNat = 0 from rfl, rdA0, wsucc (i := a) (by omega), setA0]) (specE_carry1 w p hw m a 1 c R h)
theorem specE_carry3 (m a b c : Nat) (hc : c ≤ w.length) (hb : b ≤ w.length) (ha : a ≤ w.length) (R : Bool) (h : Ev (fun k => spec_l30Ends.l0 k w p (m : Int) (if c < w.length then abc a b (c + 1) else if b < w.length then abc a (b + 1) 1 else abc (a + 1) 1 1)) R) : Ev (fun k => spec_l30Ends.l1 k w p (m : Int) (abc a b (c + 1)) 2) R := by
  by_cases q : c < w.length
  · rw [_root_.if_pos q] at h
    refine Ev.step (fun k => by simp only [spec_l30Ends.l1]; rw [_root_.if_pos (by omega), _root_.if_pos (by omega), _root_.if_pos (by rw [abc_len]; omega), rdA2, _root_.if_neg (by omega)]) h
  · rw [_root_.if_neg q] at h
    refine Ev.step (fun k => by simp only [spec_l30Ends.l1]; rw [_root_.if_pos (by omega), _root_.if_pos (by omega), _root_.if_pos (by rw [abc_len]; omega), rdA2, _root_.if_pos (by omega), oneA2, dec2, Option.bind_some, _root_.if_pos (by omega), _root_.if_pos (by rw [abc_len]; omega), show (1 : Int).toNat = 1 from rfl, rdA1, wsucc (i := b) (by omega), setA1]) (specE_carry2 w p hw m a b 1 hb ha R h)
theorem specE_round (m : Nat) (L3 : List Int) (hp : p.length ≤ 1048576) (hl : L3.length = 3) (hm : m ≤ 3) (hm1 : 1 ≤ m) (h0 : rd L3 0 ≤ (w.length : Int)) (hx : ∀ y ∈ L3, 0 ≤ y ∧ y ≤ 1000) (R : Bool) (hR : ∀ L, FE w p (L3.take m) = some L → R = true)
    (h : FE w p (L3.take m) = none → Ev (fun k => spec_l30Ends.l1 k w p (m : Int) (L3.set (m - 1) (rd L3 ((m - 1 : Nat) : Int) + 1)) ((m - 1 : Nat) : Int)) R) : Ev (fun k => spec_l30Ends.l0 k w p (m : Int) L3) R := by
  refine Ev.step (fun k => by simp only [spec_l30Ends.l0]; rw [_root_.if_pos (by omega), _root_.if_pos h0, _root_.if_pos (by omega), _root_.if_pos (by omega), Int.toNat_natCast]) ?_
  refine Ev.bind (specMatchLength_ev p (L3.take m) hp (by rw [List.length_take]; omega)) ?_
  have go : FE w p (L3.take m) = none → Ev (fun k => spec_l30Ends.j1 k w p (m : Int) L3 false) R := fun hn => by
    have e : wrap64 ((m : Int) - 1) = ((m - 1 : Nat) : Int) := by rw [w_id (by omega) (by omega)]; omega
    have hy : rd L3 ((m - 1 : Nat) : Int) + 1 ≤ 1001 ∧ 0 ≤ rd L3 ((m - 1 : Nat) : Int) := by
      rw [rd_get L3 (m - 1) (by omega)]
      have := hx _ (List.getElem_mem (show m - 1 < L3.length by omega))
      omega
    refine Ev.step (fun k => by simp only [spec_l30Ends.j1]; rw [_root_.if_neg (by simp), e, _root_.if_pos (by omega), _root_.if_pos (by omega), Int.toNat_natCast, w_id (by omega) (by omega)]) (h hn)
  unfold FE at hR go
  by_cases q1 : okL p (L3.take m) = true
  · rw [_root_.if_pos q1]
    refine Ev.if_pos (by omega) ?_
    by_cases q2 : tot (L3.take m) p ≤ w.length
    · refine Ev.if_pos (by omega) ?_
      have e : wrap64 ((w.length : Int) - (tot (L3.take m) p : Int)) = ((w.length - tot (L3.take m) p : Nat) : Int) := by rw [w_id (by omega) (by omega)]; omega
      refine Ev.congr (fun k => by rw [e]) (Ev.bind (specMatchAt_ev w p (w.length - tot (L3.take m) p) (L3.take m) (by omega) hp (by rw [List.length_take]; omega)) ?_)
      by_cases q3 : mAt w p (w.length - tot (L3.take m) p) (L3.take m) = true
      · rw [_root_.if_pos ⟨q1, q2, q3⟩] at hR
        rw [q3, hR _ rfl]
        refine Ev.step (fun k => by simp only [spec_l30Ends.j1]; rw [_root_.if_pos trivial]) ?_
        exact Ev.some _
      · rw [Bool.eq_false_iff.2 q3]
        exact go (_root_.if_neg (fun x => q3 x.2.2))
    · exact Ev.if_neg (by omega) (go (_root_.if_neg (fun x => q2 x.2.1)))
  · rw [_root_.if_neg q1]
    exact Ev.if_neg (by omega) (go (_root_.if_neg (fun x => q1 x.1)))
theorem specE_loop (hp : p.length ≤ 1048576) (hP : isPat p = true) (hw1 : 1 ≤ w.length) : Ev (fun k => spec_l30Ends.l0 k w p (nl p : Int) [1, 1, 1]) (ends w p) := by
  obtain ⟨h0, h6, h3, h1⟩ := isPat_nl hP
  have hend : ∀ (m : Nat) b c, Ev (fun k => spec_l30Ends.l0 k w p (m : Int) (abc (w.length + 1) b c)) false := fun m b c => by
    refine Ev.step (fun k => by simp only [spec_l30Ends.l0]; rw [_root_.if_pos (by rw [abc_len]; omega), rdA0, _root_.if_neg (by omega)]) ?_
    exact Ev.some _
  have hx : ∀ a b c : Nat, a ≤ w.length → b ≤ w.length → c ≤ w.length → ∀ y ∈ abc a b c, 0 ≤ y ∧ y ≤ 1000 := by
    intro a b c ha hb hc y hy
    simp only [abc, List.mem_cons, List.not_mem_nil, or_false] at hy
    rcases hy with rfl | rfl | rfl <;> omega
  have out : ∀ (F v : Option (List Int)) L, F = some L → (F.or v).isSome = true := by rintro _ v L rfl; rfl
  have nxt : ∀ (F v : Option (List Int)), F = none → (F.or v).isSome = v.isSome := by rintro _ v rfl; rfl
  unfold ends
  rcases (show nl p = 1 ∨ nl p = 2 ∨ nl p = 3 by omega) with e | e | e
  · rw [e]
    refine odo1 w.length (FE w p) (fun a v => Ev (fun k => spec_l30Ends.l0 k w p ((1 : Nat) : Int) (abc a 1 1)) v.isSome) (hend 1 1 1) ?_
    intro a ha v hv
    refine specE_round w p hw 1 (abc a 1 1) hp rfl (by omega) (by omega) (by rw [rdA0]; omega) (hx a 1 1 ha (by omega) (by omega)) _ (fun L hL => out _ _ _ hL) (fun hn => ?_)
    have hn' : FE w p [(a : Int)] = none := hn
    rw [nxt _ _ hn']
    exact specE_carry1 w p hw 1 a 1 1 _ hv
  · rw [e]
    refine odo2 w.length (FE w p) (fun a b v => Ev (fun k => spec_l30Ends.l0 k w p ((2 : Nat) : Int) (abc a b 1)) v.isSome) (fun b => hend 2 b 1) ?_ ?_
    · intro a b ha hb v hv
      refine specE_round w p hw 2 (abc a b 1) hp rfl (by omega) (by omega) (by rw [rdA0]; omega) (hx a b 1 ha (by omega) (by omega)) _ (fun L hL => out _ _ _ hL) (fun hn => ?_)
      have hn' : FE w p [(a : Int), (b : Int)] = none := hn
      rw [nxt _ _ hn']
      exact specE_carry2 w p hw 2 a b 1 (by omega) ha _ (by rw [_root_.if_pos hb]; exact hv)
    · intro a ha v hv
      refine specE_round w p hw 2 (abc a w.length 1) hp rfl (by omega) (by omega) (by rw [rdA0]; omega) (hx a w.length 1 ha (by omega) (by omega)) _ (fun L hL => out _ _ _ hL) (fun hn => ?_)
      have hn' : FE w p [(a : Int), (w.length : Int)] = none := hn
      rw [nxt _ _ hn']
      exact specE_carry2 w p hw 2 a w.length 1 (by omega) ha _ (by rw [_root_.if_neg (by omega)]; exact hv)
  · rw [e]
    refine odo3 w.length (FE w p) (fun a b c v => Ev (fun k => spec_l30Ends.l0 k w p ((3 : Nat) : Int) (abc a b c)) v.isSome) (hend 3) ?_ ?_ ?_
    · intro a b c ha hb hc v hv
      refine specE_round w p hw 3 (abc a b c) hp rfl (by omega) (by omega) (by rw [rdA0]; omega) (hx a b c ha (by omega) (by omega)) _ (fun L hL => out _ _ _ hL) (fun hn => ?_)
      have hn' : FE w p [(a : Int), (b : Int), (c : Int)] = none := hn
      rw [nxt _ _ hn']
      exact specE_carry3 w p hw 3 a b c (by omega) hb ha _ (by rw [_root_.if_pos hc]; exact hv)
    · intro a b ha hb v hv
      refine specE_round w p hw 3 (abc a b w.length) hp rfl (by omega) (by omega) (by rw [rdA0]; omega) (hx a b w.length ha (by omega) (by omega)) _ (fun L hL => out _ _ _ hL) (fun hn => ?_)
      have hn' : FE w p [(a : Int), (b : Int), (w.length : Int)] = none := hn
      rw [nxt _ _ hn']
      exact specE_carry3 w p hw 3 a b w.length (by omega) (by omega) ha _ (by rw [_root_.if_neg (by omega), _root_.if_pos hb]; exact hv)
    · intro a ha v hv
      refine specE_round w p hw 3 (abc a w.length w.length) hp rfl (by omega) (by omega) (by rw [rdA0]; omega) (hx a w.length w.length ha (by omega) (by omega)) _ (fun L hL => out _ _ _ hL) (fun hn => ?_)
      have hn' : FE w p [(a : Int), (w.length : Int), (w.length : Int)] = none := hn
      rw [nxt _ _ hn']
      exact specE_carry3 w p hw 3 a w.length w.length (by omega) (by omega) ha _ (by rw [_root_.if_neg (by omega), _root_.if_neg (by omega)]; exact hv)
theorem specEnds_ev (hp : p.length ≤ 1048576) (hP : isPat p = true) (hw1 : 1 ≤ w.length) : Ev (fun k => spec_l30Ends.f k w p) (ends w p) := by
  unfold spec_l30Ends.f
  exact Ev.bind (specLetters_ev p hP) (specE_loop w p hw hp hP hw1)
end ends

/-- No match anywhere. -/
def noM (w p : List Int) : Prop := ∀ i L, mAt w p i L = false
theorem mgo_more (w : List Int) (z : Int) (L : List Int) (p : List Int) : ∀ i us, i + tot L p ≤ w.length → mgo (w ++ [z]) L p i us = mgo w L p i us := by
  induction p with
  | nil => intro i us _; rfl
  | cons x p ih =>
    intro i us h
    simp only [tot] at h
    simp only [mgo]
    rw [_root_.if_neg (show ¬ (w ++ [z]).length < i + (L.getD x.toNat 0).toNat by rw [List.length_append, List.length_cons, List.length_nil]; omega), _root_.if_neg (show ¬ w.length < i + (L.getD x.toNat 0).toNat by omega), List.take_append_of_le_length (by omega)]
    cases us.getD x.toNat none with
    | none => simp only; rw [ih _ _ (by omega)]
    | some u => simp only; rw [ih _ _ (by omega)]
theorem mAt_more (w p : List Int) (z : Int) (i : Nat) (L : List Int) (h : i + tot L p ≤ w.length) : mAt (w ++ [z]) p i L = mAt w p i L := by
  unfold mAt
  rw [mgo_more w z L p i _ h, decide_eq_true (show i ≤ (w ++ [z]).length by simp; omega), decide_eq_true (show i ≤ w.length by omega)]
theorem ends_iff (w p : List Int) (hP : isPat p = true) : ends w p = true ↔ ∃ L, okL p L = true ∧ tot L p ≤ w.length ∧ mAt w p (w.length - tot L p) L = true := by
  unfold ends
  rw [srch_some]
  constructor
  · rintro ⟨j, s, h1, h2, h3, h4, h5⟩
    unfold FE at h5
    split at h5
    · rename_i q; exact ⟨_, q⟩
    · cases h5
  · rintro ⟨L, h1, h2, h3⟩
    obtain ⟨h4, h5, h6, h7⟩ := okL_at h1
    have hn := (isPat_nl hP).2.2.2
    have hs := mAt_small h3
    cases L with
    | nil => simp only [List.length_nil] at h5; omega
    | cons y s =>
      have hy := h6 y (List.mem_cons_self ..)
      have hy2 := hs y (List.mem_cons_self ..)
      refine ⟨y.toNat, s, by omega, by omega, by simp only [List.length_cons] at h5; omega, fun z hz => ⟨(h6 z (List.mem_cons_of_mem _ hz)).1, by have := hs z (List.mem_cons_of_mem _ hz); omega⟩, ?_⟩
      have e : ([] : List Int) ++ ((y.toNat : Nat) : Int) :: s = y :: s := by rw [List.nil_append, show ((y.toNat : Nat) : Int) = y from by omega]
      rw [e]
      unfold FE
      rw [_root_.if_pos ⟨h1, h2, h3⟩]; rfl
theorem noM_more (w p : List Int) (z : Int) (hP : isPat p = true) : noM (w ++ [z]) p ↔ noM w p ∧ ends (w ++ [z]) p = false := by
  constructor
  · intro h
    refine ⟨fun i L => ?_, ?_⟩
    · cases q : mAt w p i L with
      | false => rfl
      | true =>
        have := (mAt_len q).2
        rw [← mAt_more w p z i L this, h i L] at q; cases q
    · rw [Bool.eq_false_iff]
      intro q
      obtain ⟨L, _, _, h3⟩ := (ends_iff _ _ hP).1 q
      rw [h _ L] at h3; cases h3
  · rintro ⟨h1, h2⟩ i L
    cases q : mAt (w ++ [z]) p i L with
    | false => rfl
    | true =>
      obtain ⟨q1, q2⟩ := mAt_len q
      by_cases e : i + tot L p ≤ w.length
      · rw [mAt_more w p z i L e, h1 i L] at q; cases q
      · have : ends (w ++ [z]) p = true := (ends_iff _ _ hP).2 ⟨L, q1, by omega, by
          have e2 : (w ++ [z]).length - tot L p = i := by simp only [List.length_append, List.length_cons, List.length_nil] at q2 ⊢; omega
          rw [e2]; exact q⟩
        rw [h2] at this; cases this
theorem fnd_none (w p : List Int) (hP : isPat p = true) (hw : w.length ≤ 24) : fnd w p = none ↔ noM w p := by
  have hn := (isPat_nl hP).2.2.2
  unfold fnd
  rw [_root_.if_pos ⟨hP, hw⟩]
  unfold fFrom
  rw [List.findSome?_eq_none_iff]
  constructor
  · intro h i L
    cases q : mAt w p i L with
    | false => rfl
    | true =>
      obtain ⟨q1, q2⟩ := mAt_len q
      obtain ⟨h4, h5, h6, h7⟩ := okL_at q1
      have h8 := (tot_le L h6 p (fun y hy => ⟨(h7 y hy).1, (h7 y hy).2.1⟩)).1
      have h9 : 1 ≤ p.length := (ngo_pos p _ (isPat_nl hP).1).1 hn
      have h10 := h i (by rw [List.mem_range'_1]; omega)
      have hs := mAt_small q
      have : (srch (w.length - i) (FA w p i) (nl p - 1) [] 1).isSome = true := by
        rw [srch_some]
        cases L with
        | nil => simp only [List.length_nil] at h5; omega
        | cons y s =>
          have hy := h6 y (List.mem_cons_self ..)
          have hy2 := hs y (List.mem_cons_self ..)
          refine ⟨y.toNat, s, by omega, by omega, by simp only [List.length_cons] at h5; omega, fun z hz => ⟨(h6 z (List.mem_cons_of_mem _ hz)).1, hs z (List.mem_cons_of_mem _ hz)⟩, ?_⟩
          have e : ([] : List Int) ++ ((y.toNat : Nat) : Int) :: s = y :: s := by rw [List.nil_append, show ((y.toNat : Nat) : Int) = y from by omega]
          rw [e]
          unfold FA
          rw [_root_.if_pos q]; rfl
      cases hq : srch (w.length - i) (FA w p i) (nl p - 1) [] 1 with
      | none => rw [hq] at this; cases this
      | some x => rw [hq] at h10; cases h10
  · intro h i _
    cases q : srch (w.length - i) (FA w p i) (nl p - 1) [] 1 with
    | none => rfl
    | some x =>
      have := (srch_some (w.length - i) (FA w p i) (nl p - 1) [] 1).1 (by rw [q]; rfl)
      obtain ⟨j, s, _, _, _, _, h5⟩ := this
      unfold FA at h5
      rw [h i _] at h5
      simp at h5
theorem noM_nil (p : List Int) (hP : isPat p = true) : noM [] p := by
  intro i L
  cases q : mAt [] p i L with
  | false => rfl
  | true =>
    obtain ⟨q1, q2⟩ := mAt_len q
    obtain ⟨h4, h5, h6, h7⟩ := okL_at q1
    have h8 := (tot_le L h6 p (fun y hy => ⟨(h7 y hy).1, (h7 y hy).2.1⟩)).1
    have h9 : 1 ≤ p.length := (ngo_pos p _ (isPat_nl hP).1).1 (isPat_nl hP).2.2.2
    simp only [List.length_nil] at q2
    omega
theorem avd_more (w p : List Int) (z : Int) (hP : isPat p = true) (hw : w.length ≤ 23) (h : noM w p) : avd (w ++ [z]) p = !ends (w ++ [z]) p := by
  unfold avd
  have hl : (w ++ [z]).length ≤ 24 := by simp; omega
  cases q : ends (w ++ [z]) p with
  | false => rw [decide_eq_true ⟨hP, hl, (fnd_none _ _ hP hl).2 ((noM_more w p z hP).2 ⟨h, q⟩)⟩]; rfl
  | true =>
    rw [decide_eq_false]
    · rfl
    · rintro ⟨_, _, h3⟩
      have := ((noM_more w p z hP).1 ((fnd_none _ _ hP hl).1 h3)).2
      rw [q] at this; cases this
theorem noM_avd (w p : List Int) (h : avd w p = true) : noM w p := by
  unfold avd at h
  obtain ⟨h1, h2, h3⟩ := of_decide_eq_true h
  exact (fnd_none _ _ h1 h2).1 h3
end Go.Proofs.Ythkkpdgadfhijaa.M
/- Walks for this claim, written by a program of mine over the kit's print. No condition of mine. -/
namespace Go.Proofs.Ythkkpdgadfhijaa.M
open Go.RowKit Go.Proofs.Ythkkpdgadfhijaa.KW Go.Proofs.YthkkpdgadfhijaaW.PrintWords Go.Proofs.YthkkpdgadfhijaaW.PrintLast Go.Proofs.YthkkpdgadfhijaaW.PrintMore
attribute [local go_sem] max2_int min2_int max_two min_two max_three min_three max_four min_four   -- for this text's walks alone
set_option linter.unusedVariables false
set_option linter.unusedSimpArgs false

/-! ### spec_l30Search: function 112 -/
mutual
def spec_l30Search.l0 : Nat → Int → List Int → Int → List Int → List Int → Int → Option (List Int)
 | 0, _, _, _, _, _, _ => none
 | k + 1, x0, x1, x2, x7, x8, x9 => if x9 < 400 then (if (x8.length : Int) > (x7.length : Int) then ((some (([] : List Int) : List Int)).bind fun y1036 => (if y1036.length + x8.length < 17592186044416 then (spec_l30Search.j1 k x0 x1 x2 (y1036 ++ x8) x8 x9) else (none))) else (spec_l30Search.j1 k x0 x1 x2 x7 x8 x9)) else (some x7)
def spec_l30Search.j1 : Nat → Int → List Int → Int → List Int → List Int → Int → Option (List Int)
 | 0, _, _, _, _, _, _ => none
 | k + 1, x0, x1, x2, x7, x8, x9 => if (x8.length : Int) = x2 then (some x7) else ((spec_l30Next.f k x8 x0 x1).bind fun t1042 => (if (t1042.length : Int) > 0 then (if 0 < (t1042.length : Int) then (if x8.length < 17592186044416 then (spec_l30Search.l0 k x0 x1 x2 x7 (x8 ++ [rd t1042 0]) (wrap64 (x9 + 1))) else (none)) else (none)) else (spec_l30Search.l1 k x0 x1 x2 x7 x8 x9 false)))
def spec_l30Search.l1 : Nat → Int → List Int → Int → List Int → List Int → Int → Bool → Option (List Int)
 | 0, _, _, _, _, _, _, _ => none
 | k + 1, x0, x1, x2, x7, x8, x9, x11 => if (x8.length : Int) > 0 then (spec_l30Search.j3 k x0 x1 x2 x7 x8 x9 x11 (!x11)) else (spec_l30Search.j3 k x0 x1 x2 x7 x8 x9 x11 false)
def spec_l30Search.j3 : Nat → Int → List Int → Int → List Int → List Int → Int → Bool → Bool → Option (List Int)
 | 0, _, _, _, _, _, _, _, _ => none
 | k + 1, x0, x1, x2, x7, x8, x9, x11, x52 => if x52 = true then (if 0 ≤ (wrap64 ((x8.length : Int) - 1)) then (if (wrap64 ((x8.length : Int) - 1)) < (x8.length : Int) then (if (wrap64 ((x8.length : Int) - 1)) ≤ (x8.length : Int) then ((some (x8.take ((wrap64 ((x8.length : Int) - 1)) : Int).toNat : List Int)).bind fun y1050 => ((spec_l30Next.f k y1050 x0 x1).bind fun t1053 => (spec_l30Search.l2 k x0 x1 x2 x7 y1050 x9 t1053 x11 (rd x8 (wrap64 ((x8.length : Int) - 1))) 0))) else (none)) else (none)) else (none)) else (if x11 = true then (spec_l30Search.l0 k x0 x1 x2 x7 x8 (wrap64 (x9 + 1))) else (some x7))
def spec_l30Search.l2 : Nat → Int → List Int → Int → List Int → List Int → Int → List Int → Bool → Int → Int → Option (List Int)
 | 0, _, _, _, _, _, _, _, _, _, _ => none
 | k + 1, x0, x1, x2, x7, x8, x9, x10, x11, x12, x13 => if x13 < (x10.length : Int) then (spec_l30Search.j5 k x0 x1 x2 x7 x8 x9 x10 x11 x12 x13 (!x11)) else (spec_l30Search.j5 k x0 x1 x2 x7 x8 x9 x10 x11 x12 x13 false)
def spec_l30Search.j5 : Nat → Int → List Int → Int → List Int → List Int → Int → List Int → Bool → Int → Int → Bool → Option (List Int)
 | 0, _, _, _, _, _, _, _, _, _, _, _ => none
 | k + 1, x0, x1, x2, x7, x8, x9, x10, x11, x12, x13, x75 => if x75 = true then (if 0 ≤ x13 then (if x13 < (x10.length : Int) then (if (rd x10 x13) > x12 then (if x8.length < 17592186044416 then (spec_l30Search.l2 k x0 x1 x2 x7 (x8 ++ [rd x10 x13]) x9 x10 true x12 (wrap64 (x13 + 1))) else (none)) else (spec_l30Search.l2 k x0 x1 x2 x7 x8 x9 x10 x11 x12 (wrap64 (x13 + 1)))) else (none)) else (none)) else (spec_l30Search.l1 k x0 x1 x2 x7 x8 x9 x11)
end
def spec_l30Search.f (k : Nat) (a0 : Int) (l1 : List Int) (a2 : Int) : Option (List Int) := spec_l30Search.l0 k a0 l1 a2 (([] : List Int)) (([] : List Int)) 0
theorem spec_l30Search.mono_l : ∀ k, (∀ y0 y1 y2 y3 y4 y5, LeO (spec_l30Search.l0 k y0 y1 y2 y3 y4 y5) (spec_l30Search.l0 (k + 1) y0 y1 y2 y3 y4 y5)) ∧ (∀ y0 y1 y2 y3 y4 y5, LeO (spec_l30Search.j1 k y0 y1 y2 y3 y4 y5) (spec_l30Search.j1 (k + 1) y0 y1 y2 y3 y4 y5)) ∧ (∀ y0 y1 y2 y3 y4 y5 y6, LeO (spec_l30Search.l1 k y0 y1 y2 y3 y4 y5 y6) (spec_l30Search.l1 (k + 1) y0 y1 y2 y3 y4 y5 y6)) ∧ (∀ y0 y1 y2 y3 y4 y5 y6 y7, LeO (spec_l30Search.j3 k y0 y1 y2 y3 y4 y5 y6 y7) (spec_l30Search.j3 (k + 1) y0 y1 y2 y3 y4 y5 y6 y7)) ∧ (∀ y0 y1 y2 y3 y4 y5 y6 y7 y8 y9, LeO (spec_l30Search.l2 k y0 y1 y2 y3 y4 y5 y6 y7 y8 y9) (spec_l30Search.l2 (k + 1) y0 y1 y2 y3 y4 y5 y6 y7 y8 y9)) ∧ (∀ y0 y1 y2 y3 y4 y5 y6 y7 y8 y9 y10, LeO (spec_l30Search.j5 k y0 y1 y2 y3 y4 y5 y6 y7 y8 y9 y10) (spec_l30Search.j5 (k + 1) y0 y1 y2 y3 y4 y5 y6 y7 y8 y9 y10))
 | 0 => ⟨fun _ _ _ _ _ _ r h => by simp [spec_l30Search.l0] at h, fun _ _ _ _ _ _ r h => by simp [spec_l30Search.j1] at h, fun _ _ _ _ _ _ _ r h => by simp [spec_l30Search.l1] at h, fun _ _ _ _ _ _ _ _ r h => by simp [spec_l30Search.j3] at h, fun _ _ _ _ _ _ _ _ _ _ r h => by simp [spec_l30Search.l2] at h, fun _ _ _ _ _ _ _ _ _ _ _ r h => by simp [spec_l30Search.j5] at h⟩
 | k + 1 => by
  obtain ⟨ih0, ih1, ih2, ih3, ih4, ih5⟩ := spec_l30Search.mono_l k
  refine ⟨?_, ?_, ?_, ?_, ?_, ?_⟩
  ·intro y0 y1 y2 y3 y4 y5
   unfold spec_l30Search.l0
   repeat' first
   | (with_reducible exact ih0 _ _ _ _ _ _)
   | (with_reducible exact ih1 _ _ _ _ _ _)
   | (with_reducible exact ih2 _ _ _ _ _ _ _)
   | (with_reducible exact ih3 _ _ _ _ _ _ _ _)
   | (with_reducible exact ih4 _ _ _ _ _ _ _ _ _ _)
   | (with_reducible exact ih5 _ _ _ _ _ _ _ _ _ _ _)
   | (with_reducible exact spec_l30Next.mono _ _ _ _)
   | (with_reducible exact LeO.refl _)
   | (with_reducible exact LeO.none _)
   | (with_reducible refine LeO.ite ?_ ?_)
   | (with_reducible refine LeO.bind ?_ (fun _ => ?_))
   | exact ih0 _ _ _ _ _ _
   | exact ih1 _ _ _ _ _ _
   | exact ih2 _ _ _ _ _ _ _
   | exact ih3 _ _ _ _ _ _ _ _
   | exact ih4 _ _ _ _ _ _ _ _ _ _
   | exact ih5 _ _ _ _ _ _ _ _ _ _ _
   | exact spec_l30Next.mono _ _ _ _
   | exact LeO.none _
   | refine LeO.ite ?_ ?_
   | refine LeO.bind ?_ (fun _ => ?_)
  ·intro y0 y1 y2 y3 y4 y5
   unfold spec_l30Search.j1
   repeat' first
   | (with_reducible exact ih0 _ _ _ _ _ _)
   | (with_reducible exact ih1 _ _ _ _ _ _)
   | (with_reducible exact ih2 _ _ _ _ _ _ _)
   | (with_reducible exact ih3 _ _ _ _ _ _ _ _)
   | (with_reducible exact ih4 _ _ _ _ _ _ _ _ _ _)
   | (with_reducible exact ih5 _ _ _ _ _ _ _ _ _ _ _)
   | (with_reducible exact spec_l30Next.mono _ _ _ _)
   | (with_reducible exact LeO.refl _)
   | (with_reducible exact LeO.none _)
   | (with_reducible refine LeO.ite ?_ ?_)
   | (with_reducible refine LeO.bind ?_ (fun _ => ?_))
   | exact ih0 _ _ _ _ _ _
   | exact ih1 _ _ _ _ _ _
   | exact ih2 _ _ _ _ _ _ _
   | exact ih3 _ _ _ _ _ _ _ _
   | exact ih4 _ _ _ _ _ _ _ _ _ _
   | exact ih5 _ _ _ _ _ _ _ _ _ _ _
   | exact spec_l30Next.mono _ _ _ _
   | exact LeO.none _
   | refine LeO.ite ?_ ?_
   | refine LeO.bind ?_ (fun _ => ?_)
  ·intro y0 y1 y2 y3 y4 y5 y6
   unfold spec_l30Search.l1
   repeat' first
   | (with_reducible exact ih0 _ _ _ _ _ _)
   | (with_reducible exact ih1 _ _ _ _ _ _)
   | (with_reducible exact ih2 _ _ _ _ _ _ _)
   | (with_reducible exact ih3 _ _ _ _ _ _ _ _)
   | (with_reducible exact ih4 _ _ _ _ _ _ _ _ _ _)
   | (with_reducible exact ih5 _ _ _ _ _ _ _ _ _ _ _)
   | (with_reducible exact spec_l30Next.mono _ _ _ _)
   | (with_reducible exact LeO.refl _)
   | (with_reducible exact LeO.none _)
   | (with_reducible refine LeO.ite ?_ ?_)
   | (with_reducible refine LeO.bind ?_ (fun _ => ?_))
   | exact ih0 _ _ _ _ _ _
   | exact ih1 _ _ _ _ _ _
   | exact ih2 _ _ _ _ _ _ _
   | exact ih3 _ _ _ _ _ _ _ _
   | exact ih4 _ _ _ _ _ _ _ _ _ _
   | exact ih5 _ _ _ _ _ _ _ _ _ _ _
   | exact spec_l30Next.mono _ _ _ _
   | exact LeO.none _
   | refine LeO.ite ?_ ?_
   | refine LeO.bind ?_ (fun _ => ?_)
  ·intro y0 y1 y2 y3 y4 y5 y6 y7
   unfold spec_l30Search.j3
   repeat' first
   | (with_reducible exact ih0 _ _ _ _ _ _)
   | (with_reducible exact ih1 _ _ _ _ _ _)
   | (with_reducible exact ih2 _ _ _ _ _ _ _)
   | (with_reducible exact ih3 _ _ _ _ _ _ _ _)
   | (with_reducible exact ih4 _ _ _ _ _ _ _ _ _ _)
   | (with_reducible exact ih5 _ _ _ _ _ _ _ _ _ _ _)
   | (with_reducible exact spec_l30Next.mono _ _ _ _)
   | (with_reducible exact LeO.refl _)
   | (with_reducible exact LeO.none _)
   | (with_reducible refine LeO.ite ?_ ?_)
   | (with_reducible refine LeO.bind ?_ (fun _ => ?_))
   | exact ih0 _ _ _ _ _ _
   | exact ih1 _ _ _ _ _ _
   | exact ih2 _ _ _ _ _ _ _
   | exact ih3 _ _ _ _ _ _ _ _
   | exact ih4 _ _ _ _ _ _ _ _ _ _
   | exact ih5 _ _ _ _ _ _ _ _ _ _ _
   | exact spec_l30Next.mono _ _ _ _
   | exact LeO.none _
   | refine LeO.ite ?_ ?_
   | refine LeO.bind ?_ (fun _ => ?_)
  ·intro y0 y1 y2 y3 y4 y5 y6 y7 y8 y9
   unfold spec_l30Search.l2
   repeat' first
   | (with_reducible exact ih0 _ _ _ _ _ _)
   | (with_reducible exact ih1 _ _ _ _ _ _)
   | (with_reducible exact ih2 _ _ _ _ _ _ _)
   | (with_reducible exact ih3 _ _ _ _ _ _ _ _)
   | (with_reducible exact ih4 _ _ _ _ _ _ _ _ _ _)
   | (with_reducible exact ih5 _ _ _ _ _ _ _ _ _ _ _)
   | (with_reducible exact spec_l30Next.mono _ _ _ _)
   | (with_reducible exact LeO.refl _)
   | (with_reducible exact LeO.none _)
   | (with_reducible refine LeO.ite ?_ ?_)
   | (with_reducible refine LeO.bind ?_ (fun _ => ?_))
   | exact ih0 _ _ _ _ _ _
   | exact ih1 _ _ _ _ _ _
   | exact ih2 _ _ _ _ _ _ _
   | exact ih3 _ _ _ _ _ _ _ _
   | exact ih4 _ _ _ _ _ _ _ _ _ _
   | exact ih5 _ _ _ _ _ _ _ _ _ _ _
   | exact spec_l30Next.mono _ _ _ _
   | exact LeO.none _
   | refine LeO.ite ?_ ?_
   | refine LeO.bind ?_ (fun _ => ?_)
  ·intro y0 y1 y2 y3 y4 y5 y6 y7 y8 y9 y10
   unfold spec_l30Search.j5
   repeat' first
   | (with_reducible exact ih0 _ _ _ _ _ _)
   | (with_reducible exact ih1 _ _ _ _ _ _)
   | (with_reducible exact ih2 _ _ _ _ _ _ _)
   | (with_reducible exact ih3 _ _ _ _ _ _ _ _)
   | (with_reducible exact ih4 _ _ _ _ _ _ _ _ _ _)
   | (with_reducible exact ih5 _ _ _ _ _ _ _ _ _ _ _)
   | (with_reducible exact spec_l30Next.mono _ _ _ _)
   | (with_reducible exact LeO.refl _)
   | (with_reducible exact LeO.none _)
   | (with_reducible refine LeO.ite ?_ ?_)
   | (with_reducible refine LeO.bind ?_ (fun _ => ?_))
   | exact ih0 _ _ _ _ _ _
   | exact ih1 _ _ _ _ _ _
   | exact ih2 _ _ _ _ _ _ _
   | exact ih3 _ _ _ _ _ _ _ _
   | exact ih4 _ _ _ _ _ _ _ _ _ _
   | exact ih5 _ _ _ _ _ _ _ _ _ _ _
   | exact spec_l30Next.mono _ _ _ _
   | exact LeO.none _
   | refine LeO.ite ?_ ?_
   | refine LeO.bind ?_ (fun _ => ?_)
theorem spec_l30Search.mono : ∀ a0 a1 a2 k, LeO (spec_l30Search.f k a0 a1 a2) (spec_l30Search.f (k + 1) a0 a1 a2) := by
 intro a0 a1 a2 k
 obtain ⟨ih0, ih1, ih2, ih3, ih4, ih5⟩ := spec_l30Search.mono_l k
 unfold spec_l30Search.f
 repeat' first
   | (with_reducible exact ih0 _ _ _ _ _ _)
   | (with_reducible exact ih1 _ _ _ _ _ _)
   | (with_reducible exact ih2 _ _ _ _ _ _ _)
   | (with_reducible exact ih3 _ _ _ _ _ _ _ _)
   | (with_reducible exact ih4 _ _ _ _ _ _ _ _ _ _)
   | (with_reducible exact ih5 _ _ _ _ _ _ _ _ _ _ _)
   | (with_reducible exact spec_l30Next.mono _ _ _ _)
   | (with_reducible exact LeO.refl _)
   | (with_reducible exact LeO.none _)
   | (with_reducible refine LeO.ite ?_ ?_)
   | (with_reducible refine LeO.bind ?_ (fun _ => ?_))
   | exact ih0 _ _ _ _ _ _
   | exact ih1 _ _ _ _ _ _
   | exact ih2 _ _ _ _ _ _ _
   | exact ih3 _ _ _ _ _ _ _ _
   | exact ih4 _ _ _ _ _ _ _ _ _ _
   | exact ih5 _ _ _ _ _ _ _ _ _ _ _
   | exact spec_l30Next.mono _ _ _ _
   | exact LeO.none _
   | refine LeO.ite ?_ ?_
   | refine LeO.bind ?_ (fun _ => ?_)
set_option maxHeartbeats 8000000 in
set_option maxRecDepth 100000 in
theorem spec_l30Search.calls (k : Nat) (a0 : Int) (A1 : Option Addr) (c1 : Nat) (l1 : List Int) (a2 : Int) (r : List Int) (w : World) (hr1 : Kd.C (Kd.int .i64) w A1 l1.length l1) (hc1 : l1.length ≤ c1) (h : spec_l30Search.f k a0 l1 a2 = some r) :
  Calls Try.prog 112 #[.int .i64 a0, .slice A1 l1.length c1, .int .i64 a2] w fun e w' => ∃ v0_ : Value, e = .returned (v0_) ∧ Kd.R (Kd.int .i64) 3 w' w.heap.size (fun _ => True) v0_ r ∧ Below w.heap.size w w' := by
 have HR1 := Aside0.mk hr1
 have HC1 := Aside0.mk hc1
 clear hr1 hc1
 have HB := Aside0.mk (Below.refl w.heap.size w)
 have H : (spec_l30Search.l0 k a0 l1 a2 (([] : List Int)) (([] : List Int)) 0) = some r := h
 clear h
 obtain ⟨y1030, hy1030⟩ : ∃ y_ : List Int, y_ = (([] : List Int)) := ⟨_, rfl⟩
 replace H : (spec_l30Search.l0 k a0 l1 a2 y1030 (([] : List Int)) 0) = some r := by first | (rw [hy1030]; with_reducible exact H) | (have H2_ := (Option.bind_some _ _).symm.trans H; rw [hy1030]; with_reducible exact H2_) | (have H2_ := (Option.bind_some _ _).symm.trans H; with_reducible exact H2_) | with_reducible exact H | (rw [hy1030]; exact H) | exact H
 have Ny1030 := Aside0.mk hy1030
 clear hy1030
 obtain ⟨y1033, hy1033⟩ : ∃ y_ : List Int, y_ = (([] : List Int)) := ⟨_, rfl⟩
 replace H : (spec_l30Search.l0 k a0 l1 a2 y1030 y1033 0) = some r := by first | (rw [hy1033]; with_reducible exact H) | (have H2_ := (Option.bind_some _ _).symm.trans H; rw [hy1033]; with_reducible exact H2_) | (have H2_ := (Option.bind_some _ _).symm.trans H; with_reducible exact H2_) | with_reducible exact H | (rw [hy1033]; exact H) | exact H
 have Ny1033 := Aside0.mk hy1033
 clear hy1033
 have H' := Aside0.mk H
 clear H
 go_enter Try.func112, Try.ntmps112
 go_wp2_with (first | ((with_reducible refine gate_dst (N := 14) rfl ?_); refine Kd.R_lit (Kd.int .i64) _ 3 ?hg (N := 14) ?hd (xs := ([] : List Int)) (inner := []) (ok := fun _ => True) (okp := fun _ => True) ?hr ?hp (fun _ hk => hk) trivial (Below.refl _ _) (Nat.le_refl _) (by simp) ?_; (case hd => rfl); (case hg => rfl); (case hr => first | (go_simp; done) | (go_simp; rfl)); (case hp => exact (Reps.none _ _)); intro v1031 w4 ho5 hb hg_ hnew_; clear hg_ hnew_; (first | rw [← Ny1030.out] at ho5 | (simp only [Int.reduceToNat] at ho5; rw [← Ny1030.out] at ho5)); have n0_ := Aside0.mk (Kd.R_lower ho5 (below_size (by repeat (first | (with_reducible first | exact HB.out | apply below_alloc | apply pw_below_drewN | apply below_drew1) | exact HB.out)))); have n1_ := Aside0.mk (below_step (by repeat (first | (with_reducible first | exact HB.out | apply below_alloc | apply pw_below_drewN | apply below_drew1) | exact HB.out)) hb); clear HB; have HO1032 := n0_; have HB := n1_; clear n0_ n1_; clear hb ho5) | ((with_reducible refine gate_dst (N := 15) rfl ?_); refine Kd.R_lit (Kd.int .i64) _ 3 ?hg (N := 15) ?hd (xs := ([] : List Int)) (inner := []) (ok := fun _ => True) (okp := fun _ => True) ?hr ?hp (fun _ hk => hk) trivial (Below.refl _ _) (Nat.le_refl _) (by simp) ?_; (case hd => rfl); (case hg => rfl); (case hr => first | (go_simp; done) | (go_simp; rfl)); (case hp => exact (Reps.none _ _)); intro v1034 w6 ho7 hb hg_ hnew_; clear hg_ hnew_; (first | rw [← Ny1033.out] at ho7 | (simp only [Int.reduceToNat] at ho7; rw [← Ny1033.out] at ho7)); have n0_ := Aside0.mk (Kd.R_elder' (by (with_reducible repeat (first | apply Kd.R_alloc | apply Kd.R_drewN | apply Kd.R_drew)); exact HO1032.out) (Kd.R_base ho7) hb); have n1_ := Aside0.mk (Kd.R_lower (Kd.R_new' ho7 (Kd.R_lt (by (with_reducible repeat (first | apply Kd.R_alloc | apply Kd.R_drewN | apply Kd.R_drew)); exact HO1032.out))) (below_size (by repeat (first | (with_reducible first | exact HB.out | apply below_alloc | apply pw_below_drewN | apply below_drew1) | exact HB.out)))); have n2_ := Aside0.mk (below_step (by repeat (first | (with_reducible first | exact HB.out | apply below_alloc | apply pw_below_drewN | apply below_drew1) | exact HB.out)) hb); clear HO1032; clear HB; have HO1032 := n0_; have HO1035 := n1_; have HB := n2_; clear n0_ n1_ n2_; clear hb ho7))
 go_loopg [7, 8, 9] k (fun kq v7 v8 v9 w' => ∃ (x7_1 : List Int) (x8_1 : List Int) (x9_1 : Int), v9 = .int .i64 x9_1 ∧ Aside0 (spec_l30Search.l0 kq a0 l1 a2 x7_1 x8_1 x9_1 = some r) ∧ Aside0 (kq ≤ k) ∧ Aside0 (Kd.R (Kd.int .i64) 3 w' w.heap.size (fun k_ => some k_ ≠ (v8 : Value).ownBlock) v7 x7_1) ∧ Aside0 (Kd.R (Kd.int .i64) 3 w' w.heap.size (fun k_ => some k_ ≠ (v7 : Value).ownBlock) v8 x8_1) ∧ Aside0 (Below w.heap.size w w'))
 case atStart => exact ⟨(y1030), (y1033), (0), (by first | rfl | (simp; done) | (simp [*]; done)), H', ⟨Nat.le_refl _⟩, ⟨by (with_reducible repeat (first | apply Kd.R_alloc | apply Kd.R_drewN | apply Kd.R_drew)); exact Kd.R_mono HO1032.out (fun _ hk => hk.2)⟩, ⟨by (with_reducible repeat (first | apply Kd.R_alloc | apply Kd.R_drewN | apply Kd.R_drew)); exact Kd.R_mono HO1035.out (fun _ hk => hk.2)⟩, ⟨by repeat (first | (with_reducible first | exact HB.out | apply below_alloc | apply pw_below_drewN | apply below_drew1) | exact HB.out)⟩⟩
 case round =>
  clear H'
  try clear c1
  try clear p2
  obtain ⟨x7_1, x8_1, x9_1, rfl, HA, HK1, HO_7, HO_8, HB⟩ := hrel
  cases gk with
  | zero => exact absurd HA.out (by simp [spec_l30Search.l0])
  | succ k1 =>
   have H := HA.out
   clear HA
   simp only [spec_l30Search.l0] at H
   by_cases c8 : x9_1 < 400
   ·rw [if_pos c8] at H
    have c8b0 : decide (x9_1 < 400) = true := decide_eq_true c8
    clear c8
    have HC9 := Aside0.mk H
    clear H
    obtain ⟨Ao10, co10, eo10⟩ := Kd.R_slice HO_8.out
    subst eo10
    obtain ⟨Ao11, co11, eo11⟩ := Kd.R_slice HO_7.out
    subst eo11
    go_upto_if 24 with (fail)
    go_cut [7] (fun v7 wc => ∃ (kq : Nat) (x7_8 : List Int), Aside0 (spec_l30Search.j1 kq a0 l1 a2 x7_8 x8_1 x9_1 = some r) ∧ Aside0 (kq ≤ k1) ∧ Aside0 (Kd.R (Kd.int .i64) 3 wc w.heap.size (fun k_ => some k_ ≠ ((.slice Ao10 x8_1.length co10) : Value).ownBlock) v7 x7_8) ∧ Aside0 (Kd.R (Kd.int .i64) 3 wc w.heap.size (fun k_ => some k_ ≠ (v7 : Value).ownBlock) (.slice Ao10 x8_1.length co10) x8_1) ∧ Aside0 (Below w.heap.size w wc))
    case first =>
     have H := HC9.out
     clear HC9
     by_cases c12 : (x8_1.length : Int) > (x7_1.length : Int)
     ·rw [if_pos c12] at H
      have c12b0 : decide ((x7_1.length : Int) < (x8_1.length : Int)) = true := decide_eq_true c12
      have c12n0 : decide (x7_1.length < x8_1.length) = true := decide_eq_true (by have h_ := of_decide_eq_true c12b0; omega)
      have c12b1 : decide (x7_1.length < x8_1.length) = true := decide_eq_true (Int.ofNat_lt.mp c12)
      clear c12
      (first | rw [c12b0] | (simp only [i64_w, i32_w]; rw [c12b0]) | rw [c12n0] | skip)
      obtain ⟨y1036, hy1036⟩ : ∃ y_ : List Int, y_ = (([] : List Int)) := ⟨_, rfl⟩
      replace H : (if y1036.length + x8_1.length < 17592186044416 then (spec_l30Search.j1 k1 a0 l1 a2 (y1036 ++ x8_1) x8_1 x9_1) else (none)) = some r := by first | (rw [hy1036]; with_reducible exact H) | (have H2_ := (Option.bind_some _ _).symm.trans H; rw [hy1036]; with_reducible exact H2_) | (have H2_ := (Option.bind_some _ _).symm.trans H; with_reducible exact H2_) | with_reducible exact H | (rw [hy1036]; exact H) | exact H
      have Ny1036 := Aside0.mk hy1036
      clear hy1036
      by_cases c13 : y1036.length + x8_1.length < 17592186044416
      ·rw [if_pos c13] at H
       have LMc13 := Aside0.mk c13
       clear c13
       obtain ⟨y1039, hy1039⟩ : ∃ y_ : List Int, y_ = (y1036 ++ x8_1) := ⟨_, rfl⟩
       replace H : (spec_l30Search.j1 k1 a0 l1 a2 y1039 x8_1 x9_1) = some r := by first | (rw [hy1039]; with_reducible exact H) | (have H2_ := (Option.bind_some _ _).symm.trans H; rw [hy1039]; with_reducible exact H2_) | (have H2_ := (Option.bind_some _ _).symm.trans H; with_reducible exact H2_) | with_reducible exact H | (rw [hy1039]; exact H) | exact H
       have Ny1039 := Aside0.mk hy1039
       clear hy1039
       have H' := Aside0.mk H
       clear H
       go_wp2_with (first | ((with_reducible refine gate_dst (N := 25) rfl ?_); refine Kd.R_lit (Kd.int .i64) _ 3 ?hg (N := 25) ?hd (xs := ([] : List Int)) (inner := []) (ok := fun _ => True) (okp := fun _ => True) ?hr ?hp (fun _ hk => hk) trivial (Below.refl _ _) (Nat.le_refl _) (by simp) ?_; (case hd => rfl); (case hg => rfl); (case hr => first | (go_simp; done) | (go_simp; rfl)); (case hp => exact (Reps.none _ _)); intro v1037 w14 ho15 hb hg_ hnew_; clear hg_ hnew_; (first | rw [← Ny1036.out] at ho15 | (simp only [Int.reduceToNat] at ho15; rw [← Ny1036.out] at ho15)); have n0_ := Aside0.mk (Kd.R_elder' (by (with_reducible repeat (first | apply Kd.R_alloc | apply Kd.R_drewN | apply Kd.R_drew)); exact HO_7.out) (Kd.R_base ho15) hb); have n1_ := Aside0.mk (Kd.R_elder' (by (with_reducible repeat (first | apply Kd.R_alloc | apply Kd.R_drewN | apply Kd.R_drew)); exact HO_8.out) (Kd.R_base ho15) hb); have n2_ := Aside0.mk (Kd.R_lower (Kd.R_new' (Kd.R_new' ho15 (Kd.R_lt (by (with_reducible repeat (first | apply Kd.R_alloc | apply Kd.R_drewN | apply Kd.R_drew)); exact HO_7.out))) (Kd.R_lt (by (with_reducible repeat (first | apply Kd.R_alloc | apply Kd.R_drewN | apply Kd.R_drew)); exact HO_8.out))) (below_size (by repeat (first | (with_reducible first | exact HB.out | apply below_alloc | apply pw_below_drewN | apply below_drew1) | exact HB.out)))); have n3_ := Aside0.mk (below_step (by repeat (first | (with_reducible first | exact HB.out | apply below_alloc | apply pw_below_drewN | apply below_drew1) | exact HB.out)) hb); clear HO_7; clear HO_8; clear HB; have HO_7 := n0_; have HO_8 := n1_; have HO1038 := n2_; have HB := n3_; clear n0_ n1_ n2_ n3_; clear hb ho15) | ((with_reducible refine gate_builtin (b := .append) (xs := #[.tmp 25, .tmp 26]) rfl ?_); at_builtin; refine Kd.R_append_rows (Kd.int .i64) (w0 := w) w.heap.size rfl (.tmp 25) (.tmp 26) 22 3 (.int .i64 0) 8 rfl Try.underlying22 info3 rfl (by decide) (by omega) v1037 y1036 x8_1 _ _ _ (fun k_ => some k_ ≠ (.slice Ao11 x7_1.length co11 : Value).ownBlock ∧ some k_ ≠ (.slice Ao10 x8_1.length co10 : Value).ownBlock) (fun _ => False) rfl rfl ?aO ?aR (fun _ _ h => h) (fun _ h => h.elim) ?aF ?aB ?aS ?aL ?_; (case aR => repeat (first | exact (Kd.R_reads' HO_8.out).2.2 | (with_reducible refine Kd.C_alloc ?_ _) | (with_reducible refine Kd.C_drewN ?_ _) | (with_reducible refine Kd.C_drew ?_))); (case aB => exact (by repeat (first | (with_reducible first | exact HB.out | apply below_alloc | apply pw_below_drewN | apply below_drew1) | exact HB.out))); (case aF => exact (fun k_ hk => ⟨Kd.fresh' (Kd.R_lt (by (with_reducible repeat (first | apply Kd.R_alloc | apply Kd.R_drewN | apply Kd.R_drew)); exact HO_7.out)) k_ hk, Kd.fresh' (Kd.R_lt (by (with_reducible repeat (first | apply Kd.R_alloc | apply Kd.R_drewN | apply Kd.R_drew)); exact HO_8.out)) k_ hk⟩)); (case aO => exact (by (with_reducible repeat (first | apply Kd.R_alloc | apply Kd.R_drewN | apply Kd.R_drew)); exact Kd.R_mono HO1038.out (fun _ hk => ⟨hk.1.2, hk.2⟩))); (case aS => exact (below_size (by repeat (first | (with_reducible first | exact HB.out | apply below_alloc | apply pw_below_drewN | apply below_drew1) | exact HB.out)))); (case aL => have := LMc13.out; omega); intro v1040 w16 ho hb hg hat; rw [← Ny1039.out] at ho; have n0_ := Aside0.mk (Kd.R_after (ok := (fun k_ => some k_ ≠ (.slice Ao10 x8_1.length co10 : Value).ownBlock)) (by (with_reducible repeat (first | apply Kd.R_alloc | apply Kd.R_drewN | apply Kd.R_drew)); exact HO_7.out) hg hat); have n1_ := Aside0.mk (Kd.R_after (ok := (fun k_ => some k_ ≠ (.slice Ao11 x7_1.length co11 : Value).ownBlock)) (by (with_reducible repeat (first | apply Kd.R_alloc | apply Kd.R_drewN | apply Kd.R_drew)); exact HO_8.out) hg hat); have n2_ := Aside0.mk (hb); have n3_ := Aside0.mk (ho); clear HO_7; clear HO_8; clear HB; clear HO1038; have HO_7 := n0_; have HO_8 := n1_; have HB := n2_; have HO1041 := n3_; clear n0_ n1_ n2_ n3_; clear ho hb hg hat))
       go_meet
       case rel => exact ⟨_, (y1039), H', ⟨by have := HK1.out; first | omega | exact Nat.le_refl _⟩, ⟨by (with_reducible repeat (first | apply Kd.R_alloc | apply Kd.R_drewN | apply Kd.R_drew)); exact Kd.R_mono HO1041.out (fun _ hk => hk.2)⟩, ⟨by (with_reducible repeat (first | apply Kd.R_alloc | apply Kd.R_drewN | apply Kd.R_drew)); exact Kd.R_mono HO_8.out (fun _ hk => hk.2)⟩, ⟨by repeat (first | (with_reducible first | exact HB.out | apply below_alloc | apply pw_below_drewN | apply below_drew1) | exact HB.out)⟩⟩
      ·rw [if_neg c13] at H
       exact absurd H (by simp)
     ·rw [if_neg c12] at H
      have c12b0 : decide ((x7_1.length : Int) < (x8_1.length : Int)) = false := decide_eq_false c12
      have c12n0 : decide (x7_1.length < x8_1.length) = false := decide_eq_false (by have h_ := of_decide_eq_false c12b0; omega)
      have c12b1 : decide (x7_1.length < x8_1.length) = false := decide_eq_false (fun h => c12 (Int.ofNat_lt.mpr h))
      clear c12
      (first | rw [c12b0] | (simp only [i64_w, i32_w]; rw [c12b0]) | rw [c12n0] | skip)
      have H' := Aside0.mk H
      clear H
      go_wp2
      go_meet
      case rel => exact ⟨_, (x7_1), H', ⟨by have := HK1.out; first | omega | exact Nat.le_refl _⟩, ⟨by (with_reducible repeat (first | apply Kd.R_alloc | apply Kd.R_drewN | apply Kd.R_drew)); exact HO_7.out⟩, ⟨by (with_reducible repeat (first | apply Kd.R_alloc | apply Kd.R_drewN | apply Kd.R_drew)); exact HO_8.out⟩, ⟨by repeat (first | (with_reducible first | exact HB.out | apply below_alloc | apply pw_below_drewN | apply below_drew1) | exact HB.out)⟩⟩
    case rest =>
     clear HC9
     try clear c1
     try clear p2
     try clear c8
     try clear c8b0
     try clear c11
     try clear c12
     try clear c12b0
     try clear c12n0
     try clear c12b1
     try clear c12n1
     try clear c13
     try clear p2
     obtain ⟨kq, x7_8, HA, HJ8, HO_7, HO_8, HB⟩ := hcut
     cases kq with
     | zero => exact absurd HA.out (by simp [spec_l30Search.j1])
     | succ kj8 =>
      have H := HA.out
      clear HA
      simp only [spec_l30Search.j1] at H
      by_cases c17 : (x8_1.length : Int) = a2
      ·rw [if_pos c17] at H
       have c17b0 : ((x8_1.length : Int) == a2) = true := beq_iff_eq.mpr c17
       have c17b1 : ((x8_1.length : Int) != a2) = false := bne_eq_false_iff_eq.mpr c17
       clear c17
       obtain rfl := Option.some.inj H
       go_wp2
       go_ret
       exact ⟨_, by first | rfl | (simp [errW_none, errW_some] <;> rfl) | (simp [*, errW_none, errW_some] <;> rfl), by (with_reducible repeat (first | apply Kd.R_alloc | apply Kd.R_drewN | apply Kd.R_drew)); exact Kd.R_mono HO_7.out (fun _ hk => trivial), by repeat (first | (with_reducible first | exact HB.out | apply below_alloc | apply pw_below_drewN | apply below_drew1) | exact HB.out)⟩
      ·rw [if_neg c17] at H
       have c17b0 : ((x8_1.length : Int) == a2) = false := beq_eq_false_iff_ne.mpr c17
       have c17b1 : ((x8_1.length : Int) != a2) = true := bne_iff_ne.mpr c17
       replace H := Option.bind_eq_some_iff.mp H
       obtain ⟨t1042, A180, H⟩ := H
       replace H : (if (t1042.length : Int) > 0 then (if 0 < (t1042.length : Int) then (if x8_1.length < 17592186044416 then (spec_l30Search.l0 kj8 a0 l1 a2 x7_8 (x8_1 ++ [rd t1042 0]) (wrap64 (x9_1 + 1))) else (none)) else (none)) else (spec_l30Search.l1 kj8 a0 l1 a2 x7_8 x8_1 x9_1 false)) = some r := H
       have A18 := Aside0.mk A180
       clear A180
       by_cases c19 : (t1042.length : Int) > 0
       ·rw [if_pos c19] at H
        have c19b0 : decide (0 < (t1042.length : Int)) = true := decide_eq_true c19
        have c19b1 : decide (0 < t1042.length) = true := decide_eq_true (by omega)
        clear c19
        by_cases c20 : 0 < (t1042.length : Int)
        ·rw [if_pos c20] at H
         have c20b0 : decide (0 < (t1042.length : Int)) = true := decide_eq_true c20
         have c20b1 : decide (0 < t1042.length) = true := decide_eq_true (by omega)
         clear c20
         by_cases c21 : x8_1.length < 17592186044416
         ·rw [if_pos c21] at H
          have LMc21 := Aside0.mk c21
          clear c21
          obtain ⟨y1046, hy1046⟩ : ∃ y_ : List Int, y_ = (x8_1 ++ [rd t1042 0]) := ⟨_, rfl⟩
          replace H : (spec_l30Search.l0 kj8 a0 l1 a2 x7_8 y1046 (wrap64 (x9_1 + 1))) = some r := by first | (rw [hy1046]; with_reducible exact H) | (have H2_ := (Option.bind_some _ _).symm.trans H; rw [hy1046]; with_reducible exact H2_) | (have H2_ := (Option.bind_some _ _).symm.trans H; with_reducible exact H2_) | with_reducible exact H | (rw [hy1046]; exact H) | exact H
          have Ny1046 := Aside0.mk hy1046
          clear hy1046
          have H' := Aside0.mk H
          clear H
          go_wp2_with (first | ((with_reducible refine gate_callee (f := 107) rfl ?_); refine goesL_ (some 36) rfl rfl Try.func107 (by kernel_rfl) rfl #[.slice Ao10 x8_1.length co10, .int .i64 a0, .slice A1 l1.length c1] rfl (by (try simp only [List.map_toArray, List.map_cons, List.map_nil]); first | done | rfl | (simp only [List.length_drop, List.length_take]; rfl)) ?_; (with_reducible refine (spec_l30Next.calls kj8 _ _ x8_1 a0 _ _ l1 t1042 _ ?side1 ?side2 ?side3 ?side4 A18.out).mono ?_); (case side1 => repeat (first | exact (Kd.R_reads' HO_8.out).2.2 | (with_reducible refine Kd.C_alloc ?_ _) | (with_reducible refine Kd.C_drewN ?_ _) | (with_reducible refine Kd.C_drew ?_))); (case side2 => exact (Kd.R_reads' HO_8.out).2.1); (case side3 => repeat (first | exact (Kd.C_below HR1.out HB.out) | (with_reducible refine Kd.C_alloc ?_ _) | (with_reducible refine Kd.C_drewN ?_ _) | (with_reducible refine Kd.C_drew ?_))); (case side4 => exact HC1.out); rintro e w22 ⟨v1043, rfl, ho0, hb⟩; refine ⟨_, rfl, ?_⟩; have n0_ := Aside0.mk (Kd.R_elder' (by (with_reducible repeat (first | apply Kd.R_alloc | apply Kd.R_drewN | apply Kd.R_drew)); exact HO_7.out) (Kd.R_base ho0) hb); have n1_ := Aside0.mk (Kd.R_elder' (by (with_reducible repeat (first | apply Kd.R_alloc | apply Kd.R_drewN | apply Kd.R_drew)); exact HO_8.out) (Kd.R_base ho0) hb); have n2_ := Aside0.mk (Kd.R_lower (Kd.R_new' (Kd.R_new' ho0 (Kd.R_lt (by (with_reducible repeat (first | apply Kd.R_alloc | apply Kd.R_drewN | apply Kd.R_drew)); exact HO_7.out))) (Kd.R_lt (by (with_reducible repeat (first | apply Kd.R_alloc | apply Kd.R_drewN | apply Kd.R_drew)); exact HO_8.out))) (below_size (by repeat (first | (with_reducible first | exact HB.out | apply below_alloc | apply pw_below_drewN | apply below_drew1) | exact HB.out)))); have n3_ := Aside0.mk (below_step (by repeat (first | (with_reducible first | exact HB.out | apply below_alloc | apply pw_below_drewN | apply below_drew1) | exact HB.out)) hb); clear HO_7; clear HO_8; clear HB; have HO_7 := n0_; have HO_8 := n1_; have HO1044 := n2_; have HB := n3_; clear n0_ n1_ n2_ n3_; (try clear hb); (try clear hb2); (try clear hk); (try clear hi); (try clear ho0); obtain ⟨Ao23, co23, eo23⟩ := Kd.R_slice HO1044.out; subst eo23; have p1045 : 0 ≤ (0 : Int) := (by omega); have q1045 : 0 < (t1042.length : Int) := of_decide_eq_true (by first | (with_reducible assumption) | assumption); obtain ⟨ad1045, e1045, hx1045_0⟩ := Kd.at_int (Kd.R_reads' HO1044.out).2.2 0 p1045 q1045; cases e1045; have qi1045 : (0 < t1042.length) = True := eq_true (by omega); (try rw [show ((0 : Int)).toNat = 0 from rfl] at hx1045_0); (try rw [Addr.add_zero'] at hx1045_0); replace p1045 := eq_true p1045; replace q1045 := eq_true q1045) | ((with_reducible refine gate_builtin (b := .append) (xs := #[.tmp 40, .tmp 44]) rfl ?_); at_builtin; refine Kd.R_append (Kd.int .i64) (w0 := w) w.heap.size rfl (.tmp 40) (.tmp 44) 22 3 (.int .i64 0) 8 rfl Try.underlying22 info3 rfl (by decide) (by omega) (.slice Ao10 x8_1.length co10) x8_1 (rd t1042 0) [.int .i64 (rd t1042 0)] (fun k_ => some k_ ≠ (u7 : Value).ownBlock ∧ some k_ ≠ (.slice (some ad1045) t1042.length co23 : Value).ownBlock) (fun _ => False) rfl rfl ?aP (fun _ hk => hk.elim) ?aF ?aO ?aB ?aS ?aL ?_; (case aP => exact rfl); (case aB => exact (by repeat (first | (with_reducible first | exact HB.out | apply below_alloc | apply pw_below_drewN | apply below_drew1) | exact HB.out))); (case aF => exact (fun k_ hk => ⟨Kd.fresh' (Kd.R_lt (by (with_reducible repeat (first | apply Kd.R_alloc | apply Kd.R_drewN | apply Kd.R_drew)); exact HO_7.out)) k_ hk, Kd.fresh' (Kd.R_lt (by (with_reducible repeat (first | apply Kd.R_alloc | apply Kd.R_drewN | apply Kd.R_drew)); exact HO1044.out)) k_ hk⟩)); (case aO => exact (by (with_reducible repeat (first | apply Kd.R_alloc | apply Kd.R_drewN | apply Kd.R_drew)); exact HO_8.out)); (case aS => exact (below_size (by repeat (first | (with_reducible first | exact HB.out | apply below_alloc | apply pw_below_drewN | apply below_drew1) | exact HB.out)))); (case aL => have := LMc21.out; omega); intro v1047 w24 ho hb hg hat; rw [← Ny1046.out] at ho; have n0_ := Aside0.mk (Kd.R_after (ok := (fun k_ => some k_ ≠ (.slice (some ad1045) t1042.length co23 : Value).ownBlock)) (by (with_reducible repeat (first | apply Kd.R_alloc | apply Kd.R_drewN | apply Kd.R_drew)); exact Kd.R_mono HO_7.out (fun _ hk => ⟨hk.2, hk.1⟩)) hg hat); have n1_ := Aside0.mk (Kd.R_after (ok := (fun k_ => some k_ ≠ (u7 : Value).ownBlock)) (by (with_reducible repeat (first | apply Kd.R_alloc | apply Kd.R_drewN | apply Kd.R_drew)); exact Kd.R_mono HO1044.out (fun _ hk => ⟨hk.1.2, hk.2⟩)) hg hat); have n2_ := Aside0.mk (hb); have n3_ := Aside0.mk (ho); clear HO_7; clear HO1044; clear HB; clear HO_8; have HO_7 := n0_; have HO1044 := n1_; have HB := n2_; have HO1048 := n3_; clear n0_ n1_ n2_ n3_; clear ho hb hg hat))
          go_roundg kj8
          case measure => have := HK1.out; have := HJ8.out; omega
          case rel => exact ⟨(x7_8), (y1046), (wrap64 (x9_1 + 1)), (by first | rfl | (simp; done) | (simp [*]; done)), H', ⟨by have := HK1.out; have := HJ8.out; omega⟩, ⟨by (with_reducible repeat (first | apply Kd.R_alloc | apply Kd.R_drewN | apply Kd.R_drew)); exact Kd.R_mono HO_7.out (fun _ hk => hk.2)⟩, ⟨by (with_reducible repeat (first | apply Kd.R_alloc | apply Kd.R_drewN | apply Kd.R_drew)); exact Kd.R_mono HO1048.out (fun _ hk => hk.1)⟩, ⟨by repeat (first | (with_reducible first | exact HB.out | apply below_alloc | apply pw_below_drewN | apply below_drew1) | exact HB.out)⟩⟩
         ·rw [if_neg c21] at H
          exact absurd H (by simp)
        ·rw [if_neg c20] at H
         exact absurd H (by simp)
       ·rw [if_neg c19] at H
        have c19b0 : decide (0 < (t1042.length : Int)) = false := decide_eq_false c19
        have c19b1 : decide (0 < t1042.length) = false := decide_eq_false (by omega)
        clear c19
        have H' := Aside0.mk H
        clear H
        go_wp2_with (first | ((with_reducible refine gate_callee (f := 107) rfl ?_); refine goesL_ (some 36) rfl rfl Try.func107 (by kernel_rfl) rfl #[.slice Ao10 x8_1.length co10, .int .i64 a0, .slice A1 l1.length c1] rfl (by (try simp only [List.map_toArray, List.map_cons, List.map_nil]); first | done | rfl | (simp only [List.length_drop, List.length_take]; rfl)) ?_; (with_reducible refine (spec_l30Next.calls kj8 _ _ x8_1 a0 _ _ l1 t1042 _ ?side1 ?side2 ?side3 ?side4 A18.out).mono ?_); (case side1 => repeat (first | exact (Kd.R_reads' HO_8.out).2.2 | (with_reducible refine Kd.C_alloc ?_ _) | (with_reducible refine Kd.C_drewN ?_ _) | (with_reducible refine Kd.C_drew ?_))); (case side2 => exact (Kd.R_reads' HO_8.out).2.1); (case side3 => repeat (first | exact (Kd.C_below HR1.out HB.out) | (with_reducible refine Kd.C_alloc ?_ _) | (with_reducible refine Kd.C_drewN ?_ _) | (with_reducible refine Kd.C_drew ?_))); (case side4 => exact HC1.out); rintro e w25 ⟨v1043, rfl, ho0, hb⟩; refine ⟨_, rfl, ?_⟩; have n0_ := Aside0.mk (Kd.R_elder' (by (with_reducible repeat (first | apply Kd.R_alloc | apply Kd.R_drewN | apply Kd.R_drew)); exact HO_7.out) (Kd.R_base ho0) hb); have n1_ := Aside0.mk (Kd.R_elder' (by (with_reducible repeat (first | apply Kd.R_alloc | apply Kd.R_drewN | apply Kd.R_drew)); exact HO_8.out) (Kd.R_base ho0) hb); have n2_ := Aside0.mk (Kd.R_lower (Kd.R_new' (Kd.R_new' ho0 (Kd.R_lt (by (with_reducible repeat (first | apply Kd.R_alloc | apply Kd.R_drewN | apply Kd.R_drew)); exact HO_7.out))) (Kd.R_lt (by (with_reducible repeat (first | apply Kd.R_alloc | apply Kd.R_drewN | apply Kd.R_drew)); exact HO_8.out))) (below_size (by repeat (first | (with_reducible first | exact HB.out | apply below_alloc | apply pw_below_drewN | apply below_drew1) | exact HB.out)))); have n3_ := Aside0.mk (below_step (by repeat (first | (with_reducible first | exact HB.out | apply below_alloc | apply pw_below_drewN | apply below_drew1) | exact HB.out)) hb); clear HO_7; clear HO_8; clear HB; have HO_7 := n0_; have HO_8 := n1_; have HO1044 := n2_; have HB := n3_; clear n0_ n1_ n2_ n3_; (try clear hb); (try clear hb2); (try clear hk); (try clear hi); (try clear ho0); obtain ⟨Ao26, co26, eo26⟩ := Kd.R_slice HO1044.out; subst eo26))
        go_loopg [8, 11] kj8 (fun kq v8 v11 w' => ∃ (x8_3 : List Int) (x11_3 : Bool), v11 = .bool x11_3 ∧ Aside0 (spec_l30Search.l1 kq a0 l1 a2 x7_8 x8_3 x9_1 x11_3 = some r) ∧ Aside0 (kq ≤ kj8) ∧ Aside0 (Kd.R (Kd.int .i64) 3 w' w.heap.size (fun k_ => some k_ ≠ (v8 : Value).ownBlock) u7 x7_8) ∧ Aside0 (Kd.R (Kd.int .i64) 3 w' w.heap.size (fun k_ => some k_ ≠ (u7 : Value).ownBlock) v8 x8_3) ∧ Aside0 (Below w.heap.size w w'))
        case atStart => exact ⟨(x8_1), (false), (by first | rfl | (simp; done) | (simp [*]; done)), H', ⟨Nat.le_refl _⟩, ⟨by (with_reducible repeat (first | apply Kd.R_alloc | apply Kd.R_drewN | apply Kd.R_drew)); exact Kd.R_mono HO_7.out (fun _ hk => hk.1)⟩, ⟨by (with_reducible repeat (first | apply Kd.R_alloc | apply Kd.R_drewN | apply Kd.R_drew)); exact Kd.R_mono HO_8.out (fun _ hk => hk.1)⟩, ⟨by repeat (first | (with_reducible first | exact HB.out | apply below_alloc | apply pw_below_drewN | apply below_drew1) | exact HB.out)⟩⟩
        case round =>
         clear H'
         try clear c1
         try clear p1
         try clear q1
         try clear hx1
         try clear qi1
         try clear c2
         try clear p2
         try clear p6
         try clear c8
         try clear c8b0
         try clear c10
         try clear p10
         try clear q10
         try clear hx10
         try clear qi10
         try clear c11
         try clear c12
         try clear c12b0
         try clear c12n0
         try clear c12b1
         try clear c12n1
         try clear c13
         try clear c17
         try clear c17b0
         try clear c17b1
         try clear c19
         try clear c19b0
         try clear c19b1
         try clear c20
         try clear c20b0
         try clear c20b1
         try clear c21
         try clear hx1045_0
         try clear p1045
         try clear p2
         try clear q1045
         obtain ⟨x8_3, x11_3, rfl, HA, HK3, HO_7, HO_8, HB⟩ := hrel
         cases gk with
         | zero => exact absurd HA.out (by simp [spec_l30Search.l1])
         | succ k3 =>
          have H := HA.out
          clear HA
          simp only [spec_l30Search.l1] at H
          have HC27 := Aside0.mk H
          clear H
          go_upto_region 14 with (fail)
          go_cut [52] (fun v52 wc => ∃ (kq : Nat) (x52_26 : Bool), v52 = .bool x52_26 ∧ Aside0 (spec_l30Search.j3 kq a0 l1 a2 x7_8 x8_3 x9_1 x11_3 x52_26 = some r) ∧ Aside0 (kq ≤ k3) ∧ Aside0 (Kd.R (Kd.int .i64) 3 wc w.heap.size (fun k_ => some k_ ≠ (u8 : Value).ownBlock) u7 x7_8) ∧ Aside0 (Kd.R (Kd.int .i64) 3 wc w.heap.size (fun k_ => some k_ ≠ (u7 : Value).ownBlock) u8 x8_3) ∧ Aside0 (Below w.heap.size w wc))
          case first =>
           have H := HC27.out
           clear HC27
           by_cases c28 : (x8_3.length : Int) > 0
           ·rw [if_pos c28] at H
            have c28b0 : decide (0 < (x8_3.length : Int)) = true := decide_eq_true c28
            have c28b1 : decide (0 < x8_3.length) = true := decide_eq_true (by omega)
            clear c28
            (first | rw [c28b0] | (simp only [i64_w, i32_w]; rw [c28b0]) | skip)
            have H' := Aside0.mk H
            clear H
            obtain ⟨Ao29, co29, eo29⟩ := Kd.R_slice HO_8.out
            subst eo29
            go_wp2
            go_meet
            case rel => exact ⟨_, (!x11_3), (by first | rfl | (simp; done) | (simp [*]; done)), H', ⟨by have := HK1.out; have := HJ8.out; have := HK3.out; first | omega | exact Nat.le_refl _⟩, ⟨by (with_reducible repeat (first | apply Kd.R_alloc | apply Kd.R_drewN | apply Kd.R_drew)); exact HO_7.out⟩, ⟨by (with_reducible repeat (first | apply Kd.R_alloc | apply Kd.R_drewN | apply Kd.R_drew)); exact HO_8.out⟩, ⟨by repeat (first | (with_reducible first | exact HB.out | apply below_alloc | apply pw_below_drewN | apply below_drew1) | exact HB.out)⟩⟩
           ·rw [if_neg c28] at H
            have c28b0 : decide (0 < (x8_3.length : Int)) = false := decide_eq_false c28
            have c28b1 : decide (0 < x8_3.length) = false := decide_eq_false (by omega)
            clear c28
            (first | rw [c28b0] | (simp only [i64_w, i32_w]; rw [c28b0]) | skip)
            have H' := Aside0.mk H
            clear H
            obtain ⟨Ao30, co30, eo30⟩ := Kd.R_slice HO_8.out
            subst eo30
            go_wp2
            go_meet
            case rel => exact ⟨_, (false), (by first | rfl | (simp; done) | (simp [*]; done)), H', ⟨by have := HK1.out; have := HJ8.out; have := HK3.out; first | omega | exact Nat.le_refl _⟩, ⟨by (with_reducible repeat (first | apply Kd.R_alloc | apply Kd.R_drewN | apply Kd.R_drew)); exact HO_7.out⟩, ⟨by (with_reducible repeat (first | apply Kd.R_alloc | apply Kd.R_drewN | apply Kd.R_drew)); exact HO_8.out⟩, ⟨by repeat (first | (with_reducible first | exact HB.out | apply below_alloc | apply pw_below_drewN | apply below_drew1) | exact HB.out)⟩⟩
          case rest =>
           clear HC27
           try clear c1
           try clear p1
           try clear q1
           try clear hx1
           try clear qi1
           try clear c2
           try clear p2
           try clear p6
           try clear c8
           try clear c8b0
           try clear c10
           try clear p10
           try clear q10
           try clear hx10
           try clear qi10
           try clear c11
           try clear c12
           try clear c12b0
           try clear c12n0
           try clear c12b1
           try clear c12n1
           try clear c13
           try clear c17
           try clear c17b0
           try clear c17b1
           try clear c19
           try clear c19b0
           try clear c19b1
           try clear c20
           try clear c20b0
           try clear c20b1
           try clear c21
           try clear c28
           try clear c28b0
           try clear c28b1
           try clear hx1045_0
           try clear p1
           try clear p10
           try clear p1045
           try clear p2
           try clear p6
           try clear q1
           try clear q10
           try clear q1045
           obtain ⟨kq, x52_26, rfl, HA, HJ26, HO_7, HO_8, HB⟩ := hcut
           cases kq with
           | zero => exact absurd HA.out (by simp [spec_l30Search.j3])
           | succ kj26 =>
            have H := HA.out
            clear HA
            simp only [spec_l30Search.j3] at H
            by_cases c31 : x52_26 = true
            ·subst c31
             have H1 : (if 0 ≤ (wrap64 ((x8_3.length : Int) - 1)) then (if (wrap64 ((x8_3.length : Int) - 1)) < (x8_3.length : Int) then (if (wrap64 ((x8_3.length : Int) - 1)) ≤ (x8_3.length : Int) then ((some (x8_3.take ((wrap64 ((x8_3.length : Int) - 1)) : Int).toNat : List Int)).bind fun y1050 => ((spec_l30Next.f kj26 y1050 a0 l1).bind fun t1053 => (spec_l30Search.l2 kj26 a0 l1 a2 x7_8 y1050 x9_1 t1053 x11_3 (rd x8_3 (wrap64 ((x8_3.length : Int) - 1))) 0))) else (none)) else (none)) else (none)) = some r := by rw [if_pos rfl] at H; exact H
             clear H
             have H := H1
             clear H1
             obtain ⟨ji32, hji32⟩ : ∃ j_ : Int, (wrap64 ((x8_3.length : Int) - 1)) = j_ := ⟨_, rfl⟩
             replace H : (if 0 ≤ (ji32) then (if (ji32) < (x8_3.length : Int) then (if (ji32) ≤ (x8_3.length : Int) then ((some (x8_3.take ((ji32) : Int).toNat : List Int)).bind fun y1050 => ((spec_l30Next.f kj26 y1050 a0 l1).bind fun t1053 => (spec_l30Search.l2 kj26 a0 l1 a2 x7_8 y1050 x9_1 t1053 x11_3 (rd x8_3 (ji32)) 0))) else (none)) else (none)) else (none)) = some r := by first | (rw [hji32] at H; exact H) | (simp only [hji32] at H ⊢; exact H)
             have hji32w : (IntKind.i64.wrap ((x8_3.length : Int) - 1)) = ji32 := (i64_w _).trans hji32
             by_cases c33 : 0 ≤ (ji32)
             ·rw [if_pos c33] at H
              have c33b0 : decide (0 ≤ (ji32)) = true := decide_eq_true c33
              clear c33
              by_cases c34 : (ji32) < (x8_3.length : Int)
              ·rw [if_pos c34] at H
               have c34b0 : decide ((ji32) < (x8_3.length : Int)) = true := decide_eq_true c34
               clear c34
               by_cases c35 : (ji32) ≤ (x8_3.length : Int)
               ·rw [if_pos c35] at H
                have c35b0 := eq_true c35
                have c35b1 : decide ((ji32) ≤ (x8_3.length : Int)) = true := decide_eq_true c35
                clear c35
                obtain ⟨y1050, hy1050⟩ : ∃ y_ : List Int, y_ = (x8_3.take ((ji32) : Int).toNat) := ⟨_, rfl⟩
                replace H : ((spec_l30Next.f kj26 y1050 a0 l1).bind fun t1053 => (spec_l30Search.l2 kj26 a0 l1 a2 x7_8 y1050 x9_1 t1053 x11_3 (rd x8_3 (ji32)) 0)) = some r := by first | (rw [hy1050]; with_reducible exact H) | (have H2_ := (Option.bind_some _ _).symm.trans H; rw [hy1050]; with_reducible exact H2_) | (have H2_ := (Option.bind_some _ _).symm.trans H; with_reducible exact H2_) | with_reducible exact H | (rw [hy1050]; exact H) | exact H
                have Ny1050 := Aside0.mk hy1050
                clear hy1050
                replace H := Option.bind_eq_some_iff.mp H
                obtain ⟨t1053, A360, H⟩ := H
                replace H : (spec_l30Search.l2 kj26 a0 l1 a2 x7_8 y1050 x9_1 t1053 x11_3 (rd x8_3 (ji32)) 0) = some r := H
                have A36 := Aside0.mk A360
                clear A360
                have H' := Aside0.mk H
                clear H
                obtain ⟨Ao37, co37, eo37⟩ := Kd.R_slice HO_8.out
                subst eo37
                have p1049 : 0 ≤ ((ji32) : Int) := of_decide_eq_true (by first | (with_reducible assumption) | assumption)
                have q1049 : (ji32) < (x8_3.length : Int) := of_decide_eq_true (by first | (with_reducible assumption) | assumption)
                obtain ⟨ad1049, e1049, hx1049_0⟩ := Kd.at_int (Kd.R_reads' HO_8.out).2.2 (ji32) p1049 q1049
                cases e1049
                replace p1049 := eq_true p1049
                replace q1049 := eq_true q1049
                have q38 : ((ji32) : Int) ≤ ((x8_3.length : Int) : Int) := of_decide_eq_true (by first | (with_reducible assumption) | assumption)
                obtain ⟨i038, hi038, _, hsz38, _⟩ := info_parts info3
                have hcut38 := cut_to (P := Try.prog) 22 3 .i64 Try.underlying22 hi038 (some ad1049) x8_3.length co37 (ji32) (of_decide_eq_true (by first | (with_reducible assumption) | assumption)) q38 (Kd.R_reads' HO_8.out).2.1
                have hr38 := Kd.R_take (m := ((ji32) : Int).toNat) HO_8.out (by omega)
                have hy38 : y1050.length = ((ji32) : Int).toNat := (by rw [Ny1050.out, List.length_take]; omega)
                rw [← Ny1050.out] at hr38
                rw [← hy38] at hr38 hcut38
                clear hy38 hi038 hsz38 HO_8
                have HO1052 := Aside0.mk hr38
                clear hr38
                replace q38 := eq_true q38
                go_wp2_with (first | ((with_reducible refine gate_callee (f := 107) rfl ?_); refine goesL_ (some 67) rfl rfl Try.func107 (by kernel_rfl) rfl #[.slice (some ad1049) y1050.length co37, .int .i64 a0, .slice A1 l1.length c1] rfl (by (try simp only [List.map_toArray, List.map_cons, List.map_nil]); first | done | rfl | (simp only [List.length_drop, List.length_take]; rfl)) ?_; (with_reducible refine (spec_l30Next.calls kj26 _ _ y1050 a0 _ _ l1 t1053 _ ?side1 ?side2 ?side3 ?side4 A36.out).mono ?_); (case side1 => repeat (first | exact (Kd.R_reads' HO1052.out).2.2 | (with_reducible refine Kd.C_alloc ?_ _) | (with_reducible refine Kd.C_drewN ?_ _) | (with_reducible refine Kd.C_drew ?_))); (case side2 => exact (Kd.R_reads' HO1052.out).2.1); (case side3 => repeat (first | exact (Kd.C_below HR1.out HB.out) | (with_reducible refine Kd.C_alloc ?_ _) | (with_reducible refine Kd.C_drewN ?_ _) | (with_reducible refine Kd.C_drew ?_))); (case side4 => exact HC1.out); rintro e w39 ⟨v1054, rfl, ho0, hb⟩; refine ⟨_, rfl, ?_⟩; have n0_ := Aside0.mk (Kd.R_elder' (by (with_reducible repeat (first | apply Kd.R_alloc | apply Kd.R_drewN | apply Kd.R_drew)); exact HO_7.out) (Kd.R_base ho0) hb); have n1_ := Aside0.mk (Kd.R_elder' (by (with_reducible repeat (first | apply Kd.R_alloc | apply Kd.R_drewN | apply Kd.R_drew)); exact HO1052.out) (Kd.R_base ho0) hb); have n2_ := Aside0.mk (Kd.R_lower (Kd.R_new' (Kd.R_new' ho0 (Kd.R_lt (by (with_reducible repeat (first | apply Kd.R_alloc | apply Kd.R_drewN | apply Kd.R_drew)); exact HO_7.out))) (Kd.R_lt (by (with_reducible repeat (first | apply Kd.R_alloc | apply Kd.R_drewN | apply Kd.R_drew)); exact HO1052.out))) (below_size (by repeat (first | (with_reducible first | exact HB.out | apply below_alloc | apply pw_below_drewN | apply below_drew1) | exact HB.out)))); have n3_ := Aside0.mk (below_step (by repeat (first | (with_reducible first | exact HB.out | apply below_alloc | apply pw_below_drewN | apply below_drew1) | exact HB.out)) hb); clear HO_7; clear HO1052; clear HB; have HO_7 := n0_; have HO1052 := n1_; have HO1055 := n2_; have HB := n3_; clear n0_ n1_ n2_ n3_; (try clear hb); (try clear hb2); (try clear hk); (try clear hi); (try clear ho0)))
                go_loopg [8, 11, 13] kj26 (fun kq v8 v11 v13 w' => ∃ (x8_5 : List Int) (x11_5 : Bool) (x13_5 : Int), v11 = .bool x11_5 ∧ v13 = .int .i64 x13_5 ∧ Aside0 (spec_l30Search.l2 kq a0 l1 a2 x7_8 x8_5 x9_1 t1053 x11_5 (rd x8_3 (ji32)) x13_5 = some r) ∧ Aside0 (kq ≤ kj26) ∧ Aside0 (Kd.R (Kd.int .i64) 3 w' w.heap.size (fun k_ => some k_ ≠ (v8 : Value).ownBlock ∧ some k_ ≠ (v1054 : Value).ownBlock) u7 x7_8) ∧ Aside0 (Kd.R (Kd.int .i64) 3 w' w.heap.size (fun k_ => some k_ ≠ (u7 : Value).ownBlock ∧ some k_ ≠ (v1054 : Value).ownBlock) v8 x8_5) ∧ Aside0 (Kd.R (Kd.int .i64) 3 w' w.heap.size (fun k_ => some k_ ≠ (u7 : Value).ownBlock ∧ some k_ ≠ (v8 : Value).ownBlock) v1054 t1053) ∧ Aside0 (Below w.heap.size w w'))
                case atStart => exact ⟨(y1050), (x11_3), (0), (by first | rfl | (simp; done) | (simp [*]; done)), (by first | rfl | (simp; done) | (simp [*]; done)), H', ⟨Nat.le_refl _⟩, ⟨by (with_reducible repeat (first | apply Kd.R_alloc | apply Kd.R_drewN | apply Kd.R_drew)); exact HO_7.out⟩, ⟨by (with_reducible repeat (first | apply Kd.R_alloc | apply Kd.R_drewN | apply Kd.R_drew)); exact HO1052.out⟩, ⟨by (with_reducible repeat (first | apply Kd.R_alloc | apply Kd.R_drewN | apply Kd.R_drew)); exact Kd.R_mono HO1055.out (fun _ hk => ⟨hk.1.2, hk.2⟩)⟩, ⟨by repeat (first | (with_reducible first | exact HB.out | apply below_alloc | apply pw_below_drewN | apply below_drew1) | exact HB.out)⟩⟩
                case round =>
                 clear H'
                 try clear c1
                 try clear p1
                 try clear q1
                 try clear hx1
                 try clear qi1
                 try clear c2
                 try clear p2
                 try clear c3
                 try clear q3
                 try clear p6
                 try clear c8
                 try clear c8b0
                 try clear c10
                 try clear p10
                 try clear q10
                 try clear hx10
                 try clear qi10
                 try clear c11
                 try clear c12
                 try clear c12b0
                 try clear c12n0
                 try clear c12b1
                 try clear c12n1
                 try clear c13
                 try clear c17
                 try clear c17b0
                 try clear c17b1
                 try clear c19
                 try clear c19b0
                 try clear c19b1
                 try clear c20
                 try clear c20b0
                 try clear c20b1
                 try clear c21
                 try clear c28
                 try clear c28b0
                 try clear c28b1
                 try clear c31
                 try clear c33
                 try clear c33b0
                 try clear c34
                 try clear c34b0
                 try clear c35
                 try clear c35b0
                 try clear c35b1
                 try clear q38
                 try clear hx1045_0
                 try clear hx1049_0
                 try clear p1
                 try clear p10
                 try clear p1045
                 try clear p1049
                 try clear p2
                 try clear p6
                 try clear q1
                 try clear q10
                 try clear q1045
                 try clear q1049
                 try clear q38
                 obtain ⟨x8_5, x11_5, x13_5, rfl, rfl, HA, HK5, HO_7, HO_8, HO_10, HB⟩ := hrel
                 cases gk with
                 | zero => exact absurd HA.out (by simp [spec_l30Search.l2])
                 | succ k5 =>
                  have H := HA.out
                  clear HA
                  simp only [spec_l30Search.l2] at H
                  have HC40 := Aside0.mk H
                  clear H
                  go_upto_region 19 with (fail)
                  go_cut [75] (fun v75 wc => ∃ (kq : Nat) (x75_39 : Bool), v75 = .bool x75_39 ∧ Aside0 (spec_l30Search.j5 kq a0 l1 a2 x7_8 x8_5 x9_1 t1053 x11_5 (rd x8_3 (ji32)) x13_5 x75_39 = some r) ∧ Aside0 (kq ≤ k5) ∧ Aside0 (Kd.R (Kd.int .i64) 3 wc w.heap.size (fun k_ => some k_ ≠ (u8 : Value).ownBlock ∧ some k_ ≠ (v1054 : Value).ownBlock) u7 x7_8) ∧ Aside0 (Kd.R (Kd.int .i64) 3 wc w.heap.size (fun k_ => some k_ ≠ (u7 : Value).ownBlock ∧ some k_ ≠ (v1054 : Value).ownBlock) u8 x8_5) ∧ Aside0 (Kd.R (Kd.int .i64) 3 wc w.heap.size (fun k_ => some k_ ≠ (u7 : Value).ownBlock ∧ some k_ ≠ (u8 : Value).ownBlock) v1054 t1053) ∧ Aside0 (Below w.heap.size w wc))
                  case first =>
                   have H := HC40.out
                   clear HC40
                   by_cases c41 : x13_5 < (t1053.length : Int)
                   ·rw [if_pos c41] at H
                    have c41b0 : decide (x13_5 < (t1053.length : Int)) = true := decide_eq_true c41
                    clear c41
                    (first | rw [c41b0] | (simp only [i64_w, i32_w]; rw [c41b0]) | skip)
                    have H' := Aside0.mk H
                    clear H
                    obtain ⟨Ao42, co42, eo42⟩ := Kd.R_slice HO_10.out
                    subst eo42
                    go_wp2
                    go_meet
                    case rel => exact ⟨_, (!x11_5), (by first | rfl | (simp; done) | (simp [*]; done)), H', ⟨by have := HK1.out; have := HJ8.out; have := HK3.out; have := HJ26.out; have := HK5.out; first | omega | exact Nat.le_refl _⟩, ⟨by (with_reducible repeat (first | apply Kd.R_alloc | apply Kd.R_drewN | apply Kd.R_drew)); exact HO_7.out⟩, ⟨by (with_reducible repeat (first | apply Kd.R_alloc | apply Kd.R_drewN | apply Kd.R_drew)); exact HO_8.out⟩, ⟨by (with_reducible repeat (first | apply Kd.R_alloc | apply Kd.R_drewN | apply Kd.R_drew)); exact HO_10.out⟩, ⟨by repeat (first | (with_reducible first | exact HB.out | apply below_alloc | apply pw_below_drewN | apply below_drew1) | exact HB.out)⟩⟩
                   ·rw [if_neg c41] at H
                    have c41b0 : decide (x13_5 < (t1053.length : Int)) = false := decide_eq_false c41
                    clear c41
                    (first | rw [c41b0] | (simp only [i64_w, i32_w]; rw [c41b0]) | skip)
                    have H' := Aside0.mk H
                    clear H
                    obtain ⟨Ao43, co43, eo43⟩ := Kd.R_slice HO_10.out
                    subst eo43
                    go_wp2
                    go_meet
                    case rel => exact ⟨_, (false), (by first | rfl | (simp; done) | (simp [*]; done)), H', ⟨by have := HK1.out; have := HJ8.out; have := HK3.out; have := HJ26.out; have := HK5.out; first | omega | exact Nat.le_refl _⟩, ⟨by (with_reducible repeat (first | apply Kd.R_alloc | apply Kd.R_drewN | apply Kd.R_drew)); exact HO_7.out⟩, ⟨by (with_reducible repeat (first | apply Kd.R_alloc | apply Kd.R_drewN | apply Kd.R_drew)); exact HO_8.out⟩, ⟨by (with_reducible repeat (first | apply Kd.R_alloc | apply Kd.R_drewN | apply Kd.R_drew)); exact HO_10.out⟩, ⟨by repeat (first | (with_reducible first | exact HB.out | apply below_alloc | apply pw_below_drewN | apply below_drew1) | exact HB.out)⟩⟩
                  case rest =>
                   clear HC40
                   try clear c1
                   try clear p1
                   try clear q1
                   try clear hx1
                   try clear qi1
                   try clear c2
                   try clear p2
                   try clear c3
                   try clear q3
                   try clear c4
                   try clear p6
                   try clear c8
                   try clear c8b0
                   try clear c10
                   try clear p10
                   try clear q10
                   try clear hx10
                   try clear qi10
                   try clear c11
                   try clear c12
                   try clear c12b0
                   try clear c12n0
                   try clear c12b1
                   try clear c12n1
                   try clear c13
                   try clear c17
                   try clear c17b0
                   try clear c17b1
                   try clear c19
                   try clear c19b0
                   try clear c19b1
                   try clear c20
                   try clear c20b0
                   try clear c20b1
                   try clear c21
                   try clear c28
                   try clear c28b0
                   try clear c28b1
                   try clear c31
                   try clear c33
                   try clear c33b0
                   try clear c34
                   try clear c34b0
                   try clear c35
                   try clear c35b0
                   try clear c35b1
                   try clear q38
                   try clear c41
                   try clear c41b0
                   try clear hx1045_0
                   try clear hx1049_0
                   try clear p1
                   try clear p10
                   try clear p1045
                   try clear p1049
                   try clear p2
                   try clear p6
                   try clear q1
                   try clear q10
                   try clear q1045
                   try clear q1049
                   try clear q3
                   try clear q38
                   obtain ⟨kq, x75_39, rfl, HA, HJ39, HO_7, HO_8, HO_10, HB⟩ := hcut
                   cases kq with
                   | zero => exact absurd HA.out (by simp [spec_l30Search.j5])
                   | succ kj39 =>
                    have H := HA.out
                    clear HA
                    simp only [spec_l30Search.j5] at H
                    by_cases c44 : x75_39 = true
                    ·subst c44
                     have H1 : (if 0 ≤ x13_5 then (if x13_5 < (t1053.length : Int) then (if (rd t1053 x13_5) > (rd x8_3 (ji32)) then (if x8_5.length < 17592186044416 then (spec_l30Search.l2 kj39 a0 l1 a2 x7_8 (x8_5 ++ [rd t1053 x13_5]) x9_1 t1053 true (rd x8_3 (ji32)) (wrap64 (x13_5 + 1))) else (none)) else (spec_l30Search.l2 kj39 a0 l1 a2 x7_8 x8_5 x9_1 t1053 x11_5 (rd x8_3 (ji32)) (wrap64 (x13_5 + 1)))) else (none)) else (none)) = some r := by rw [if_pos rfl] at H; exact H
                     clear H
                     have H := H1
                     clear H1
                     by_cases c45 : 0 ≤ x13_5
                     ·rw [if_pos c45] at H
                      have c45b0 : decide (0 ≤ x13_5) = true := decide_eq_true c45
                      clear c45
                      by_cases c46 : x13_5 < (t1053.length : Int)
                      ·rw [if_pos c46] at H
                       have c46b0 : decide (x13_5 < (t1053.length : Int)) = true := decide_eq_true c46
                       clear c46
                       by_cases c47 : (rd t1053 x13_5) > (rd x8_3 (ji32))
                       ·rw [if_pos c47] at H
                        have c47b0 : decide ((rd x8_3 (ji32)) < (rd t1053 x13_5)) = true := decide_eq_true c47
                        clear c47
                        by_cases c48 : x8_5.length < 17592186044416
                        ·rw [if_pos c48] at H
                         have LMc48 := Aside0.mk c48
                         clear c48
                         obtain ⟨y1058, hy1058⟩ : ∃ y_ : List Int, y_ = (x8_5 ++ [rd t1053 x13_5]) := ⟨_, rfl⟩
                         replace H : (spec_l30Search.l2 kj39 a0 l1 a2 x7_8 y1058 x9_1 t1053 true (rd x8_3 (ji32)) (wrap64 (x13_5 + 1))) = some r := by first | (rw [hy1058]; with_reducible exact H) | (have H2_ := (Option.bind_some _ _).symm.trans H; rw [hy1058]; with_reducible exact H2_) | (have H2_ := (Option.bind_some _ _).symm.trans H; with_reducible exact H2_) | with_reducible exact H | (rw [hy1058]; exact H) | exact H
                         have Ny1058 := Aside0.mk hy1058
                         clear hy1058
                         have H' := Aside0.mk H
                         clear H
                         obtain ⟨Ao49, co49, eo49⟩ := Kd.R_slice HO_10.out
                         subst eo49
                         have p1056 : 0 ≤ (x13_5 : Int) := of_decide_eq_true (by first | (with_reducible assumption) | assumption)
                         have q1056 : x13_5 < (t1053.length : Int) := of_decide_eq_true (by first | (with_reducible assumption) | assumption)
                         obtain ⟨ad1056, e1056, hx1056_0⟩ := Kd.at_int (Kd.R_reads' HO_10.out).2.2 x13_5 p1056 q1056
                         cases e1056
                         replace p1056 := eq_true p1056
                         replace q1056 := eq_true q1056
                         have p1057 : 0 ≤ (x13_5 : Int) := of_decide_eq_true (by first | (with_reducible assumption) | assumption)
                         have q1057 : x13_5 < (t1053.length : Int) := of_decide_eq_true (by first | (with_reducible assumption) | assumption)
                         obtain ⟨ad1057, e1057, hx1057_0⟩ := Kd.at_int (Kd.R_reads' HO_10.out).2.2 x13_5 p1057 q1057
                         obtain rfl : ad1056 = ad1057 := (by injection e1057)
                         replace p1057 := eq_true p1057
                         replace q1057 := eq_true q1057
                         go_wp2_with (first | ((with_reducible refine gate_builtin (b := .append) (xs := #[.tmp 84, .tmp 89]) rfl ?_); at_builtin; refine Kd.R_append (Kd.int .i64) (w0 := w) w.heap.size rfl (.tmp 84) (.tmp 89) 22 3 (.int .i64 0) 8 rfl Try.underlying22 info3 rfl (by decide) (by omega) u8 x8_5 (rd t1053 x13_5) [.int .i64 (rd t1053 x13_5)] (fun k_ => some k_ ≠ (u7 : Value).ownBlock ∧ some k_ ≠ (.slice (some ad1056) t1053.length co49 : Value).ownBlock) (fun _ => False) rfl rfl ?aP (fun _ hk => hk.elim) ?aF ?aO ?aB ?aS ?aL ?_; (case aP => exact rfl); (case aB => exact (by repeat (first | (with_reducible first | exact HB.out | apply below_alloc | apply pw_below_drewN | apply below_drew1) | exact HB.out))); (case aF => exact (fun k_ hk => ⟨Kd.fresh' (Kd.R_lt (by (with_reducible repeat (first | apply Kd.R_alloc | apply Kd.R_drewN | apply Kd.R_drew)); exact HO_7.out)) k_ hk, Kd.fresh' (Kd.R_lt (by (with_reducible repeat (first | apply Kd.R_alloc | apply Kd.R_drewN | apply Kd.R_drew)); exact HO_10.out)) k_ hk⟩)); (case aO => exact (by (with_reducible repeat (first | apply Kd.R_alloc | apply Kd.R_drewN | apply Kd.R_drew)); exact HO_8.out)); (case aS => exact (below_size (by repeat (first | (with_reducible first | exact HB.out | apply below_alloc | apply pw_below_drewN | apply below_drew1) | exact HB.out)))); (case aL => have := LMc48.out; omega); intro v1059 w50 ho hb hg hat; rw [← Ny1058.out] at ho; have n0_ := Aside0.mk (Kd.R_after (ok := (fun k_ => some k_ ≠ (.slice (some ad1056) t1053.length co49 : Value).ownBlock)) (by (with_reducible repeat (first | apply Kd.R_alloc | apply Kd.R_drewN | apply Kd.R_drew)); exact Kd.R_mono HO_7.out (fun _ hk => ⟨hk.2, hk.1⟩)) hg hat); have n1_ := Aside0.mk (Kd.R_after (ok := (fun k_ => some k_ ≠ (u7 : Value).ownBlock)) (by (with_reducible repeat (first | apply Kd.R_alloc | apply Kd.R_drewN | apply Kd.R_drew)); exact HO_10.out) hg hat); have n2_ := Aside0.mk (hb); have n3_ := Aside0.mk (ho); clear HO_7; clear HO_10; clear HB; clear HO_8; have HO_7 := n0_; have HO_10 := n1_; have HB := n2_; have HO1060 := n3_; clear n0_ n1_ n2_ n3_; clear ho hb hg hat))
                         go_roundg kj39
                         case measure => have := HK1.out; have := HJ8.out; have := HK3.out; have := HJ26.out; have := HK5.out; have := HJ39.out; omega
                         case rel => exact ⟨(y1058), (true), (wrap64 (x13_5 + 1)), (by first | rfl | (simp; done) | (simp [*]; done)), (by first | rfl | (simp; done) | (simp [*]; done)), H', ⟨by have := HK1.out; have := HJ8.out; have := HK3.out; have := HJ26.out; have := HK5.out; have := HJ39.out; omega⟩, ⟨by (with_reducible repeat (first | apply Kd.R_alloc | apply Kd.R_drewN | apply Kd.R_drew)); exact Kd.R_mono HO_7.out (fun _ hk => ⟨hk.2, hk.1⟩)⟩, ⟨by (with_reducible repeat (first | apply Kd.R_alloc | apply Kd.R_drewN | apply Kd.R_drew)); exact HO1060.out⟩, ⟨by (with_reducible repeat (first | apply Kd.R_alloc | apply Kd.R_drewN | apply Kd.R_drew)); exact HO_10.out⟩, ⟨by repeat (first | (with_reducible first | exact HB.out | apply below_alloc | apply pw_below_drewN | apply below_drew1) | exact HB.out)⟩⟩
                        ·rw [if_neg c48] at H
                         exact absurd H (by simp)
                       ·rw [if_neg c47] at H
                        have c47b0 : decide ((rd x8_3 (ji32)) < (rd t1053 x13_5)) = false := decide_eq_false c47
                        clear c47
                        have H' := Aside0.mk H
                        clear H
                        obtain ⟨Ao51, co51, eo51⟩ := Kd.R_slice HO_10.out
                        subst eo51
                        have p1056 : 0 ≤ (x13_5 : Int) := of_decide_eq_true (by first | (with_reducible assumption) | assumption)
                        have q1056 : x13_5 < (t1053.length : Int) := of_decide_eq_true (by first | (with_reducible assumption) | assumption)
                        obtain ⟨ad1056, e1056, hx1056_0⟩ := Kd.at_int (Kd.R_reads' HO_10.out).2.2 x13_5 p1056 q1056
                        cases e1056
                        replace p1056 := eq_true p1056
                        replace q1056 := eq_true q1056
                        go_wp2
                        go_roundg kj39
                        case measure => have := HK1.out; have := HJ8.out; have := HK3.out; have := HJ26.out; have := HK5.out; have := HJ39.out; omega
                        case rel => exact ⟨(x8_5), (x11_5), (wrap64 (x13_5 + 1)), (by first | rfl | (simp; done) | (simp [*]; done)), (by first | rfl | (simp; done) | (simp [*]; done)), H', ⟨by have := HK1.out; have := HJ8.out; have := HK3.out; have := HJ26.out; have := HK5.out; have := HJ39.out; omega⟩, ⟨by (with_reducible repeat (first | apply Kd.R_alloc | apply Kd.R_drewN | apply Kd.R_drew)); exact HO_7.out⟩, ⟨by (with_reducible repeat (first | apply Kd.R_alloc | apply Kd.R_drewN | apply Kd.R_drew)); exact HO_8.out⟩, ⟨by (with_reducible repeat (first | apply Kd.R_alloc | apply Kd.R_drewN | apply Kd.R_drew)); exact HO_10.out⟩, ⟨by repeat (first | (with_reducible first | exact HB.out | apply below_alloc | apply pw_below_drewN | apply below_drew1) | exact HB.out)⟩⟩
                      ·rw [if_neg c46] at H
                       exact absurd H (by simp)
                     ·rw [if_neg c45] at H
                      exact absurd H (by simp)
                    ·replace c44 := Bool.eq_false_iff.mpr c44
                     subst c44
                     have H1 : (spec_l30Search.l1 kj39 a0 l1 a2 x7_8 x8_5 x9_1 x11_5) = some r := by rw [if_neg (show ¬ (false = true) by decide)] at H; exact H
                     clear H
                     have H := H1
                     clear H1
                     have H' := Aside0.mk H
                     clear H
                     go_wp2
                     go_roundg kj39
                     case measure => have := HK1.out; have := HJ8.out; have := HK3.out; have := HJ26.out; have := HK5.out; have := HJ39.out; omega
                     case rel => exact ⟨(x8_5), (x11_5), (by first | rfl | (simp; done) | (simp [*]; done)), H', ⟨by have := HK1.out; have := HJ8.out; have := HK3.out; have := HJ26.out; have := HK5.out; have := HJ39.out; omega⟩, ⟨by (with_reducible repeat (first | apply Kd.R_alloc | apply Kd.R_drewN | apply Kd.R_drew)); exact Kd.R_mono HO_7.out (fun _ hk => hk.1)⟩, ⟨by (with_reducible repeat (first | apply Kd.R_alloc | apply Kd.R_drewN | apply Kd.R_drew)); exact Kd.R_mono HO_8.out (fun _ hk => hk.1)⟩, ⟨by repeat (first | (with_reducible first | exact HB.out | apply below_alloc | apply pw_below_drewN | apply below_drew1) | exact HB.out)⟩⟩
               ·rw [if_neg c35] at H
                exact absurd H (by simp)
              ·rw [if_neg c34] at H
               exact absurd H (by simp)
             ·rw [if_neg c33] at H
              exact absurd H (by simp)
            ·replace c31 := Bool.eq_false_iff.mpr c31
             subst c31
             have H1 : (if x11_3 = true then (spec_l30Search.l0 kj26 a0 l1 a2 x7_8 x8_3 (wrap64 (x9_1 + 1))) else (some x7_8)) = some r := by rw [if_neg (show ¬ (false = true) by decide)] at H; exact H
             clear H
             have H := H1
             clear H1
             by_cases c52 : x11_3 = true
             ·subst c52
              have H1 : (spec_l30Search.l0 kj26 a0 l1 a2 x7_8 x8_3 (wrap64 (x9_1 + 1))) = some r := by rw [if_pos rfl] at H; exact H
              clear H
              have H := H1
              clear H1
              have H' := Aside0.mk H
              clear H
              go_wp2
              go_roundg kj26
              case measure => have := HK1.out; have := HJ8.out; have := HK3.out; have := HJ26.out; omega
              case rel => exact ⟨(x7_8), (x8_3), (wrap64 (x9_1 + 1)), (by first | rfl | (simp; done) | (simp [*]; done)), H', ⟨by have := HK1.out; have := HJ8.out; have := HK3.out; have := HJ26.out; omega⟩, ⟨by (with_reducible repeat (first | apply Kd.R_alloc | apply Kd.R_drewN | apply Kd.R_drew)); exact HO_7.out⟩, ⟨by (with_reducible repeat (first | apply Kd.R_alloc | apply Kd.R_drewN | apply Kd.R_drew)); exact HO_8.out⟩, ⟨by repeat (first | (with_reducible first | exact HB.out | apply below_alloc | apply pw_below_drewN | apply below_drew1) | exact HB.out)⟩⟩
             ·replace c52 := Bool.eq_false_iff.mpr c52
              subst c52
              have H1 : (some x7_8) = some r := by rw [if_neg (show ¬ (false = true) by decide)] at H; exact H
              clear H
              have H := H1
              clear H1
              obtain rfl := Option.some.inj H
              go_wp2
              go_ret
              exact ⟨_, by first | rfl | (simp [errW_none, errW_some] <;> rfl) | (simp [*, errW_none, errW_some] <;> rfl), by (with_reducible repeat (first | apply Kd.R_alloc | apply Kd.R_drewN | apply Kd.R_drew)); exact Kd.R_mono HO_7.out (fun _ hk => trivial), by repeat (first | (with_reducible first | exact HB.out | apply below_alloc | apply pw_below_drewN | apply below_drew1) | exact HB.out)⟩
   ·rw [if_neg c8] at H
    have c8b0 : decide (x9_1 < 400) = false := decide_eq_false c8
    clear c8
    obtain rfl := Option.some.inj H
    go_wp2
    go_ret
    exact ⟨_, by first | rfl | (simp [errW_none, errW_some] <;> rfl) | (simp [*, errW_none, errW_some] <;> rfl), by (with_reducible repeat (first | apply Kd.R_alloc | apply Kd.R_drewN | apply Kd.R_drew)); exact Kd.R_mono HO_7.out (fun _ hk => trivial), by repeat (first | (with_reducible first | exact HB.out | apply below_alloc | apply pw_below_drewN | apply below_drew1) | exact HB.out)⟩

end Go.Proofs.Ythkkpdgadfhijaa.M
/- Walks for this claim, written by a program of mine over the kit's print. No condition of mine. -/
namespace Go.Proofs.Ythkkpdgadfhijaa.M
open Go.RowKit Go.Proofs.Ythkkpdgadfhijaa.KW Go.Proofs.YthkkpdgadfhijaaW.PrintWords Go.Proofs.YthkkpdgadfhijaaW.PrintLast Go.Proofs.YthkkpdgadfhijaaW.PrintMore
attribute [local go_sem] max2_int min2_int max_two min_two max_three min_three max_four min_four   -- for this text's walks alone
set_option linter.unusedVariables false
set_option linter.unusedSimpArgs false

/-! ### impl_LongestAvoiding: function 51 -/
mutual
def look.f : Nat → Nat → List Int → Int → List Int → Int → List Int → Option (Bool × Int × List Int)
 | 0, _, _, _, _, _, _ => none
 | k + 1, n, p, most, wd, lk, best => if 0 ≤ lk ∧ lk < 400 ∧ wd.length ≤ 1000000 ∧ best.length ≤ 1000000 then (if (wd.length : Int) = most ∨ lk + 1 = 400 then some (true, lk + 1, if best.length < wd.length then wd else best) else look.l0 k n p most wd (lk + 1) (if best.length < wd.length then wd else best) 0) else none
def look.l0 : Nat → Nat → List Int → Int → List Int → Int → List Int → Nat → Option (Bool × Int × List Int)
 | 0, _, _, _, _, _, _, _ => none
 | k + 1, n, p, most, wd, lk, best, a => if a < n then ((impl_AvoidsPattern.f k (wd ++ [(a : Int)]) p).bind fun t => if t = true then ((look.f k n p most (wd ++ [(a : Int)]) lk best).bind fun x => if x.1 = true then some (true, x.2.1, x.2.2) else look.l0 k n p most wd x.2.1 x.2.2 (a + 1)) else look.l0 k n p most wd lk best (a + 1)) else some (false, lk, best)
end
theorem look.mono_l : ∀ k, (∀ y0 y1 y2 y3 y4 y5, LeO (look.f k y0 y1 y2 y3 y4 y5) (look.f (k + 1) y0 y1 y2 y3 y4 y5)) ∧ (∀ y0 y1 y2 y3 y4 y5 y6, LeO (look.l0 k y0 y1 y2 y3 y4 y5 y6) (look.l0 (k + 1) y0 y1 y2 y3 y4 y5 y6))
 | 0 => ⟨fun _ _ _ _ _ _ r h => by simp [look.f] at h, fun _ _ _ _ _ _ _ r h => by simp [look.l0] at h⟩
 | k + 1 => by
  obtain ⟨ih0, ih1⟩ := look.mono_l k
  refine ⟨?_, ?_⟩
  ·intro y0 y1 y2 y3 y4 y5
   unfold look.f
   exact LeO.ite (LeO.ite (LeO.refl _) (ih1 _ _ _ _ _ _ _)) (LeO.refl _)
  ·intro y0 y1 y2 y3 y4 y5 y6
   unfold look.l0
   exact LeO.ite (LeO.bind (impl_AvoidsPattern.mono _ _ k) (fun _ => LeO.ite (LeO.bind (ih0 _ _ _ _ _ _) (fun _ => LeO.ite (LeO.refl _) (ih1 _ _ _ _ _ _ _))) (ih1 _ _ _ _ _ _ _))) (LeO.refl _)
/-- What look leaves: its answer, the state's block, and the rest of memory as it was. -/
def LookPost (w0 W : World) (g n : Nat) (most : Int) (A1 : Option Addr) (c1 pl : Nat) (r : Bool) (lk : Int) (best : List Int) (e : Ending) (W' : World) : Prop :=
 e = .returned (.bool r) ∧ ∃ vb : Value, W'.heap[g]? = some (.cells #[.int .i64 n, .slice A1 pl c1, .int .i64 most, .int .i64 lk, vb] 111 (0, 0)) ∧ Kd.R (Kd.int .i64) 3 W' w0.heap.size (fun k => k ≠ g) vb best ∧ Kept W W' (fun k => k = g) ∧ Below w0.heap.size w0 W'
set_option maxHeartbeats 8000000 in
set_option maxRecDepth 100000 in
theorem look_calls (n : Nat) (most : Int) (A1 : Option Addr) (c1 : Nat) (p : List Int) (w0 : World) (g : Nat) (hn : n ≤ 1000) (hg : w0.heap.size ≤ g) (hc1 : p.length ≤ c1) : ∀ kf (W : World) (vw : Value) (wd : List Int) (lk : Int) (best : List Int) (vb : Value) (r : Bool) (lk' : Int) (best' : List Int), look.f kf n p most wd lk best = some (r, lk', best') →
  W.heap[g]? = some (.cells #[.int .i64 n, .slice A1 p.length c1, .int .i64 most, .int .i64 lk, vb] 111 (0, 0)) → (∀ W', Kept W W' (fun k => k = g) → Kd.C (Kd.int .i64) W' A1 p.length p) → Kd.R (Kd.int .i64) 3 W w0.heap.size (fun k => k ≠ g) vb best → Kd.R (Kd.int .i64) 3 W w0.heap.size (fun k => k ≠ g) vw wd → Below w0.heap.size w0 W →
  Calls Try.prog 113 #[.pointer (some ⟨g, 0, none⟩), vw] W (LookPost w0 W g n most A1 c1 p.length r lk' best') := by
 have HG := Aside0.mk hg
 have HC1 := Aside0.mk hc1
 clear hg hc1
 intro kf
 induction kf using Nat.strongRecOn with
 | ind kf ih =>
  have IH := Aside0.mk ih
  clear ih
  intro W vw wd lk best vb r lk' best' h hG hp hb hw hB
  cases kf with
  | zero => simp [look.f] at h
  | succ kf =>
   unfold look.f at h
   by_cases hb0 : 0 ≤ lk ∧ lk < 400 ∧ wd.length ≤ 1000000 ∧ best.length ≤ 1000000
   ·rw [if_pos hb0] at h
    obtain ⟨hl0, hl1, hwl, hbl⟩ := hb0
    obtain ⟨Aw, cw, rfl⟩ := Kd.R_slice hw
    obtain ⟨Ab, cb, rfl⟩ := Kd.R_slice hb
    have HGC := Aside0.mk hG
    have HP := Aside0.mk hp
    have HBE := Aside0.mk hb
    have HW := Aside0.mk hw
    have HB := Aside0.mk hB
    have H := Aside0.mk h
    have hz0 : W.cell? ⟨g, 0, none⟩ = some (.int .i64 n) := (blk_cell hG 0).trans rfl
    have hz3 : W.cell? ⟨g, 3, none⟩ = some (.int .i64 lk) := (blk_cell hG 3).trans rfl
    have hf3 := blk_frozen hG 3
    clear hG hp hb hw hB h
    have hu := Try.underlying111
    go_enter Try.func113, Try.ntmps113
    go_wp2_with ((with_reducible refine gate_store (t := 3) (p := 13) rfl ?_); refine Aside0.out ?_)
    refine Aside0.mk ?_
    refine store_event (t := 3) (p := 13) (v := ?vo) (w1 := (W.setCell ⟨g, 3, none⟩ (.int .i64 (lk + 1)))) ?hg ?ho ?hn ?hr ?_
    case ho => rfl
    case hg => rfl
    case hn => rfl
    case hr => first | (go_simp; done) | (go_simp; rfl)
    intro w1 hw1
    have HG1 := Aside0.mk (show w1.heap[g]? = some (.cells #[.int .i64 n, .slice A1 p.length c1, .int .i64 most, .int .i64 (lk + 1), .slice Ab best.length cb] 111 (0, 0)) from by rw [hw1]; exact blk_put HGC.out 3 _ rfl)
    have HB1 := Aside0.mk (show Below w0.heap.size w0 w1 from by rw [hw1]; exact below_set HB.out HG.out)
    have HK1 := Aside0.mk (show Kept W w1 (fun k => k = g) from by rw [hw1]; exact Kept.setCell (S := fun k => k = g) (p := ⟨g, 3, none⟩) (Kept.refl _ _) (.inl rfl) _)
    have HBE1 := Aside0.mk (show Kd.R (Kd.int .i64) 3 w1 w0.heap.size (fun k => k ≠ g) (.slice Ab best.length cb) best from by rw [hw1]; exact Kd.R_far HBE.out (fun _ hk => hk) _)
    have HW1 := Aside0.mk (show Kd.R (Kd.int .i64) 3 w1 w0.heap.size (fun k => k ≠ g) (.slice Aw wd.length cw) wd from by rw [hw1]; exact Kd.R_far HW.out (fun _ hk => hk) _)
    clear hw1 hz0 hz3 hf3 HGC HBE HW HB
    have hz4 : w1.cell? ⟨g, 4, none⟩ = some (.slice Ab best.length cb) := (blk_cell HG1.out 4).trans rfl
    have hf4 := blk_frozen HG1.out 4
    go_upto_if 21 with (fail)
    go_cut [4] (fun v4 wc => ∃ (bq : List Int) (vq : Value), v4 = .bool false ∧ Aside0 ((if (wd.length : Int) = most ∨ lk + 1 = 400 then some (true, lk + 1, bq) else look.l0 kf n p most wd (lk + 1) bq 0) = some (r, lk', best')) ∧ Aside0 (wc.heap[g]? = some (.cells #[.int .i64 n, .slice A1 p.length c1, .int .i64 most, .int .i64 (lk + 1), vq] 111 (0, 0))) ∧ Aside0 (Below w0.heap.size w0 wc) ∧ Aside0 (Kept W wc (fun k => k = g)) ∧ Aside0 (Kd.R (Kd.int .i64) 3 wc w0.heap.size (fun k => k ≠ g) vq bq) ∧ Aside0 (Kd.R (Kd.int .i64) 3 wc w0.heap.size (fun k => k ≠ g) (.slice Aw wd.length cw) wd))
    case first =>
     by_cases hlt : best.length < wd.length
     ·have hd : decide (best.length < wd.length) = true := decide_eq_true hlt
      rw [if_pos hlt] at H
      clear hlt
      rw [hd]
      go_wp2_with ((with_reducible refine gate_store (t := 22) (p := 25) rfl ?_); refine Aside0.out ?_)
      refine Aside0.mk ?_
      refine store_event (t := 22) (p := 25) (v := ?vo2) (w1 := (w1.setCell ⟨g, 4, none⟩ (.slice Aw wd.length cw))) ?hg ?ho ?hn ?hr ?_
      case ho => rfl
      case hg => rfl
      case hn => rfl
      case hr => first | (go_simp; done) | (go_simp; rfl)
      intro w2 hw2
      have HG2 := Aside0.mk (show w2.heap[g]? = some (.cells #[.int .i64 n, .slice A1 p.length c1, .int .i64 most, .int .i64 (lk + 1), .slice Aw wd.length cw] 111 (0, 0)) from by rw [hw2]; exact blk_put HG1.out 4 _ rfl)
      have HB2 := Aside0.mk (show Below w0.heap.size w0 w2 from by rw [hw2]; exact below_set HB1.out HG.out)
      have HK2 := Aside0.mk (show Kept W w2 (fun k => k = g) from by rw [hw2]; exact Kept.setCell (S := fun k => k = g) (p := ⟨g, 4, none⟩) HK1.out (.inl rfl) _)
      have HW2 := Aside0.mk (show Kd.R (Kd.int .i64) 3 w2 w0.heap.size (fun k => k ≠ g) (.slice Aw wd.length cw) wd from by rw [hw2]; exact Kd.R_far HW1.out (fun _ hk => hk) _)
      clear hw2 hz4 hf4 HG1 HB1 HK1 HW1 HBE1 hd
      go_wp2_with fail
      go_meet
      case rel => exact ⟨wd, _, rfl, H, HG2, HB2, HK2, HW2, HW2⟩
     ·have hd : decide (best.length < wd.length) = false := decide_eq_false hlt
      rw [if_neg hlt] at H
      clear hlt
      rw [hd]
      go_wp2_with fail
      go_meet
      case rel => exact ⟨best, _, rfl, H, HG1, HB1, HK1, HBE1, HW1⟩
    case rest =>
     clear H hz4 hf4 HG1 HB1 HK1 HW1 HBE1
     obtain ⟨bq, vq, rfl, H, HG2, HB2, HK2, HBE2, HW2⟩ := hcut
     generalize wc = w2 at *
     have hz0 : w2.cell? ⟨g, 0, none⟩ = some (.int .i64 n) := (blk_cell HG2.out 0).trans rfl
     have hz2 : w2.cell? ⟨g, 2, none⟩ = some (.int .i64 most) := (blk_cell HG2.out 2).trans rfl
     have hz3 : w2.cell? ⟨g, 3, none⟩ = some (.int .i64 (lk + 1)) := (blk_cell HG2.out 3).trans rfl
     by_cases hs : (wd.length : Int) = most ∨ lk + 1 = 400
     ·rw [if_pos hs] at H
      have hh := Option.some.inj H.out
      obtain ⟨rfl, hh2⟩ := Prod.mk.inj hh
      obtain ⟨rfl, rfl⟩ := Prod.mk.inj hh2
      clear hh hh2 H
      by_cases hs1 : (wd.length : Int) = most
      ·have hd1 : ((wd.length : Int) == most) = true := by simp [hs1]
       clear hs hs1
       go_wp2_with fail
       go_ret
       exact ⟨rfl, vq, HG2.out, HBE2.out, HK2.out, HB2.out⟩
      ·have hd1 : ((wd.length : Int) == most) = false := by simp [hs1]
       have hd2 : (lk + 1 == 400) = true := by simpa using hs.resolve_left hs1
       clear hs hs1
       go_wp2_with fail
       go_ret
       exact ⟨rfl, vq, HG2.out, HBE2.out, HK2.out, HB2.out⟩
     ·rw [if_neg hs] at H
      have hd1 : ((wd.length : Int) == most) = false := by
       have : ¬ (wd.length : Int) = most := fun h => hs (.inl h)
       simp [this]
      have hd2 : (lk + 1 == 400) = false := by
       have : ¬ lk + 1 = 400 := fun h => hs (.inr h)
       simpa using this
      have hl2 : lk + 1 < 400 := by
       have : ¬ lk + 1 = 400 := fun h => hs (.inr h)
       omega
      clear hs
      go_wp2_with fail
      clear hz0 hz2 hz3 hd1 hd2
      go_loopw [44] (fun v44 wr => ∃ (a kq : Nat) (lq : Int) (bq : List Int) (vq : Value), a ≤ n ∧ v44 = .int .i64 a ∧ Aside0 (look.l0 kq n p most wd lq bq a = some (r, lk', best')) ∧ Aside0 (kq ≤ kf) ∧ Aside0 (wr.heap[g]? = some (.cells #[.int .i64 n, .slice A1 p.length c1, .int .i64 most, .int .i64 lq, vq] 111 (0, 0))) ∧ Aside0 (Below w0.heap.size w0 wr) ∧ Aside0 (Kept W wr (fun k => k = g)) ∧ Aside0 (Kd.R (Kd.int .i64) 3 wr w0.heap.size (fun k => k ≠ g) vq bq) ∧ Aside0 (Kd.R (Kd.int .i64) 3 wr w0.heap.size (fun k => k ≠ g) (.slice Aw wd.length cw) wd)) (fun v44 _ => n - (intOf v44).toNat)
      case atStart => exact ⟨0, kf, lk + 1, bq, vq, Nat.zero_le _, rfl, H, ⟨Nat.le_refl _⟩, HG2, HB2, HK2, HBE2, HW2⟩
      case round =>
       clear H HG2 HB2 HK2 HBE2 HW2
       obtain ⟨a, kq, lq, bs, vs, ha, rfl, H, HKQ, HG3, HB3, HK3, HBE3, HW3⟩ := hrel
       generalize wr = w3 at *
       cases kq with
       | zero => exact absurd H.out (by simp [look.l0])
       | succ kq =>
        have h := H.out
        unfold look.l0 at h
        by_cases hla : a < n
        ·rw [if_pos hla] at h
         have h_ := Option.bind_eq_some_iff.mp h
         obtain ⟨t, ht, h2⟩ := h_
         have HT := Aside0.mk ht
         have H2 := Aside0.mk h2
         clear h ht h2 H
         go_wp2_with ((with_reducible refine gate_dst (N := 47) rfl ?_); refine Aside0.out ?_)
         refine Aside0.mk ?_
         refine Kd.R_lit (Kd.int .i64) _ 3 ?hg (N := 47) ?hd (xs := ([] : List Int)) (inner := []) (ok := fun _ => True) (okp := fun _ => True) ?hr ?hp (fun _ hk => hk) trivial (Below.refl _ _) (Nat.le_refl _) (by simp) ?_
         case hd => rfl
         case hg => rfl
         case hr => first | (go_simp; done) | (go_simp; rfl)
         case hp => exact (Reps.none _ _)
         intro v47 w4 ho4 hb4 _ _
         have HO4 := Aside0.mk ho4
         have HB4 := Aside0.mk hb4
         clear ho4 hb4
         go_wp2_with ((with_reducible refine gate_builtin (b := .append) (xs := #[.tmp 47, .tmp 48]) rfl ?_); refine Aside0.out ?_)
         refine Aside0.mk ?_
         at_builtin
         refine Kd.R_append_rows (Kd.int .i64) (Rr := (Kd.int .i64).K w4) (w0 := w3) w3.heap.size rfl (.tmp 47) (.tmp 48) 22 3 (.int .i64 0) 8 rfl Try.underlying22 info3 rfl (by decide) (by omega) v47 [] wd Aw _ cw (fun _ => True) (fun _ => False) rfl rfl HO4.out ?aR (fun _ _ h => h) (fun _ hk => hk.elim) (fun _ _ => trivial) HB4.out HB4.out.size ?aL ?_
         case aR => exact Kd.C_below (Kd.R_reads' HW3.out).2.2 HB4.out
         case aL => simp only [List.length_nil]; omega
         intro v49 w5 ho5 hb5 _ _
         rw [List.nil_append] at ho5
         have HO5 := Aside0.mk ho5
         have HB5 := Aside0.mk hb5
         clear ho5 hb5 HO4 HB4
         go_wp2_with ((with_reducible refine gate_builtin (b := .append) (xs := #[.tmp 49, .tmp 51]) rfl ?_); refine Aside0.out ?_)
         refine Aside0.mk ?_
         at_builtin
         refine Kd.R_append (Kd.int .i64) (w0 := w3) w3.heap.size rfl (.tmp 49) (.tmp 51) 22 3 (.int .i64 0) 8 rfl Try.underlying22 info3 rfl (by decide) (by omega) v49 wd (a : Int) [.int .i64 a] (fun _ => True) (fun _ => False) rfl rfl rfl (fun _ hk => hk.elim) (fun _ _ => trivial) HO5.out HB5.out HB5.out.size ?aL ?_
         case aL => omega
         intro v52 w6 ho6 hb6 _ _
         generalize hnw : wd ++ [(a : Int)] = nw at *
         obtain ⟨A52, c52, rfl⟩ := Kd.R_slice ho6
         have HO6 := Aside0.mk ho6
         have HB6 := Aside0.mk hb6
         clear ho6 hb6 HO5 HB5 hnw
         have HG6 := Aside0.mk (blk_below HG3.out HB6.out)
         have HB06 := Aside0.mk (below_then HB3.out HB3.out.size HB6.out)
         have HK6 := Aside0.mk (Kept.below HK3.out HB6.out)
         have HBE6 := Aside0.mk (Kd.R_below HBE3.out HB6.out)
         have HW6 := Aside0.mk (Kd.R_below HW3.out HB6.out)
         have hgl := blk_lt HG3.out
         have HV6 := Aside0.mk (Kd.R_lower (Kd.R_mono (ok' := fun k => k ≠ g) (Kd.R_bound HO6.out) (fun k hk => by have := hk.2.1; omega)) HB3.out.size)
         clear hgl HG3 HB3 HBE3 HW3 HO6 HB6 HK3
         have hz1 : w6.cell? ⟨g, 1, none⟩ = some (.slice A1 p.length c1) := (blk_cell HG6.out 1).trans rfl
         have hp6 := Aside0.mk (HP.out w6 HK6.out)
         go_wp2_with fail
         refine (impl_AvoidsPattern.calls kq A52 c52 nw A1 c1 p t w6 (Kd.R_reads' HV6.out).2.2 (Kd.R_reads' HV6.out).2.1 hp6.out HC1.out HT.out).mono ?_
         rintro e_ w7 ⟨rfl, hb7⟩
         have HG7 := Aside0.mk (blk_below HG6.out hb7)
         have HB07 := Aside0.mk (below_then HB06.out HB06.out.size hb7)
         have HK7 := Aside0.mk (Kept.below HK6.out hb7)
         have HBE7 := Aside0.mk (Kd.R_below HBE6.out hb7)
         have HW7 := Aside0.mk (Kd.R_below HW6.out hb7)
         have HV7 := Aside0.mk (Kd.R_below HV6.out hb7)
         clear hz1 hb7 hp6 HG6 HB06 HK6 HBE6 HW6 HV6
         cases t with
         | false =>
          rw [if_neg (by simp)] at H2
          go_wp2_with fail
          go_roundw
          case rel => exact ⟨a + 1, kq, lq, bs, vs, by omega, by go_num, H2, ⟨by have := HKQ.out; omega⟩, HG7, HB07, HK7, HBE7, HW7⟩
          case measure => simp [intOf]; omega
         | true =>
          rw [if_pos rfl] at H2
          have h_ := Option.bind_eq_some_iff.mp H2.out
          obtain ⟨⟨r1, lk1, bs1⟩, hx, h3⟩ := h_
          have H3 := Aside0.mk h3
          have HX := Aside0.mk hx
          clear hx h3 H2
          go_wp2_with fail
          refine (IH.out kq (by have := HKQ.out; omega) w7 (.slice A52 nw.length c52) nw lq bs vs r1 lk1 bs1 HX.out HG7.out (fun W' hk => HP.out W' (Kept.then_ HK7.out hk (fun _ h2 => .inl h2))) HBE7.out HV7.out HB07.out).mono ?_
          rintro e_ w8 ⟨rfl, v8, hg8, hr8, hk8, hb8⟩
          have HG8 := Aside0.mk hg8
          have HBE8 := Aside0.mk hr8
          have HK8 := Aside0.mk (Kept.then_ HK7.out hk8 (fun _ h2 => .inl h2))
          have HB8 := Aside0.mk hb8
          have HW8 := Aside0.mk (Kd.R_kept HW7.out hk8 (fun k h1 h2 => h1 h2))
          clear hg8 hr8 hk8 hb8 HG7 HB07 HK7 HBE7 HW7 HV7
          cases r1 with
          | true =>
           have h4 := H3.out
           rw [if_pos rfl] at h4
           have hh := Option.some.inj h4
           obtain ⟨rfl, hh2⟩ := Prod.mk.inj hh
           obtain ⟨rfl, rfl⟩ := Prod.mk.inj hh2
           clear hh hh2 h4 H3
           go_wp2_with fail
           go_ret
           exact ⟨rfl, v8, HG8.out, HBE8.out, HK8.out, HB8.out⟩
          | false =>
           have h4 := H3.out
           rw [if_neg (by simp)] at h4
           have H4 := Aside0.mk h4
           clear h4 H3
           go_wp2_with fail
           go_roundw
           case rel => exact ⟨a + 1, kq, lk1, bs1, v8, by omega, by go_num, H4, ⟨by have := HKQ.out; omega⟩, HG8, HB8, HK8, HBE8, HW8⟩
           case measure => simp [intOf]; omega
        ·rw [if_neg hla] at h
         have hh := Option.some.inj h
         obtain ⟨rfl, hh2⟩ := Prod.mk.inj hh
         obtain ⟨rfl, rfl⟩ := Prod.mk.inj hh2
         clear hh hh2 h H
         have e : a = n := by omega
         subst e
         go_wp2_with fail
         go_ret
         exact ⟨rfl, vs, HG3.out, HBE3.out, HK3.out, HB3.out⟩
   ·rw [if_neg hb0] at h; cases h
def impl_LongestAvoiding.f (k : Nat) (a0 : Int) (l1 : List Int) (a2 : Int) : Option (List Int × Bool) := (impl_areAvoided.f k a0 l1).bind fun t => if t = true ∧ 0 ≤ a2 ∧ a2 ≤ 12 then (if 0 ≤ a0 ∧ a0 ≤ 1000 then (look.f k a0.toNat l1 a2 [] 0 []).bind fun x => some (x.2.2, true) else none) else some ([], false)
theorem impl_LongestAvoiding.mono : ∀ a0 l1 a2 k, LeO (impl_LongestAvoiding.f k a0 l1 a2) (impl_LongestAvoiding.f (k + 1) a0 l1 a2) := fun a0 l1 a2 k => LeO.bind (impl_areAvoided.mono _ _ k) (fun _ => LeO.ite (LeO.ite (LeO.bind ((look.mono_l k).1 _ _ _ _ _ _) (fun _ => LeO.refl _)) (LeO.refl _)) (LeO.refl _))
set_option maxHeartbeats 4000000 in
set_option maxRecDepth 100000 in
theorem impl_LongestAvoiding.calls (k : Nat) (a0 : Int) (A1 : Option Addr) (c1 : Nat) (l1 : List Int) (a2 : Int) (r1 : List Int) (r2 : Bool) (w : World) (hr1 : Kd.C (Kd.int .i64) w A1 l1.length l1) (hc1 : l1.length ≤ c1) (h : impl_LongestAvoiding.f k a0 l1 a2 = some (r1, r2)) :
  Calls Try.prog 51 #[.int .i64 a0, .slice A1 l1.length c1, .int .i64 a2] w fun e w' => ∃ v0_ : Value, e = .returned (.tuple #[v0_, .bool r2]) ∧ Kd.R (Kd.int .i64) 3 w' w.heap.size (fun _ => True) v0_ r1 ∧ Below w.heap.size w w' := by
 have HR1 := Aside0.mk hr1
 have HC1 := Aside0.mk hc1
 clear hr1 hc1
 unfold impl_LongestAvoiding.f at h
 have h_ := Option.bind_eq_some_iff.mp h
 clear h
 obtain ⟨t, ht, h⟩ := h_
 have HT := Aside0.mk ht
 clear ht
 by_cases hok : t = true ∧ 0 ≤ a2 ∧ a2 ≤ 12
 ·rw [if_pos hok] at h
  obtain ⟨rfl, h0, h1⟩ := hok
  by_cases hm : 0 ≤ a0 ∧ a0 ≤ 1000
  ·rw [if_pos hm] at h
   obtain ⟨n, rfl⟩ : ∃ n : Nat, a0 = (n : Int) := ⟨a0.toNat, by omega⟩
   rw [Int.toNat_natCast] at h
   have h_ := Option.bind_eq_some_iff.mp h
   clear h
   obtain ⟨⟨rb, lk', best'⟩, hx, h2⟩ := h_
   have h3 := Option.some.inj h2
   obtain ⟨rfl, rfl⟩ := Prod.mk.inj h3
   have HX := Aside0.mk hx
   clear h2 h3 hx
   have hn : n ≤ 1000 := by omega
   have hd1 : decide (a2 < 0) = false := decide_eq_false (by omega)
   have hd2 : decide (12 < a2) = false := decide_eq_false (by omega)
   have hu := Try.underlying111
   go_enter Try.func51, Try.ntmps51
   go_wp2_with fail
   refine (impl_areAvoided.calls k (n : Int) A1 c1 l1 true w HR1.out HC1.out HT.out).mono ?_
   rintro e_ w1 ⟨rfl, ⟨n1, rfl⟩⟩
   go_wp2_with ((with_reducible refine gate_dst (N := 25) rfl ?_); refine Aside0.out ?_)
   refine Aside0.mk ?_
   refine Kd.R_lit (Kd.int .i64) (w0 := w) w.heap.size 3 ?hg (N := 25) ?hd (xs := ([] : List Int)) (inner := []) (ok := fun _ => True) (okp := fun _ => True) ?hr ?hp (fun _ hk => hk) trivial (pw_below_drewN (Below.refl _ _) _) (Nat.le_refl _) (by simp) ?_
   case hd => rfl
   case hg => rfl
   case hr => first | (go_simp; done) | (go_simp; rfl)
   case hp => exact (Reps.none _ _)
   intro v25 w2 ho2 hb2 _ _
   obtain ⟨A25, c25, rfl⟩ := Kd.R_slice ho2
   have HO2 := Aside0.mk ho2
   have HB2 := Aside0.mk hb2
   clear ho2 hb2
   go_wp2_with ((with_reducible refine gate_dst (N := 27) rfl ?_); refine Aside0.out ?_)
   refine Aside0.mk ?_
   refine box_event ?hg (N := 27) ?hd (cs := #[.int .i64 n, .slice A1 l1.length c1, .int .i64 a2, .int .i64 0, .slice A25 ([] : List Int).length c25]) (t := 111) ?hr ?_
   case hd => rfl
   case hg => rfl
   case hr => first | (go_simp; done) | (go_simp; rfl)
   intro g hg w3 hbox hb3
   have HBX := Aside0.mk hbox
   have HB3 := Aside0.mk (below_step HB2.out hb3)
   have HG := Aside0.mk (show w.heap.size ≤ g from by rw [hg]; exact HB2.out.size)
   have HO3 := Aside0.mk (Kd.R_mono (ok' := fun k => k ≠ g) (Kd.R_below (Kd.R_bound HO2.out) hb3) (fun k hk => by have := hk.2.2.1; omega))
   clear hg hbox hb3 HO2 HB2
   go_wp2_with ((with_reducible refine gate_dst (N := 29) rfl ?_); refine Aside0.out ?_)
   refine Aside0.mk ?_
   refine Kd.R_lit (Kd.int .i64) (w0 := w3) w3.heap.size 3 ?hg (N := 29) ?hd (xs := ([] : List Int)) (inner := []) (ok := fun _ => True) (okp := fun _ => True) ?hr ?hp (fun _ hk => hk) trivial (Below.refl _ _) (Nat.le_refl _) (by simp) ?_
   case hd => rfl
   case hg => rfl
   case hr => first | (go_simp; done) | (go_simp; rfl)
   case hp => exact (Reps.none _ _)
   intro v29 w4 ho4 hb4 _ _
   have hgl := blk_lt HBX.out
   have HO4 := Aside0.mk (Kd.R_lower (Kd.R_mono (ok' := fun k => k ≠ g) (Kd.R_bound ho4) (fun k hk => by have := hk.2.1; omega)) HB3.out.size)
   have HBX4 := Aside0.mk (blk_below HBX.out hb4)
   have HO34 := Aside0.mk (Kd.R_below HO3.out hb4)
   have HB4 := Aside0.mk (below_step HB3.out hb4)
   clear ho4 hb4 hgl HBX HO3 HB3
   have hp : ∀ W', Kept w4 W' (fun k => k = g) → Kd.C (Kd.int .i64) W' A1 l1.length l1 := Kd.C_kept_came (Kd.heap_int .i64) HR1.out HB4.out (fun k hk => by rw [hk]; exact HG.out)
   have HP := Aside0.mk hp
   clear hp
   go_wp2_with fail
   refine (look_calls n a2 A1 c1 l1 w g hn HG.out HC1.out k w4 v29 [] 0 [] (.slice A25 ([] : List Int).length c25) rb lk' best' HX.out HBX4.out HP.out HO34.out HO4.out HB4.out).mono ?_
   rintro e_ w5 ⟨rfl, v5, hg5, hr5, hk5, hb5⟩
   have hz4 : w5.cell? ⟨g, 4, none⟩ = some v5 := (blk_cell hg5 4).trans rfl
   obtain ⟨A5, c5, rfl⟩ := Kd.R_slice hr5
   have HR5 := Aside0.mk hr5
   have HB5 := Aside0.mk hb5
   clear hg5 hr5 hk5 hb5
   go_wp2_with fail
   go_ret2
   exact ⟨_, rfl, Kd.R_mono HR5.out (fun _ _ => trivial), HB5.out⟩
  ·rw [if_neg hm] at h; cases h
 ·rw [if_neg hok] at h
  obtain ⟨rfl, rfl⟩ := Prod.mk.inj (Option.some.inj h)
  clear h
  by_cases ht : t = true
  ·subst ht
   by_cases h0 : a2 < 0
   ·have hd1 : decide (a2 < 0) = true := decide_eq_true h0
    clear hok h0
    go_enter Try.func51, Try.ntmps51
    go_wp2_with fail
    refine (impl_areAvoided.calls k a0 A1 c1 l1 true w HR1.out HC1.out HT.out).mono ?_
    rintro e_ w1 ⟨rfl, ⟨n1, rfl⟩⟩
    go_wp2_with ((with_reducible refine gate_dst (N := 21) rfl ?_); refine Aside0.out ?_)
    refine Aside0.mk ?_
    refine Kd.R_lit (Kd.int .i64) (w0 := w) w.heap.size 3 ?hg (N := 21) ?hd (xs := ([] : List Int)) (inner := []) (ok := fun _ => True) (okp := fun _ => True) ?hr ?hp (fun _ hk => hk) trivial (pw_below_drewN (Below.refl _ _) _) (Nat.le_refl _) (by simp) ?_
    case hd => rfl
    case hg => rfl
    case hr => first | (go_simp; done) | (go_simp; rfl)
    case hp => exact (Reps.none _ _)
    intro v21 w2 ho2 hb2 _ _
    have HO2 := Aside0.mk ho2
    have HB2 := Aside0.mk hb2
    clear ho2 hb2
    go_wp2_with fail
    go_ret2
    exact ⟨_, rfl, HO2.out, HB2.out⟩
   ·have hd1 : decide (a2 < 0) = false := decide_eq_false h0
    have hd2 : decide (12 < a2) = true := decide_eq_true (by
     apply Int.not_le.1; intro h1; exact hok ⟨rfl, by omega, h1⟩)
    clear hok h0
    go_enter Try.func51, Try.ntmps51
    go_wp2_with fail
    refine (impl_areAvoided.calls k a0 A1 c1 l1 true w HR1.out HC1.out HT.out).mono ?_
    rintro e_ w1 ⟨rfl, ⟨n1, rfl⟩⟩
    go_wp2_with ((with_reducible refine gate_dst (N := 21) rfl ?_); refine Aside0.out ?_)
    refine Aside0.mk ?_
    refine Kd.R_lit (Kd.int .i64) (w0 := w) w.heap.size 3 ?hg (N := 21) ?hd (xs := ([] : List Int)) (inner := []) (ok := fun _ => True) (okp := fun _ => True) ?hr ?hp (fun _ hk => hk) trivial (pw_below_drewN (Below.refl _ _) _) (Nat.le_refl _) (by simp) ?_
    case hd => rfl
    case hg => rfl
    case hr => first | (go_simp; done) | (go_simp; rfl)
    case hp => exact (Reps.none _ _)
    intro v21 w2 ho2 hb2 _ _
    have HO2 := Aside0.mk ho2
    have HB2 := Aside0.mk hb2
    clear ho2 hb2
    go_wp2_with fail
    go_ret2
    exact ⟨_, rfl, HO2.out, HB2.out⟩
  ·have ht' : t = false := Bool.eq_false_iff.2 ht
   subst ht'
   clear hok ht
   go_enter Try.func51, Try.ntmps51
   go_wp2_with fail
   refine (impl_areAvoided.calls k a0 A1 c1 l1 false w HR1.out HC1.out HT.out).mono ?_
   rintro e_ w1 ⟨rfl, ⟨n1, rfl⟩⟩
   go_wp2_with ((with_reducible refine gate_dst (N := 21) rfl ?_); refine Aside0.out ?_)
   refine Aside0.mk ?_
   refine Kd.R_lit (Kd.int .i64) (w0 := w) w.heap.size 3 ?hg (N := 21) ?hd (xs := ([] : List Int)) (inner := []) (ok := fun _ => True) (okp := fun _ => True) ?hr ?hp (fun _ hk => hk) trivial (pw_below_drewN (Below.refl _ _) _) (Nat.le_refl _) (by simp) ?_
   case hd => rfl
   case hg => rfl
   case hr => first | (go_simp; done) | (go_simp; rfl)
   case hp => exact (Reps.none _ _)
   intro v21 w2 ho2 hb2 _ _
   have HO2 := Aside0.mk ho2
   have HB2 := Aside0.mk hb2
   clear ho2 hb2
   go_wp2_with fail
   go_ret2
   exact ⟨_, rfl, HO2.out, HB2.out⟩

end Go.Proofs.Ythkkpdgadfhijaa.M
/- The search for a long word that avoids a pattern: program and reference look at the same words in the same order. No condition but lengths that fit. -/
namespace Go.Proofs.Ythkkpdgadfhijaa.M
open Go.RowKit Go.Proofs.YthkkpdgadfhijaaW.PrintWords Go.Proofs.Ythkkpdgadfhijaa.K
set_option linter.unusedVariables false
/-- The letters below n from a on with which a word goes on. -/
def nxF (w p : List Int) (a n : Nat) : List Int := ((List.range' a (n - a)).map fun (x : Nat) => (x : Int)).filter fun x => !ends (w ++ [x]) p
def nx (w p : List Int) (n : Nat) : List Int := nxF w p 0 n
theorem nxF_end (w p : List Int) (a n : Nat) (h : n ≤ a) : nxF w p a n = [] := by unfold nxF; rw [show n - a = 0 from by omega]; rfl
theorem nxF_step (w p : List Int) (a n : Nat) (h : a < n) : nxF w p a n = (if ends (w ++ [(a : Int)]) p = true then [] else [(a : Int)]) ++ nxF w p (a + 1) n := by
  unfold nxF
  rw [show n - a = (n - (a + 1)) + 1 from by omega, List.range'_succ, List.map_cons, List.filter_cons]
  cases ends (w ++ [(a : Int)]) p <;> rfl
theorem nx_len (w p : List Int) (n : Nat) : (nx w p n).length ≤ n := by
  unfold nx nxF
  refine Nat.le_trans (List.length_filter_le _ _) ?_
  simp
theorem nx_mem (w p : List Int) (n : Nat) (b : Int) (h : b ∈ nx w p n) : ∃ x : Nat, b = (x : Int) ∧ x < n ∧ ends (w ++ [(x : Int)]) p = false := by
  unfold nx nxF at h
  obtain ⟨h1, h2⟩ := List.mem_filter.1 h
  obtain ⟨x, hx, rfl⟩ := List.mem_map.1 h1
  rw [List.mem_range'_1] at hx
  exact ⟨x, rfl, by omega, by simpa using h2⟩
theorem specNext_ev (w p : List Int) (n : Nat) (hw : w.length ≤ 900) (hp : p.length ≤ 1048576) (hP : isPat p = true) (hn : n ≤ 1000) : Ev (fun k => spec_l30Next.f k w (n : Int) p) (nx w p n) := by
  have key : ∀ a, a ≤ n → ∀ acc : List Int, acc.length ≤ a → Ev (fun k => spec_l30Next.l0 k w (n : Int) p acc (a : Int)) (acc ++ nxF w p a n) := by
    refine down n ?_ ?_
    · intro acc ha
      refine Ev.step (fun k => by simp only [spec_l30Next.l0]; rw [_root_.if_neg (by omega)]) ?_
      rw [nxF_end _ _ _ _ (Nat.le_refl _), List.append_nil]; exact Ev.some _
    · intro a ha ih acc hacc
      refine Ev.step (fun k => by simp only [spec_l30Next.l0]; rw [_root_.if_pos (by omega), Option.bind_some, _root_.if_pos (by simp; omega), Option.bind_some, List.nil_append, _root_.if_pos (by omega)]) ?_
      refine Ev.bind (specEnds_ev (w ++ [(a : Int)]) p (by simp; omega) hp hP (by simp)) ?_
      rw [nxF_step _ _ _ _ ha]
      refine Ev.ite (fun q2 => ?_) (fun q2 => ?_)
      · rw [_root_.if_pos q2, List.nil_append]
        refine Ev.congr (fun k => by rw [wsucc (i := a) (by omega)]) (ih acc (by omega))
      · rw [_root_.if_neg q2, ← List.append_assoc]
        refine Ev.congr (fun k => by rw [_root_.if_pos (by omega), wsucc (i := a) (by omega)]) (ih (acc ++ [(a : Int)]) (by simp; omega))
  unfold spec_l30Next.f nx
  exact key 0 (by omega) [] (by simp)
/-- Where the search goes when all below a word (told backwards) was seen. -/
def upR (p : List Int) (n : Nat) : List Int → Option (List Int)
  | [] => none
  | a :: r => match (nx r.reverse p n).find? (fun b => decide (a < b)) with
    | some b => some (r.reverse ++ [b])
    | none => upR p n r
def succ_ (p : List Int) (n : Nat) (w : List Int) : Option (List Int) := match nx w p n with
  | b :: _ => some (w ++ [b])
  | [] => upR p n w.reverse
def longer (w best : List Int) : List Int := if best.length < w.length then w else best
def srun (p : List Int) (n : Nat) (most : Int) : Nat → List Int → List Int → List Int
  | 0, best, _ => best
  | t + 1, best, w => if (w.length : Int) = most then longer w best else match succ_ p n w with
    | none => longer w best
    | some w' => srun p n most t (longer w best) w'
theorem longer_len (w best : List Int) (c : Nat) (h1 : w.length ≤ c) (h2 : best.length ≤ c) : (longer w best).length ≤ c := by unfold longer; split <;> omega
theorem upR_len (p : List Int) (n : Nat) : ∀ r w, upR p n r = some w → w.length ≤ r.length := by
  intro r
  induction r with
  | nil => intro w h; cases h
  | cons a r ih =>
    intro w h
    simp only [upR] at h
    split at h
    · obtain rfl := Option.some.inj h; simp
    · have := ih w h; simp only [List.length_cons]; omega
section spec
variable (p : List Int) (n : Nat) (most : Int) (hp : p.length ≤ 1048576) (hP : isPat p = true) (hn : n ≤ 1000)
include hp hP hn
theorem specBack_ev (t9 : Int) (best : List Int) (R : List Int) : ∀ (r : List Int), r.length ≤ 800 →
    Ev (fun k => match upR p n r with | none => some best | some w' => spec_l30Search.l0 k (n : Int) p most best w' (wrap64 (t9 + 1))) R →
    Ev (fun k => spec_l30Search.l1 k (n : Int) p most best r.reverse t9 false) R := by
  intro r
  induction r with
  | nil =>
    intro hr h
    rw [List.reverse_nil]
    refine Ev.step (fun k => by simp only [spec_l30Search.l1]; rw [_root_.if_neg (by simp)]) ?_
    refine Ev.step (fun k => by simp only [spec_l30Search.j3]; rw [_root_.if_neg (by simp), _root_.if_neg (by simp)]) ?_
    exact h
  | cons a r ih =>
    intro hr h
    have hl : (a :: r).reverse.length = r.length + 1 := by simp
    simp only [List.length_cons] at hr
    have e1 : wrap64 (((a :: r).reverse.length : Int) - 1) = (r.length : Int) := by rw [hl, w_id (by omega) (by omega)]; omega
    have e2 : (a :: r).reverse.take r.length = r.reverse := by rw [List.reverse_cons, List.take_left' (by simp)]
    have e3 : rd (a :: r).reverse (r.length : Int) = a := by
      rw [rd_get _ _ (by rw [hl]; omega)]
      simp
    refine Ev.step (fun k => by simp only [spec_l30Search.l1]; rw [_root_.if_pos (by rw [hl]; omega)]) ?_
    refine Ev.step (fun k => by simp only [spec_l30Search.j3]; rw [_root_.if_pos (by simp), e1, _root_.if_pos (by omega), _root_.if_pos (by rw [hl]; omega), _root_.if_pos (by rw [hl]; omega), Option.bind_some, Int.toNat_natCast, e2, e3]) ?_
    refine Ev.bind (specNext_ev r.reverse p n (by simp; omega) hp hP hn) ?_
    simp only [upR] at h
    have hle := nx_len r.reverse p n
    generalize nx r.reverse p n = l at h hle
    -- through the letters
    have key : ∀ j, j ≤ l.length → (l.find? (fun b => decide (a < b))) = ((l.drop j).find? (fun b => decide (a < b))) → Ev (fun k => spec_l30Search.l2 k (n : Int) p most best r.reverse t9 l false a (j : Int)) R := by
      refine down l.length ?_ ?_
      · intro hf
        rw [List.drop_length] at hf
        rw [hf] at h
        refine Ev.step (fun k => by simp only [spec_l30Search.l2]; rw [_root_.if_neg (by omega)]) ?_
        refine Ev.step (fun k => by simp only [spec_l30Search.j5]; rw [_root_.if_neg (by simp)]) ?_
        exact ih (by omega) h
      · intro j hj ih2 hf
        refine Ev.step (fun k => by simp only [spec_l30Search.l2]; rw [_root_.if_pos (by omega)]) ?_
        refine Ev.step (fun k => by simp only [spec_l30Search.j5]; rw [_root_.if_pos (by simp), _root_.if_pos (by omega), _root_.if_pos (by omega), rd_get l j hj]) ?_
        rw [drop_eq l j hj, List.find?_cons] at hf
        by_cases q : a < l[j]
        · rw [decide_eq_true q] at hf
          rw [hf] at h
          refine Ev.if_pos q ?_
          refine Ev.congr (fun k => by rw [_root_.if_pos (by simp; omega), wsucc (i := j) (by omega)]) ?_
          -- found: the loops end
          have fin : ∀ (x : Nat), Ev (fun k => spec_l30Search.l2 k (n : Int) p most best (r.reverse ++ [l[j]]) t9 l true a (x : Int)) R := by
            intro x
            have l1 : Ev (fun k => spec_l30Search.l1 k (n : Int) p most best (r.reverse ++ [l[j]]) t9 true) R := by
              refine Ev.step (fun k => by simp only [spec_l30Search.l1]; rw [_root_.if_pos (by rw [List.length_append]; simp only [List.length_cons]; omega)]) ?_
              refine Ev.step (fun k => by simp only [spec_l30Search.j3]; rw [_root_.if_neg (by simp), _root_.if_pos trivial]) ?_
              exact h
            have j5 : ∀ b : Bool, b = false → Ev (fun k => spec_l30Search.j5 k (n : Int) p most best (r.reverse ++ [l[j]]) t9 l true a (x : Int) b) R := fun b hb => by
              refine Ev.step (fun k => by simp only [spec_l30Search.j5]; rw [_root_.if_neg (by rw [hb]; simp)]) ?_
              exact l1
            refine Ev.step (fun k => by simp only [spec_l30Search.l2]; rfl) ?_
            exact Ev.ite (fun _ => j5 _ rfl) (fun _ => j5 _ rfl)
          exact fin (j + 1)
        · rw [decide_eq_false q] at hf
          refine Ev.if_neg q ?_
          refine Ev.congr (fun k => by rw [wsucc (i := j) (by omega)]) (ih2 hf)
    exact key 0 (by omega) (by rw [List.drop_zero])
theorem specRun_ev (hm : 0 ≤ most ∧ most ≤ 500) : ∀ t, t ≤ 400 → ∀ (best w : List Int), (w.length : Int) ≤ most → (best.length : Int) ≤ most → Ev (fun k => spec_l30Search.l0 k (n : Int) p most best w ((400 - t : Nat) : Int)) (srun p n most t best w) := by
  intro t
  induction t with
  | zero =>
    intro _ best w _ _
    refine Ev.step (fun k => by simp only [spec_l30Search.l0]; rw [_root_.if_neg (by omega)]) ?_
    exact Ev.some _
  | succ t ih =>
    intro ht best w hw hb
    have hb2 : ((longer w best).length : Int) ≤ most := by have := longer_len w best most.toNat (by omega) (by omega); omega
    have main : Ev (fun k => spec_l30Search.j1 k (n : Int) p most (longer w best) w ((400 - (t + 1) : Nat) : Int)) (srun p n most (t + 1) best w) := by
      unfold srun
      refine Ev.step (fun k => by simp only [spec_l30Search.j1]; rfl) ?_
      refine Ev.ite (fun q => ?_) (fun q => ?_)
      · rw [_root_.if_pos q]; exact Ev.some _
      · rw [_root_.if_neg q]
        refine Ev.bind (specNext_ev w p n (by omega) hp hP hn) ?_
        have hup := upR_len p n w.reverse
        have hmem := nx_mem w p n
        have eT : wrap64 (((400 - (t + 1) : Nat) : Int) + 1) = ((400 - t : Nat) : Int) := by rw [w_id (by omega) (by omega)]; omega
        unfold succ_
        cases hx : nx w p n with
        | cons b l =>
          refine Ev.if_pos (by rw [List.length_cons]; omega) (Ev.if_pos (by rw [List.length_cons]; omega) (Ev.if_pos (by omega) ?_))
          refine Ev.congr (fun k => by rw [eT, show rd (b :: l) 0 = b from rfl]) (ih (by omega) _ _ (by simp; omega) hb2)
        | nil =>
          refine Ev.if_neg (by simp) ?_
          have := specBack_ev p n most hp hP hn ((400 - (t + 1) : Nat) : Int) (longer w best) (match upR p n w.reverse with | none => longer w best | some w' => srun p n most t (longer w best) w') w.reverse (by simp; omega) (by
            cases hu : upR p n w.reverse with
            | none => exact Ev.some _
            | some w' =>
              have := hup w' hu
              simp only [List.length_reverse] at this
              refine Ev.congr (fun k => by rw [eT]) (ih (by omega) _ _ (by omega) hb2))
          rw [List.reverse_reverse] at this
          exact this
    refine Ev.step (fun k => by simp only [spec_l30Search.l0]; rw [_root_.if_pos (by omega)]) ?_
    unfold longer at main
    refine Ev.ite (fun q => ?_) (fun q => ?_)
    · rw [_root_.if_pos (by omega)] at main
      refine Ev.congr (fun k => by rw [Option.bind_some, _root_.if_pos (by simp; omega), List.nil_append]) main
    · rw [_root_.if_neg (by omega)] at main
      exact main
end spec
/-- One look of the program: what the reference's run is from there on. -/
theorem look_ev (p : List Int) (n : Nat) (most : Int) (hp : p.length ≤ 1048576) (hP : isPat p = true) (hm : 0 ≤ most ∧ most ≤ 12) : ∀ (d : Nat) (w best : List Int) (lk : Int), (w.length : Int) + d = most → noM w p → 0 ≤ lk → lk < 400 → (best.length : Int) ≤ most →
    ∃ (r : Bool) (lk' : Int) (best' : List Int), Ev (fun k => look.f k n p most w lk best) (r, lk', best') ∧ (best'.length : Int) ≤ most ∧ lk ≤ lk' ∧ (r = true → srun p n most (400 - lk).toNat best w = best') ∧ (r = false → lk' < 400 ∧ srun p n most (400 - lk).toNat best w = match upR p n w.reverse with | none => best' | some w' => srun p n most (400 - lk').toNat best' w') := by
  intro d
  induction d with
  | zero =>
    intro w best lk hd _ h0 h4 hb
    refine ⟨true, lk + 1, longer w best, ?_, ?_, by omega, fun _ => ?_, fun h => by cases h⟩
    · refine Ev.step (fun k => by simp only [look.f]; rw [_root_.if_pos ⟨h0, h4, by omega, by omega⟩, _root_.if_pos (Or.inl (by omega))]) ?_
      exact Ev.some _
    · have := longer_len w best most.toNat (by omega) (by omega); omega
    · rw [show (400 - lk).toNat = (399 - lk).toNat + 1 from by omega]
      unfold srun
      rw [_root_.if_pos (by omega)]
  | succ d ih =>
    intro w best lk hd hN h0 h4 hb
    have hb2 : ((longer w best).length : Int) ≤ most := by have := longer_len w best most.toNat (by omega) (by omega); omega
    by_cases h5 : lk + 1 = 400
    · refine ⟨true, lk + 1, longer w best, ?_, hb2, by omega, fun _ => ?_, fun h => by cases h⟩
      · refine Ev.step (fun k => by simp only [look.f]; rw [_root_.if_pos ⟨h0, h4, by omega, by omega⟩, _root_.if_pos (Or.inr h5)]) ?_
        exact Ev.some _
      · rw [show (400 - lk).toNat = 0 + 1 from by omega]
        unfold srun
        rw [_root_.if_neg (by omega)]
        cases succ_ p n w <;> rfl
    · have hup : ∀ w', upR p n w.reverse = some w' → w'.length ≤ w.length := fun w' h => by have := upR_len p n w.reverse w' h; simpa using this
      -- what is left from the letter a on
      have key : ∀ a, a ≤ n → ∀ (lk : Int) (best : List Int), 0 ≤ lk → lk < 400 → (best.length : Int) ≤ most →
          ∃ (r : Bool) (lk' : Int) (best' : List Int), Ev (fun k => look.l0 k n p most w lk best a) (r, lk', best') ∧ (best'.length : Int) ≤ most ∧ lk ≤ lk' ∧
            (r = true → (match (nx w p n).find? (fun b => decide ((a : Int) ≤ b)) with | some b => srun p n most (400 - lk).toNat best (w ++ [b]) | none => match upR p n w.reverse with | none => best | some w' => srun p n most (400 - lk).toNat best w') = best') ∧
            (r = false → lk' < 400 ∧ (match (nx w p n).find? (fun b => decide ((a : Int) ≤ b)) with | some b => srun p n most (400 - lk).toNat best (w ++ [b]) | none => match upR p n w.reverse with | none => best | some w' => srun p n most (400 - lk).toNat best w') = match upR p n w.reverse with | none => best' | some w' => srun p n most (400 - lk').toNat best' w') := by
        refine down n ?_ ?_
        · intro lk best h0 h4 hb
          have hf : (nx w p n).find? (fun b => decide ((n : Int) ≤ b)) = none := by
            rw [List.find?_eq_none]
            intro b hb
            obtain ⟨x, rfl, hx, _⟩ := nx_mem w p n b hb
            simp; omega
          refine ⟨false, lk, best, ?_, hb, Int.le_refl _, (fun h => by cases h), fun _ => ⟨h4, by rw [hf]⟩⟩
          refine Ev.step (fun k => by simp only [look.l0]; rw [_root_.if_neg (by omega)]) ?_
          exact Ev.some _
        · intro a ha ih2 lk best h0 h4 hb
          have hav := avd_more w p (a : Int) hP (by omega) hN
          by_cases q : avd (w ++ [(a : Int)]) p = true
          · have he : ends (w ++ [(a : Int)]) p = false := by rw [q] at hav; cases h : ends (w ++ [(a : Int)]) p with | false => rfl | true => rw [h] at hav; cases hav
            have hf : (nx w p n).find? (fun b => decide ((a : Int) ≤ b)) = some (a : Int) := by
              have : ∀ c, c ≤ a → (nxF w p c n).find? (fun b => decide ((a : Int) ≤ b)) = some (a : Int) := by
                refine down a ?_ ?_
                · rw [nxF_step _ _ _ _ ha, he, _root_.if_neg (by simp), List.find?_append, List.find?_cons, decide_eq_true (Int.le_refl _)]; rfl
                · intro c hc ih3
                  rw [nxF_step _ _ _ _ (by omega), List.find?_append]
                  have : (if ends (w ++ [(c : Int)]) p = true then ([] : List Int) else [(c : Int)]).find? (fun b => decide ((a : Int) ≤ b)) = none := by
                    split
                    · rfl
                    · rw [List.find?_cons, decide_eq_false (by omega)]; rfl
                  rw [this, ih3]; rfl
              exact this 0 (by omega)
            have hf2 : (nx w p n).find? (fun b => decide (((a + 1 : Nat) : Int) ≤ b)) = (nx w p n).find? (fun b => decide ((a : Int) < b)) := by
              congr 1
            obtain ⟨r1, lk1, best1, hE, hb1, hl1, ht1, hf1⟩ := ih (w ++ [(a : Int)]) best lk (by simp; omega) (noM_avd _ _ q) h0 h4 hb
            cases r1 with
            | true =>
              refine ⟨true, lk1, best1, ?_, hb1, hl1, fun _ => ?_, fun h => by cases h⟩
              · refine Ev.step (fun k => by simp only [look.l0]; rw [_root_.if_pos ha]) ?_
                refine Ev.bind (implAvoids_ev (w ++ [(a : Int)]) p (by simp; omega) hp) (Ev.if_pos q (Ev.bind hE (Ev.if_pos rfl (Ev.some _))))
              · rw [hf]; exact ht1 rfl
            | false =>
              obtain ⟨h7, h8⟩ := hf1 rfl
              obtain ⟨r2, lk2, best2, hE2, hb2', hl2, ht2, hf2'⟩ := ih2 lk1 best1 (by omega) h7 hb1
              have hE3 : Ev (fun k => look.l0 k n p most w lk best a) (r2, lk2, best2) := by
                refine Ev.step (fun k => by simp only [look.l0]; rw [_root_.if_pos ha]) ?_
                refine Ev.bind (implAvoids_ev (w ++ [(a : Int)]) p (by simp; omega) hp) (Ev.if_pos q (Ev.bind hE (Ev.if_neg (by simp) hE2)))
              rw [List.reverse_append, List.reverse_cons, List.reverse_nil, List.nil_append, List.singleton_append] at h8
              simp only [upR, List.reverse_reverse] at h8
              rw [← hf2] at h8
              have h9 : srun p n most (400 - lk).toNat best (w ++ [(a : Int)]) = match (nx w p n).find? (fun b => decide (((a + 1 : Nat) : Int) ≤ b)) with | some b => srun p n most (400 - lk1).toNat best1 (w ++ [b]) | none => match upR p n w.reverse with | none => best1 | some w' => srun p n most (400 - lk1).toNat best1 w' := by
                rw [h8]
                cases (nx w p n).find? (fun b => decide (((a + 1 : Nat) : Int) ≤ b)) <;> rfl
              refine ⟨r2, lk2, best2, hE3, hb2', by omega, fun h => ?_, fun h => ⟨(hf2' h).1, ?_⟩⟩
              · rw [hf]; simp only; rw [h9]; exact ht2 h
              · rw [hf]; simp only; rw [h9]; exact (hf2' h).2
          · have he : ends (w ++ [(a : Int)]) p = true := by rw [Bool.eq_false_iff.2 q] at hav; cases h : ends (w ++ [(a : Int)]) p with | true => rfl | false => rw [h] at hav; cases hav
            have hf : (nx w p n).find? (fun b => decide ((a : Int) ≤ b)) = (nx w p n).find? (fun b => decide (((a + 1 : Nat) : Int) ≤ b)) := by
              have cg : ∀ l : List Int, (∀ b ∈ l, b ≠ (a : Int)) → l.find? (fun b => decide ((a : Int) ≤ b)) = l.find? (fun b => decide (((a + 1 : Nat) : Int) ≤ b)) := by
                intro l
                induction l with
                | nil => intro _; rfl
                | cons b l ih3 =>
                  intro h
                  rw [List.find?_cons, List.find?_cons, ih3 (fun c hc => h c (List.mem_cons_of_mem _ hc))]
                  have := h b (List.mem_cons_self ..)
                  rw [show decide ((a : Int) ≤ b) = decide (((a + 1 : Nat) : Int) ≤ b) from decide_eq_decide.2 (by omega)]
              refine cg _ (fun b hb hba => ?_)
              obtain ⟨x, hx, _, h2⟩ := nx_mem w p n b hb
              rw [← hx, hba, he] at h2; cases h2
            obtain ⟨r2, lk2, best2, hE2, hb2', hl2, ht2, hf2'⟩ := ih2 lk best h0 h4 hb
            refine ⟨r2, lk2, best2, ?_, hb2', hl2, fun h => by rw [hf]; exact ht2 h, fun h => by rw [hf]; exact hf2' h⟩
            refine Ev.step (fun k => by simp only [look.l0]; rw [_root_.if_pos ha]) ?_
            exact Ev.bind (implAvoids_ev (w ++ [(a : Int)]) p (by simp; omega) hp) (Ev.if_neg q hE2)
      obtain ⟨r, lk', best', hE, hb', hl', ht, hf⟩ := key 0 (by omega) (lk + 1) (longer w best) (by omega) (by omega) hb2
      have hf0 : (nx w p n).find? (fun b => decide (((0 : Nat) : Int) ≤ b)) = (nx w p n).head? := by
        cases hx : nx w p n with
        | nil => rfl
        | cons b l =>
          obtain ⟨x, rfl, _, _⟩ := nx_mem w p n b (by rw [hx]; exact List.mem_cons_self ..)
          rw [List.find?_cons, decide_eq_true (by omega)]; rfl
      have hs : srun p n most (400 - lk).toNat best w = match (nx w p n).head? with | some b => srun p n most (400 - (lk + 1)).toNat (longer w best) (w ++ [b]) | none => match upR p n w.reverse with | none => longer w best | some w' => srun p n most (400 - (lk + 1)).toNat (longer w best) w' := by
        rw [show (400 - lk).toNat = (400 - (lk + 1)).toNat + 1 from by omega]
        unfold srun
        rw [_root_.if_neg (by omega)]
        unfold succ_
        cases nx w p n with
        | nil => cases upR p n w.reverse <;> simp only [List.head?_nil] <;> (cases (400 - (lk + 1)).toNat <;> rfl)
        | cons b l => simp only [List.head?_cons]; cases (400 - (lk + 1)).toNat <;> rfl
      rw [hf0] at ht hf
      refine ⟨r, lk', best', ?_, hb', by omega, fun h => by rw [hs]; exact ht h, fun h => ⟨(hf h).1, by rw [hs]; exact (hf h).2⟩⟩
      refine Ev.step (fun k => by simp only [look.f]; rw [_root_.if_pos ⟨h0, h4, by omega, by omega⟩, _root_.if_neg (by omega)]) ?_
      exact hE
end Go.Proofs.Ythkkpdgadfhijaa.M
/- The walk of CountAvoiding, by hand. No condition but lengths that fit. -/
namespace Go.Proofs.Ythkkpdgadfhijaa.M
open Go.RowKit Go.Proofs.YthkkpdgadfhijaaW.PrintWords Go.Proofs.YthkkpdgadfhijaaW.PrintLast Go.Proofs.YthkkpdgadfhijaaW.PrintMore Go.Proofs.Ythkkpdgadfhijaa.K Go.Proofs.Ythkkpdgadfhijaa.KW
set_option linter.unusedVariables false
set_option linter.unusedSimpArgs false
/-! ### spec_CountAvoiding: function 43 -/

def lvS (m : Nat) (p : List Int) (ws : List (List Int)) : List (List Int) := ws.flatMap fun u => (nx u p m).map fun x => u ++ [x]
def lv (m : Nat) (p : List Int) : Nat → List (List Int)
  | 0 => [[]]
  | n + 1 => lvS m p (lv m p n)
theorem lvS_take (m : Nat) (p : List Int) (ws : List (List Int)) (i : Nat) (h : i < ws.length) : lvS m p (ws.take (i + 1)) = lvS m p (ws.take i) ++ (nx ws[i] p m).map fun x => ws[i] ++ [x] := by
  unfold lvS; rw [take_succ ws i h, List.flatMap_append]; simp
theorem lvS_le (m : Nat) (p : List Int) (ws : List (List Int)) : (lvS m p ws).length ≤ m * ws.length := by
  induction ws with
  | nil => simp [lvS]
  | cons w ws ih =>
    have := nx_len w p m
    simp only [lvS, List.flatMap_cons, List.length_append, List.length_cons, List.length_map] at ih ⊢
    rw [Nat.mul_add]; omega
theorem lv_len (m : Nat) (p : List Int) (n : Nat) : ∀ u ∈ lv m p n, u.length = n := by
  induction n with
  | zero => intro u hu; simp [lv] at hu; subst hu; rfl
  | succ n ih =>
    intro u hu
    unfold lv lvS at hu
    obtain ⟨word, hw, hu⟩ := List.mem_flatMap.1 hu
    obtain ⟨x, _, rfl⟩ := List.mem_map.1 hu
    rw [List.length_append, ih word hw]; rfl
/-- The number of words of a length that the reference finds, or -1 where there are many. -/
def cNx (m : Nat) (p : List Int) (n : Nat) : Int := if ((List.range (n + 1)).all fun k => decide ((lv m p k).length ≤ 200)) = true then ((lv m p n).length : Int) else -1
theorem cNx_many (m : Nat) (p : List Int) (n k : Nat) (hk : k ≤ n) (h : ¬ (lv m p k).length ≤ 200) : cNx m p n = -1 := by
  unfold cNx
  refine if_neg fun hh => h ?_
  exact of_decide_eq_true (List.all_eq_true.mp hh k (List.mem_range.mpr (by omega)))
theorem cNx_few (m : Nat) (p : List Int) (n : Nat) (h : ∀ k, k ≤ n → (lv m p k).length ≤ 200) : cNx m p n = ((lv m p n).length : Int) := by
  unfold cNx
  exact if_pos (List.all_eq_true.mpr fun k hk => decide_eq_true (h k (by have := List.mem_range.mp hk; omega)))
theorem l1In_is (a : Int) : spec_l1In.f a 0 7 = some (decide (0 ≤ a) && decide (a ≤ 7)) := by
  unfold spec_l1In.f
  by_cases h1 : 0 ≤ a <;> by_cases h2 : a ≤ 7 <;> simp [h1, h2]

theorem nil_new (W : World) (base N : Nat) (hN : N = W.heap.size) (hb : base ≤ W.heap.size) : Kd.R (Kd.int .i64) 3 (W.alloc (.cells #[] 3)) base (fun _ => True) (.slice (some ⟨N, 0, none⟩) 0 0) [] := by
  subst hN
  exact ⟨fun _ _ => trivial, [], by simpa using World.ownsRow_lit (base := base) (e := 3) (size := (Kd.int .i64).sz) W #[] 0 hb (by simp [maxLen]) (by simp), Reps.none _ _⟩
theorem blk_new' (W : World) (o : Obj) (N : Nat) (hN : N = W.heap.size) : (W.alloc o).heap[N]? = some o := by subst hN; exact blk_new W o
theorem one_blk (W : World) (N : Nat) (z : Int) (h : W.heap[N]? = some (.cells #[.int .i64 z] 3 (0, 0))) : Kd.C (Kd.int .i64) W (some ⟨N, 0, none⟩) 1 [z] := by
  refine ⟨rfl, by decide, fun _ => ⟨_, rfl, fun j p hj => ?_⟩⟩
  rcases j with _ | j
  · obtain rfl : z = p := by simpa using hj
    refine ⟨[.int .i64 z], rfl, rfl, fun i u hu => ?_⟩
    rcases i with _ | i
    · obtain rfl : Value.int .i64 z = u := by simpa using hu
      exact (blk_cell h 0).trans rfl
    · simp at hu
  · simp at hj
theorem alloc_drew (W : World) (o : Obj) : (W.alloc o).drew = W.drew.alloc o := rfl

def spec_CountAvoiding.f (k : Nat) (a0 : Int) (l1 : List Int) (a2 : Int) : Option Int := if l1.length ≤ 1048576 then (spec_l30Fine.f k a0 l1).bind fun t => (if t = true ∧ 0 ≤ a2 ∧ a2 ≤ 7 then (if (1 ≤ a0 ∧ a0 ≤ 3) ∧ isPat l1 = true then some (cNx a0.toNat l1 a2.toNat) else none) else some (-1)) else none
theorem spec_CountAvoiding.mono : ∀ a0 l1 a2 k, LeO (spec_CountAvoiding.f k a0 l1 a2) (spec_CountAvoiding.f (k + 1) a0 l1 a2) := fun a0 l1 a2 k => LeO.ite (LeO.bind (spec_l30Fine.mono _ _ k) (fun _ => LeO.refl _)) (LeO.refl _)
set_option maxHeartbeats 4000000 in
set_option maxRecDepth 100000 in
theorem spec_CountAvoiding.calls (k : Nat) (a0 : Int) (A1 : Option Addr) (c1 : Nat) (l1 : List Int) (a2 : Int) (r : Int) (w : World) (hr1 : Kd.C (Kd.int .i64) w A1 l1.length l1) (hc1 : l1.length ≤ c1) (h : spec_CountAvoiding.f k a0 l1 a2 = some r) :
    Calls Try.prog 43 #[.int .i64 a0, .slice A1 l1.length c1, .int .i64 a2] w fun e w' => e = .returned (.int .i64 r) ∧ Below w.heap.size w w' := by
  unfold spec_CountAvoiding.f at h
  by_cases hl : l1.length ≤ 1048576
  case neg => rw [if_neg hl] at h; cases h
  rw [if_pos hl] at h
  obtain ⟨t, ht, h⟩ := Option.bind_eq_some_iff.mp h
  have HR1 := Aside0.mk hr1
  have HT := Aside0.mk ht
  have HC1 := Aside0.mk hc1
  have HL := Aside0.mk hl
  have H := Aside0.mk h
  clear hr1 ht hc1 hl h
  go_enter Try.func43, Try.ntmps43
  go_wp2_with fail
  refine (spec_l30Fine.calls k a0 A1 c1 l1 t w HR1.out HC1.out HT.out).mono ?_
  rintro e_ w3 ⟨rfl, ⟨n3, hw3⟩⟩
  have HB3 := Aside0.mk (show Below w.heap.size w w3 from by rw [hw3]; exact pw_below_drewN (Below.refl _ _) _)
  clear hw3
  have h := H.out
  clear H
  cases t with
  | false =>
    rw [if_neg (by simp)] at h
    have hr := Option.some.inj h
    subst hr
    go_wp2_with fail
    go_ret
    first | exact ⟨rfl, HB3.out⟩ | exact ⟨trivial, HB3.out⟩
  | true =>
    go_wp2_with fail
    refine (spec_l1In.calls a2 0 7 _ w3 (l1In_is a2)).mono ?_
    rintro e_ w4 ⟨rfl, ⟨n4, hw4⟩⟩
    have HB4 := Aside0.mk (show Below w.heap.size w w4 from by rw [hw4]; exact pw_below_drewN HB3.out _)
    clear hw4 HB3
    by_cases hok : 0 ≤ a2 ∧ a2 ≤ 7
    · rw [if_pos (by simp [hok.1, hok.2])] at h
      obtain ⟨hlo, hhi⟩ := hok
      by_cases hm : (1 ≤ a0 ∧ a0 ≤ 3) ∧ isPat l1 = true
      case neg => rw [if_neg hm] at h; cases h
      rw [if_pos hm] at h
      obtain ⟨hm, hpat⟩ := hm
      obtain ⟨m, rfl⟩ : ∃ m : Nat, a0 = (m : Int) := ⟨a0.toNat, by omega⟩
      obtain ⟨n, rfl⟩ : ∃ n : Nat, a2 = (n : Int) := ⟨a2.toNat, by omega⟩
      rw [Int.toNat_natCast, Int.toNat_natCast] at h
      have hr := Option.some.inj h
      have HR := Aside0.mk hr
      have HMM := Aside0.mk (show m ≤ 3 by omega)
      have HN := Aside0.mk (show n ≤ 7 by omega)
      have HPAT := Aside0.mk hpat
      have hd1 : (decide ((0 : Int) ≤ (n : Int)) && decide ((n : Int) ≤ 7)) = true := by simp; omega
      clear h hr hm hlo hhi hpat
      rw [hd1]
      have hn7 := HN.out
      have hm1000 : m ≤ 1000 := by have := HMM.out; omega
      go_wp2_with ((with_reducible refine gate_dst (N := 22) rfl ?_); refine Aside0.out ?_)
      refine Aside0.mk ?_
      refine Kd.R_lit (Kd.int .i64) (w0 := w4) w4.heap.size 3 ?hg (N := 22) ?hd (xs := ([] : List Int)) (inner := []) (ok := fun _ => True) (okp := fun _ => True) ?hr ?hp (fun _ hk => hk) trivial (Below.refl _ _) (Nat.le_refl _) (by simp) ?_
      case hd => rfl
      case hg => rfl
      case hr => first | (go_simp; done) | (go_simp; rfl)
      case hp => exact (Reps.none _ _)
      intro v13 w5 ho1 hb1 _ _
      obtain ⟨A13, c13, rfl⟩ := Kd.R_slice ho1
      have HO1 := Aside0.mk ho1
      have HB1 := Aside0.mk hb1
      clear ho1 hb1
      go_wp2_with ((with_reducible refine gate_dst (N := 23) rfl ?_); refine Aside0.out ?_)
      refine Aside0.mk ?_
      refine Kd.S_lits (Kd.slice 3 (Kd.int .i64)) (w0 := w4) w4.heap.size 22 ?hg (N := 23) ?hd (xs := ([[]] : List (List Int))) (inner := [.slice A13 ([] : List Int).length c13]) (ok := fun _ => True) (fun j k => j = 0 ∧ some k = (Value.slice A13 ([] : List Int).length c13).ownBlock) ?hr rfl ?hrep (fun i j k h1 h2 => h1.1.trans h2.1.symm) (fun _ _ _ => trivial) trivial HB1.out HB1.out.size (by simp) ?_
      case hd => rfl
      case hg => rfl
      case hr => first | (go_simp; done) | (go_simp; rfl)
      case hrep =>
        intro j x hj
        rcases j with _ | j
        · simp at hj; subst hj; exact ⟨_, rfl, Kd.R_reok rfl HO1.out (fun k hk => ⟨rfl, hk.symm⟩)⟩
        · simp at hj
      intro v14 w6 ho2 hb2 _ _
      have HO2 := Aside0.mk ho2
      have HB2 := Aside0.mk hb2
      clear HO1 HB1 ho2 hb2
      go_wp2_with fail
      go_loopw [7, 8] (fun v i wr => ∃ q : Nat, q ≤ n ∧ i = .int .i64 q ∧ Aside0 (∀ i, i ≤ q → (lv m l1 i).length ≤ 200) ∧ Aside0 (Kd.S (Kd.slice 3 (Kd.int .i64)) 22 wr w4.heap.size (fun _ => True) v (lv m l1 q)) ∧ Aside0 (Below w4.heap.size w4 wr)) (fun _ i _ => n - (intOf i).toNat)
      case atStart => exact ⟨0, Nat.zero_le _, rfl, ⟨fun i hi => by rw [show i = 0 by omega]; exact (by decide : 1 ≤ 200)⟩, HO2, HB2⟩
      case round =>
        clear HO2 HB2
        obtain ⟨q, hq, rfl, HQ, HO, HB⟩ := hrel
        generalize wr = wo at *
        by_cases hlt : q < n
        · have HWS := Aside0.mk (show lvS m l1 (lv m l1 q) = lv m l1 (q + 1) from rfl)
          have hwl : (lv m l1 q).length ≤ 200 := HQ.out q (Nat.le_refl _)
          have HLEN := Aside0.mk (lv_len m l1 q)
          generalize lv m l1 q = ws at *
          obtain ⟨A7, c7, rfl⟩ := Kd.S_slice HO.out
          go_wp2_with ((with_reducible refine gate_dst (N := 29) rfl ?_); refine Aside0.out ?_)
          refine Aside0.mk ?_
          refine Kd.S_lit (Kd.slice 3 (Kd.int .i64)) (w0 := wo) wo.heap.size 22 ?hg (N := 29) ?hd (xs := ([] : List (List Int))) (inner := []) (ok := fun k => wo.heap.size ≤ k) (okp := fun _ => False) ?hr ?hp (fun _ hk => hk.elim) (Nat.le_refl _) (Below.refl _ _) (Nat.le_refl _) (by simp) ?_
          case hd => rfl
          case hg => rfl
          case hr => first | (go_simp; done) | (go_simp; rfl)
          case hp => exact (Reps.none _ _)
          intro v18 w7 ho3 hb3 _ _
          have HM3 := Aside0.mk (show MidRel wo [] v18 w7 from ⟨ho3, hb3⟩)
          clear ho3 hb3
          go_wp2_with fail
          go_loopw [9, 10] (fun v j wm => ∃ s : Nat, s ≤ ws.length ∧ j = .int .i64 s ∧ Aside0 (MidRel wo (lvS m l1 (ws.take s)) v wm)) (fun _ j _ => ws.length - (intOf j).toNat)
          case atStart => exact ⟨0, Nat.zero_le _, rfl, by simpa [lvS] using HM3⟩
          case round =>
            clear HM3
            obtain ⟨s, hs, rfl, HM⟩ := hrel
            generalize wr = wm at *
            by_cases hls : s < ws.length
            · obtain ⟨ad, A0, c0, hA, hx0, hl0, hC0⟩ := at_L2 (Kd.S_reads' HO.out).2.2 (s : Int) (by omega) (by omega)
              subst hA
              have hx1 := pw_cell_below HM.out.2 hx0
              rw [Int.toNat_natCast] at hx1
              have hword : rd_L2 ws (s : Int) = ws[s] := by unfold rd_L2; rw [Int.toNat_natCast, List.getD_eq_getElem?_getD, List.getElem?_eq_getElem hls]; rfl
              rw [hword] at hx1 hl0 hC0
              have HTK := Aside0.mk (lvS_take m l1 ws s hls)
              have HWL := Aside0.mk (HLEN.out ws[s] (List.getElem_mem hls))
              have HC0 := Aside0.mk hC0
              have HL0 := Aside0.mk hl0
              have hacc : (lvS m l1 (ws.take s)).length ≤ m * s := by have := lvS_le m l1 (ws.take s); rwa [List.length_take, Nat.min_eq_left (by omega)] at this
              have HACC := Aside0.mk hacc
              have HX0 := Aside0.mk (show wo.cell? (ad.add s) = some (.slice A0 ws[s].length c0) from by rw [← hword]; simpa using hx0)
              clear hx0 hl0 hC0 hword hacc
              generalize ws[s] = word at *
              generalize hfa : lvS m l1 (ws.take s) = acc at *
              have HFA := Aside0.mk hfa
              clear hfa
              have HX1 := Aside0.mk hx1
              go_wp2_with fail
              obtain ⟨kk, hkk⟩ := (specNext_ev word l1 m (by have := HWL.out; omega) HL.out HPAT.out hm1000).rounds
              refine (spec_l30Next.calls kk A0 c0 word (m : Int) A1 c1 l1 _ wm (Kd.C_below HC0.out HM.out.2) HL0.out (Kd.C_below HR1.out (below_step (below_step HB4.out HB.out) HM.out.2)) HC1.out hkk).mono ?_
              clear hkk
              rintro e_ w8 ⟨v42, rfl, hr8, hb8⟩
              obtain ⟨A42, c42, rfl⟩ := Kd.R_slice hr8
              have HNL := Aside0.mk (nx_len word l1 m)
              generalize nx word l1 m = nxs at *
              have HM8 := Aside0.mk (show MidRel wo acc u9 w8 from ⟨Kd.S_mono (Kd.S_below (Kd.S_mono (ok' := fun k => wo.heap.size ≤ k ∧ k < wm.heap.size) (Kd.S_bound HM.out.1) (fun k hk => ⟨hk.1, hk.2.2.1⟩)) hb8) (fun k hk => hk.1), below_step HM.out.2 hb8⟩)
              have HXR := Aside0.mk (Kd.R_lower (Kd.R_mono (ok' := fun k => True ∧ some k ≠ u9.ownBlock) (Kd.R_bound hr8) (fun k hk => ⟨trivial, fun he => by have := Kd.S_lt HM.out.1 k he.symm; have := hk.2.1; omega⟩)) HM.out.2.size)
              clear hr8 hb8 HM hx1 HX1
              go_wp2_with fail
              go_loopw [9, 12] (fun v x wi => ∃ d : Nat, d ≤ nxs.length ∧ x = .int .i64 d ∧ Aside0 (MidRel wo (acc ++ (nxs.take d).map (fun y => word ++ [y])) v wi) ∧ Aside0 (Kd.R (Kd.int .i64) 3 wi wo.heap.size (fun k => True ∧ some k ≠ v.ownBlock) (.slice A42 nxs.length c42) nxs)) (fun _ x _ => nxs.length - (intOf x).toNat)
              case atStart => exact ⟨0, Nat.zero_le _, rfl, by simpa using HM8, HXR⟩
              case round =>
                clear HM8 HXR
                obtain ⟨d, hd, rfl, HM, HXR⟩ := hrel
                generalize wr = wi at *
                have HNL' := HNL.out
                by_cases hld : d < nxs.length
                · have hx7 : wi.cell? (ad.add s) = some (.slice A0 word.length c0) := pw_cell_below HM.out.2 HX0.out
                  obtain ⟨ad11, hA11, hx11⟩ := Kd.at_int (Kd.R_reads' HXR.out).2.2 (d : Int) (by omega) (by omega)
                  subst hA11
                  rw [Int.toNat_natCast] at hx11
                  have hget : rd nxs (d : Int) = nxs[d] := by unfold rd; rw [Int.toNat_natCast, List.getD_eq_getElem?_getD, List.getElem?_eq_getElem hld]; rfl
                  obtain ⟨z, hz⟩ : ∃ z, rd nxs (d : Int) = z := ⟨_, rfl⟩
                  rw [hz] at hx11 hget
                  have HGET := Aside0.mk hget
                  have HZ := Aside0.mk hz
                  clear hz hget
                  have HCW := Aside0.mk (Kd.C_below HC0.out HM.out.2)
                  have hs0 : (0 : Int) ≤ (s : Int) := Int.natCast_nonneg _
                  have hs1 : (s : Int) < (ws.length : Int) := by omega
                  have hd0 : (0 : Int) ≤ (d : Int) := Int.natCast_nonneg _
                  have hd1' : (d : Int) < (nxs.length : Int) := by omega
                  go_wp2_with fail
                  go_region_held3 (fun w' => w'.cell? (ad.add s) = some (.slice A0 word.length c0) ∧ w'.cell? (ad11.add d) = some (.int .i64 z)) (first | go_keep | exact ⟨pw_cell_below hb63 HX0.out, hx63⟩ | exact ⟨pw_cell_below hb61 hx7, pw_cell_below hb61 hx11⟩ | exact ⟨pw_cell_below hb55 hx7, pw_cell_below hb55 hx11⟩) (first
                    | (refine' Kd.R_append_rows_step (Kd.int .i64) (Rr := (Kd.int .i64).K wi) (w0 := wi) wi.heap.size ?hw (.tmp 50) (.tmp 54) 22 3 (.int .i64 0) 8 ?ho Try.underlying22 info3 rfl (by decide) (by omega) _ [] word _ _ _ (fun _ => True) (fun _ => False) ?hs ?hx ?hO ?hR (fun _ _ h => h) (fun _ hk => hk.elim) (fun _ _ => trivial) ?hB ?hbase ?hl ?_
                       case ho => rfl
                       case hw => rfl
                       case hs => rfl
                       case hx => rfl
                       case hO => first | exact Kd.R_drew (nil_new wi _ _ (by simp) (by simp)) | exact Kd.R_drew (Kd.R_alloc (Kd.R_drew (nil_new wi _ _ (by simp) (by simp))) _) | exact Kd.R_drew (nil_new _ _ _ (by simp) (by simp)) | exact Kd.R_alloc (Kd.R_drew (nil_new wi _ _ (by simp) (by simp))) _ | exact nil_new _ _ _ (by simp) (by simp)
                       case hR => first | exact Kd.C_drew (Kd.C_alloc HCW.out _) | exact Kd.C_drew (Kd.C_alloc (Kd.C_drew (Kd.C_alloc HCW.out _)) _) | exact Kd.C_alloc (Kd.C_drew (Kd.C_alloc HCW.out _)) _
                       case hB => first | exact below_drew1 (below_alloc (Below.refl _ _) _) | exact below_drew1 (below_alloc (below_drew1 (below_alloc (Below.refl _ _) _)) _) | exact below_alloc (below_drew1 (below_alloc (Below.refl _ _) _)) _
                       case hbase => first | exact (below_drew1 (below_alloc (Below.refl wi.heap.size wi) _)).size | exact (below_drew1 (below_alloc (below_drew1 (below_alloc (Below.refl wi.heap.size wi) _)) _)).size | exact (below_alloc (below_drew1 (below_alloc (Below.refl wi.heap.size wi) _)) _).size
                       case hl => have := HWL.out; simp only [List.length_nil]; omega
                       intro v55 w55 ho55 hb55 hg55 hat55
                       rw [List.nil_append] at ho55)
                    | (refine' Kd.R_append_rows_step (Kd.int .i64) (Rr := (Kd.int .i64).K wi) (w0 := wi) wi.heap.size ?hw (.tmp 55) (.tmp 60) 22 3 (.int .i64 0) 8 ?ho Try.underlying22 info3 rfl (by decide) (by omega) v55 word [z] _ _ _ (fun _ => True) (fun _ => False) ?hs ?hx ?hO ?hR (fun _ _ h => h) (fun _ hk => hk.elim) (fun _ _ => trivial) ?hB ?hbase ?hl ?_
                       case ho => rfl
                       case hw => rfl
                       case hs => rfl
                       case hx => rfl
                       case hO => first | exact Kd.R_drew (Kd.R_alloc ho55 _) | exact Kd.R_drew ho55 | exact Kd.R_alloc ho55 _ | exact ho55
                       case hR => first | exact Kd.C_drew (one_blk _ _ _ (blk_new _ _)) | exact one_blk _ _ _ (blk_new _ _) | exact one_blk _ _ _ (blk_grown (blk_drew (blk_new' _ _ _ (by first | rfl | (simp; done)))) hg55 (fun h => by have h2 := Option.some.inj (h : some _ = some _); first | (simp at h2; done) | (simp at h2; omega) | omega)) | exact Kd.C_drew (one_blk _ _ _ (blk_grown (blk_drew (blk_new' _ _ _ (by first | rfl | (simp; done)))) hg55 (fun h => by have h2 := Option.some.inj (h : some _ = some _); first | (simp at h2; done) | (simp at h2; omega) | omega))) | exact one_blk _ _ _ (blk_grown (blk_new' _ _ _ (by first | rfl | (simp; done))) hg55 (fun h => by have h2 := Option.some.inj (h : some _ = some _); first | (simp at h2; done) | (simp at h2; omega) | omega)) | exact Kd.C_drew (one_blk _ _ _ (blk_grown (blk_new' _ _ _ (by first | rfl | (simp; done))) hg55 (fun h => by have h2 := Option.some.inj (h : some _ = some _); first | (simp at h2; done) | (simp at h2; omega) | omega))) | exact one_blk _ _ _ (blk_grown (blk_drew (blk_alloc (blk_drew (blk_new' _ _ _ (by first | rfl | (simp; done)))) _)) hg55 (fun h => by have h2 := Option.some.inj (h : some _ = some _); first | (simp at h2; done) | (simp at h2; omega) | omega)) | exact Kd.C_drew (one_blk _ _ _ (blk_grown (blk_drew (blk_alloc (blk_drew (blk_new' _ _ _ (by first | rfl | (simp; done)))) _)) hg55 (fun h => by have h2 := Option.some.inj (h : some _ = some _); first | (simp at h2; done) | (simp at h2; omega) | omega))) | exact one_blk _ _ _ (blk_grown (blk_alloc (blk_drew (blk_new' _ _ _ (by first | rfl | (simp; done)))) _) hg55 (fun h => by have h2 := Option.some.inj (h : some _ = some _); first | (simp at h2; done) | (simp at h2; omega) | omega)) | exact Kd.C_drew (one_blk _ _ _ (blk_grown (blk_alloc (blk_drew (blk_new' _ _ _ (by first | rfl | (simp; done)))) _) hg55 (fun h => by have h2 := Option.some.inj (h : some _ = some _); first | (simp at h2; done) | (simp at h2; omega) | omega)))
                       case hB => repeat (first | exact hb55 | apply below_alloc | apply pw_below_drewN | apply below_drew1)
                       case hbase => exact Nat.le_trans hb55.size (by simp)
                       case hl => have := HWL.out; omega
                       intro v61 w61 ho61 hb61 hg61 hat61
                       have HS7 : Kd.S (Kd.slice 3 (Kd.int .i64)) 22 w61 wo.heap.size (fun k => wo.heap.size ≤ k ∧ k < wi.heap.size) u9 (acc ++ (nxs.take d).map (fun y => word ++ [y])) := Kd.S_below (Kd.S_mono (Kd.S_bound HM.out.1) (fun k hk => ⟨hk.1, hk.2.2.1⟩)) hb61
                       obtain ⟨nw, hnw⟩ : ∃ nw, word ++ [z] = nw := ⟨_, rfl⟩
                       rw [hnw] at ho61
                       obtain ⟨A61, c61, rfl⟩ := Kd.R_slice ho61)
                    | ((try rw [alloc_drew])
                       refine Kd.S_append_step (Kd.slice 3 (Kd.int .i64)) (w0 := wo) wo.heap.size ?hw (.tmp 49) (.tmp 62) 32 22 (.slice none 0 0) 24 ?ho Try.underlying32 info22 rfl (by decide) (by omega) u9 (acc ++ (nxs.take d).map (fun y => word ++ [y])) nw [.slice A61 nw.length c61] (fun k => wo.heap.size ≤ k) (fun k => some k = (Value.slice A61 nw.length c61).ownBlock) ?hs ?hx ?hP ?hK ?hF ?hO ?hB ?hS ?hL ?_
                       case ho => rfl
                       case hw => rfl
                       case hs => rfl
                       case hx => rfl
                       case hP => exact ⟨_, rfl, Kd.R_reok rfl (by repeat (first | exact Kd.R_lower ho61 HM.out.2.size | apply Kd.R_drew | apply Kd.R_drewN)) (fun k hk => hk.symm)⟩
                       case hK => exact fun k hk => ⟨Nat.le_trans HM.out.2.size (Kd.R_base ho61 k hk.symm), fun he => by have h1 := Kd.S_lt HM.out.1 k he.symm; have h2 := Kd.R_base ho61 k hk.symm; omega⟩
                       case hF => exact fun k hk => Nat.le_trans (Nat.le_trans HM.out.2.size hb61.size) (by simpa using hk)
                       case hO => exact Kd.S_mono HS7 (fun k hk => ⟨hk.1, fun he => by have h2 := Kd.R_base ho61 k he.symm; omega⟩)
                       case hB => repeat (first | exact below_step HM.out.2 hb61 | apply pw_below_drewN | apply below_drew1)
                       case hS => exact Nat.le_trans HM.out.2.size (Nat.le_trans hb61.size (by simp))
                       case hL => have h1 := HACC.out; have h2 := Nat.mul_le_mul HMM.out (show s ≤ 200 by omega); have h3 := HMM.out; simp only [List.length_append, List.length_map, List.length_take]; omega
                       intro v63 w63 ho63 hb63 hg63 hat63
                       have hxr63 := Kd.R_after (ok := fun _ => True) (by repeat (first | exact Kd.R_below HXR.out hb61 | apply Kd.R_drew | apply Kd.R_drewN)) hg63 hat63
                       have hx063 := pw_cell_below hb63 HX0.out
                       have hx63 : w63.cell? (ad11.add d) = some (.int .i64 z) := by
                         obtain ⟨adq, hq1, hq2⟩ := Kd.at_int (Kd.R_reads' hxr63).2.2 (d : Int) hd0 hd1'
                         cases hq1
                         rw [Int.toNat_natCast, HZ.out] at hq2
                         exact hq2))
                  all_goals
                    have HT9 : (nxs.take (d + 1)).map (fun y => word ++ [y]) = (nxs.take d).map (fun y => word ++ [y]) ++ [nw] := by
                      rw [take_succ nxs d hld, List.map_append, ← HGET.out, ← hnw]; rfl
                    have HM9 := Aside0.mk (show MidRel wo (acc ++ (nxs.take (d + 1)).map (fun y => word ++ [y])) v63 w63 from by rw [HT9, ← List.append_assoc]; exact ⟨ho63, hb63⟩)
                    have HX9 := Aside0.mk hxr63
                    clear HT9 ho63 hxr63 HM HXR
                    go_wp2_with fail
                    go_roundw
                    case rel => exact ⟨d + 1, by omega, by go_num, HM9, HX9⟩
                    case measure => simp [intOf]; omega
                · have e : d = nxs.length := by omega
                  subst e
                  rw [List.take_length] at HM
                  go_wp2_with fail
                  go_roundw
                  case rel => exact ⟨s + 1, by omega, by go_num, by rw [HTK.out]; exact HM⟩
                  case measure => simp [intOf]; omega
            · have e : s = ws.length := by omega
              subst e
              rw [List.take_length] at HM
              have hml : (lvS m l1 ws).length ≤ 600 := Nat.le_trans (lvS_le m l1 ws) (by have h1 := HMM.out; have h2 := Nat.mul_le_mul h1 hwl; omega)
              by_cases h200 : (lvS m l1 ws).length ≤ 200
              · have hd3 : decide (200 < ((lvS m l1 ws).length : Int)) = false := decide_eq_false (by omega)
                obtain ⟨A9, c9, rfl⟩ := Kd.S_slice HM.out.1
                have HO9 := Aside0.mk (show Kd.S (Kd.slice 3 (Kd.int .i64)) 22 wm w4.heap.size (fun _ => True) (.slice A9 (lvS m l1 ws).length c9) (lvS m l1 ws) from Kd.S_lower (Kd.S_mono (ok' := fun _ => True) HM.out.1 (fun _ _ => trivial)) HB.out.size)
                have HB9 := Aside0.mk (below_step HB.out HM.out.2)
                have H200 := Aside0.mk h200
                clear HM HO HB h200
                generalize lvS m l1 ws = nws at *
                go_wp2_with fail
                go_roundw
                case rel => exact ⟨q + 1, by omega, by go_num, ⟨fun i hi => by rcases Nat.lt_or_eq_of_le hi with h1 | h1; exact HQ.out i (Nat.le_of_lt_succ h1); rw [h1, ← HWS.out]; exact H200.out⟩, ⟨by rw [← HWS.out]; exact HO9.out⟩, HB9⟩
                case measure => simp [intOf]; omega
              · have hd3 : decide (200 < ((lvS m l1 ws).length : Int)) = true := decide_eq_true (by omega)
                have hr : r = -1 := HR.out.symm.trans (cNx_many m _ n (q + 1) hlt (by rw [← HWS.out]; exact h200))
                subst hr
                obtain ⟨A9, c9, rfl⟩ := Kd.S_slice HM.out.1
                go_wp2_with fail
                go_ret
                exact ⟨rfl, below_step (below_step HB4.out HB.out) HM.out.2⟩
        · have e : q = n := by omega
          subst e
          have hr : r = ((lv m l1 q).length : Int) := HR.out.symm.trans (cNx_few m _ q HQ.out)
          subst hr
          obtain ⟨A7, c7, rfl⟩ := Kd.S_slice HO.out
          have hwl : (lv m l1 q).length ≤ 200 := HQ.out q (Nat.le_refl _)
          go_wp2_with fail
          go_ret
          exact ⟨rfl, below_step HB4.out HB.out⟩
    · rw [if_neg (fun hh => hok hh.2)] at h
      have hr := Option.some.inj h
      subst hr
      have hd1 : (decide (0 ≤ a2) && decide (a2 ≤ 7)) = false := by
        rw [Bool.and_eq_false_iff]
        rcases Decidable.not_and_iff_or_not.mp hok with h1 | h1
        · exact .inl (decide_eq_false h1)
        · exact .inr (decide_eq_false h1)
      rw [hd1]
      go_wp2_with fail
      go_ret
      exact ⟨rfl, HB4.out⟩
end Go.Proofs.Ythkkpdgadfhijaa.M
/- The walk of CountAvoiding, by hand. No condition but lengths that fit. -/
namespace Go.Proofs.Ythkkpdgadfhijaa.M
open Go.RowKit Go.Proofs.YthkkpdgadfhijaaW.PrintWords Go.Proofs.YthkkpdgadfhijaaW.PrintLast Go.Proofs.YthkkpdgadfhijaaW.PrintMore Go.Proofs.Ythkkpdgadfhijaa.K Go.Proofs.Ythkkpdgadfhijaa.KW
set_option linter.unusedVariables false
set_option linter.unusedSimpArgs false
/-! ### impl_CountAvoiding: function 45 -/

/-- The number of words of a length that the test lets through, or -1 where there are many. -/
def cAv (m : Nat) (p : List Int → Bool) (n : Nat) : Int := if ((List.range (n + 1)).all fun k => decide ((fw m p k).length ≤ 200)) = true then ((fw m p n).length : Int) else -1
theorem cAv_many (m : Nat) (p : List Int → Bool) (n k : Nat) (hk : k ≤ n) (h : ¬ (fw m p k).length ≤ 200) : cAv m p n = -1 := by
  unfold cAv
  refine if_neg fun hh => h ?_
  exact of_decide_eq_true (List.all_eq_true.mp hh k (List.mem_range.mpr (by omega)))
theorem cAv_few (m : Nat) (p : List Int → Bool) (n : Nat) (h : ∀ k, k ≤ n → (fw m p k).length ≤ 200) : cAv m p n = ((fw m p n).length : Int) := by
  unfold cAv
  exact if_pos (List.all_eq_true.mpr fun k hk => decide_eq_true (h k (by have := List.mem_range.mp hk; omega)))
theorem pow3_le (m : Nat) (hm : m ≤ 3) : ∀ i, i ≤ 7 → m ^ i ≤ 1000000000000 := by
  intro i hi
  refine Nat.le_trans (Nat.pow_le_pow_left hm i) ?_
  refine Nat.le_trans (Nat.pow_le_pow_right (by decide) hi) (by decide)

def impl_CountAvoiding.f (k : Nat) (a0 : Int) (l1 : List Int) (a2 : Int) : Option Int := if l1.length ≤ 1048576 then (impl_areAvoided.f k a0 l1).bind fun t => (if t = true ∧ 0 ≤ a2 ∧ a2 ≤ 7 then (if 1 ≤ a0 ∧ a0 ≤ 3 then some (cAv a0.toNat (fun xs => avd xs l1) a2.toNat) else none) else some (-1)) else none
theorem impl_CountAvoiding.mono : ∀ a0 l1 a2 k, LeO (impl_CountAvoiding.f k a0 l1 a2) (impl_CountAvoiding.f (k + 1) a0 l1 a2) := fun a0 l1 a2 k => LeO.ite (LeO.bind (impl_areAvoided.mono _ _ k) (fun _ => LeO.refl _)) (LeO.refl _)
set_option maxHeartbeats 4000000 in
set_option maxRecDepth 100000 in
theorem impl_CountAvoiding.calls (k : Nat) (a0 : Int) (A1 : Option Addr) (c1 : Nat) (l1 : List Int) (a2 : Int) (r : Int) (w : World) (hr1 : Kd.C (Kd.int .i64) w A1 l1.length l1) (hc1 : l1.length ≤ c1) (h : impl_CountAvoiding.f k a0 l1 a2 = some r) :
    Calls Try.prog 45 #[.int .i64 a0, .slice A1 l1.length c1, .int .i64 a2] w fun e w' => e = .returned (.int .i64 r) ∧ Below w.heap.size w w' := by
  unfold impl_CountAvoiding.f at h
  by_cases hl : l1.length ≤ 1048576
  case neg => rw [if_neg hl] at h; cases h
  rw [if_pos hl] at h
  obtain ⟨t, ht, h⟩ := Option.bind_eq_some_iff.mp h
  have HR1 := Aside0.mk hr1
  have HT := Aside0.mk ht
  have HC1 := Aside0.mk hc1
  have HL := Aside0.mk hl
  have H := Aside0.mk h
  clear hr1 ht hc1 hl h
  go_enter Try.func45, Try.ntmps45
  go_wp2_with ((with_reducible refine gate_dst (N := 4) rfl ?_); refine Aside0.out ?_)
  refine Aside0.mk ?_
  refine box_event ?hg (N := 4) ?hd (cs := #[.slice A1 l1.length c1]) (t := 22) ?hr ?_
  case hd => rfl
  case hg => rfl
  case hr => first | (go_simp; done) | (go_simp; rfl)
  intro g hg w2 hbox hb2
  have HG := Aside0.mk (show w.heap.size ≤ g from by rw [hg]; exact Nat.le_refl _)
  have HX2 := Aside0.mk hbox
  have HB2 := Aside0.mk hb2
  have HC2 := Aside0.mk (Kd.C_below HR1.out hb2)
  have hza : w2.cell? ⟨g, 0, none⟩ = some (.slice A1 l1.length c1) := (blk_cell hbox 0).trans rfl
  have hfa := blk_frozen hbox 0
  clear hg hbox hb2
  go_wp2_with fail
  refine (impl_areAvoided.calls k a0 A1 c1 l1 t w2 HC2.out HC1.out HT.out).mono ?_
  rintro e_ w3 ⟨rfl, ⟨n3, hw3⟩⟩
  have HX3 := Aside0.mk (show w3.heap[g]? = some (.cells #[.slice A1 l1.length c1] 22 (0, 0)) from by rw [hw3]; exact HX2.out)
  have HB3 := Aside0.mk (show Below w.heap.size w w3 from by rw [hw3]; exact pw_below_drewN HB2.out _)
  have HC3 := Aside0.mk (Kd.C_below HR1.out HB3.out)
  clear hw3 HX2 HB2 HC2 hza hfa
  have h := H.out
  by_cases hok : t = true ∧ 0 ≤ a2 ∧ a2 ≤ 7
  · rw [if_pos hok] at h
    obtain ⟨rfl, hlo, hhi⟩ := hok
    by_cases hm : 1 ≤ a0 ∧ a0 ≤ 3
    case neg => rw [if_neg hm] at h; cases h
    rw [if_pos hm] at h
    obtain ⟨m, rfl⟩ : ∃ m : Nat, a0 = (m : Int) := ⟨a0.toNat, by omega⟩
    obtain ⟨n, rfl⟩ : ∃ n : Nat, a2 = (n : Int) := ⟨a2.toNat, by omega⟩
    rw [Int.toNat_natCast, Int.toNat_natCast] at h
    have hr := Option.some.inj h
    have HR := Aside0.mk hr
    have HM := Aside0.mk (show m ≤ 3 by omega)
    have HN := Aside0.mk (show n ≤ 7 by omega)
    have hd1 : decide ((n : Int) < 0) = false := by simp
    have hd2 : decide (7 < (n : Int)) = false := decide_eq_false (by omega)
    clear h hr H hm hlo hhi
    have hn7 := HN.out
    go_wp2_with fail
    go_loopw [23] (fun v23 wr => ∃ q : Nat, q ≤ n + 1 ∧ v23 = .int .i64 q ∧ Aside0 (∀ i, i < q → (fw m (fun xs => avd xs l1) i).length ≤ 200) ∧ Aside0 (q = n + 1 → False) ∧ Aside0 (wr.heap[g]? = some (.cells #[.slice A1 l1.length c1] 22 (0, 0))) ∧ Aside0 (Below w.heap.size w wr)) (fun i _ => n + 1 - (intOf i).toNat)
    case atStart => exact ⟨0, Nat.zero_le _, rfl, ⟨fun _ hi => absurd hi (Nat.not_lt_zero _)⟩, ⟨fun he => by omega⟩, HX3, HB3⟩
    case round =>
      clear HX3 HB3 HC3
      obtain ⟨q, hq, rfl, HQ, HE, HX, HB⟩ := hrel
      have hqn : q ≤ n := by rcases Nat.lt_or_eq_of_le hq with h1 | h1; omega; exact (HE.out h1).elim
      clear hq HE
      go_wp2_with fail
      have HP : ∀ (W : World) (A : Option Addr) (c : Nat) (xs : List Int), Below wr.heap.size wr W → Kd.C (Kd.int .i64) W A xs.length xs → xs.length ≤ c → xs.length ≤ q → Calls Try.prog 110 (#[.slice A xs.length c] ++ #[.pointer (some ⟨g, 0, none⟩)]) W (fun e w' => e = .returned (.bool ((fun xs => avd xs l1) xs)) ∧ Below W.heap.size W w') := by
        intro W A c xs hbW hC hc hlx
        have HBW := Aside0.mk hbW
        have HCX := Aside0.mk hC
        have HXW := blk_below HX.out hbW
        obtain ⟨kk, hkk⟩ := (implAvoids_ev xs l1 (by omega) HL.out).rounds
        obtain ⟨b, hb⟩ : ∃ b, avd xs l1 = b := ⟨_, rfl⟩
        have hkb : impl_AvoidsPattern.f kk xs l1 = some b := hkk.trans (congrArg some hb)
        have HKK := Aside0.mk hkb
        have HBV := Aside0.mk hb
        clear hb hkb
        have hc' := Aside0.mk hc
        have HCP := Aside0.mk (Kd.C_below HR1.out (below_step HB.out hbW))
        clear hbW hC hc hlx hkk
        have hza : W.cell? ⟨g, 0, none⟩ = some (.slice A1 l1.length c1) := (blk_cell HXW 0).trans rfl
        have hfa := blk_frozen HXW 0
        show Calls Try.prog 110 #[.slice A xs.length c, .pointer (some ⟨g, 0, none⟩)] W _
        go_enter Try.func110, Try.ntmps110
        go_wp2_with fail
        refine (impl_AvoidsPattern.calls kk A c xs A1 c1 l1 b W HCX.out hc'.out HCP.out HC1.out HKK.out).mono ?_
        rintro e_ w4 ⟨rfl, hb4⟩
        go_wp2_with fail
        go_ret
        exact ⟨congrArg (fun b => Ending.returned (.bool b)) HBV.out.symm, hb4⟩
      have hm3 := HM.out
      refine (freeWords_calls 110 _ #[.pointer (some ⟨g, 0, none⟩)] (fun xs => avd xs l1) m q wr Try.func110 (by kernel_rfl) rfl (by omega) (by omega) (fun i hi => pow3_le m HM.out i (by omega)) HP).mono ?_
      clear HP
      rintro e_ w5 ⟨v29, rfl, ho5, hb5⟩
      have HF := Aside0.mk (show ∀ i, i < q → (fw m (fun xs => avd xs l1) i).length ≤ 200 from HQ.out)
      obtain ⟨L, hL⟩ : ∃ L, fw m (fun xs => avd xs l1) q = L := ⟨_, rfl⟩
      rw [hL] at ho5
      obtain ⟨A29, c29, rfl⟩ := Kd.S_slice ho5
      have HLQ := Aside0.mk hL
      have HX5 := Aside0.mk (blk_below HX.out hb5)
      have HB5 := Aside0.mk (below_step HB.out hb5)
      have hlen : L.length ≤ 2187 := by rw [← hL]; exact Nat.le_trans (fw_le m _ q) (Nat.le_trans (Nat.pow_le_pow_left hm3 q) (Nat.pow_le_pow_right (by decide) (show q ≤ 7 by omega)))
      clear ho5 hb5 hL HX HB HQ
      by_cases h200 : L.length ≤ 200
      · have hd3 : decide (200 < (L.length : Int)) = false := decide_eq_false (by omega)
        by_cases hqe : q = n
        · subst hqe
          have hr : r = (L.length : Int) := HR.out.symm.trans ((cAv_few m _ q (fun i hi => by rcases Nat.lt_or_eq_of_le hi with h1 | h1; exact HF.out i h1; rw [h1, HLQ.out]; exact h200)).trans (by rw [HLQ.out]))
          subst hr
          go_wp2_with fail
          go_ret
          exact ⟨rfl, HB5.out⟩
        · have hne : ¬ (q : Int) = (n : Int) := by omega
          go_wp2_with fail
          go_roundw
          case rel => exact ⟨q + 1, by omega, by go_num, ⟨fun i hi => by rcases Nat.lt_or_eq_of_le (Nat.le_of_lt_succ hi) with h1 | h1; exact HF.out i h1; rw [h1, HLQ.out]; exact h200⟩, ⟨fun he => hqe (by omega)⟩, HX5, HB5⟩
          case measure => simp [intOf]; omega
      · have hd3 : decide (200 < (L.length : Int)) = true := decide_eq_true (by omega)
        have hr : r = -1 := HR.out.symm.trans (cAv_many m _ n q hqn (by rw [HLQ.out]; exact h200))
        subst hr
        go_wp2_with fail
        go_ret
        exact ⟨rfl, HB5.out⟩
  · rw [if_neg hok] at h
    have hr := Option.some.inj h
    subst hr
    cases t with
    | false =>
      go_wp2_with fail
      go_ret
      exact ⟨rfl, HB3.out⟩
    | true =>
      by_cases hneg : a2 < 0
      · have hd1 : decide (a2 < 0) = true := decide_eq_true hneg
        go_wp2_with fail
        go_ret
        exact ⟨rfl, HB3.out⟩
      · have hd1 : decide (a2 < 0) = false := decide_eq_false hneg
        have hd2 : decide (7 < a2) = true := decide_eq_true (by
          refine Int.not_le.mp fun hh => hok ⟨rfl, by omega, hh⟩)
        go_wp2_with fail
        go_ret
        exact ⟨rfl, HB3.out⟩
end Go.Proofs.Ythkkpdgadfhijaa.M
/- Walks for this claim, written by a program of mine over the kit's print. No condition of mine. -/
namespace Go.Proofs.Ythkkpdgadfhijaa.M
open Go.RowKit Go.Proofs.Ythkkpdgadfhijaa.KW Go.Proofs.YthkkpdgadfhijaaW.PrintWords Go.Proofs.YthkkpdgadfhijaaW.PrintLast Go.Proofs.YthkkpdgadfhijaaW.PrintMore
attribute [local go_sem] max2_int min2_int max_two min_two max_three min_three max_four min_four   -- for this text's walks alone
set_option linter.unusedVariables false
set_option linter.unusedSimpArgs false

/-! ### spec_LongestAvoiding: function 50 -/
def spec_LongestAvoiding.f (k : Nat) (a0 : Int) (l1 : List Int) (a2 : Int) : Option (List Int × Bool) := (spec_l30Fine.f k a0 l1).bind fun t1061 => (if t1061 = true then ((spec_l1In.f a2 0 12).bind fun t1062 => (if t1062 = true then ((spec_l30Search.f k a0 l1 a2).bind fun t1063 => (some (t1063, true))) else (some ((([] : List Int)), false)))) else (some ((([] : List Int)), false)))
theorem spec_LongestAvoiding.mono : ∀ a0 a1 a2 k, LeO (spec_LongestAvoiding.f k a0 a1 a2) (spec_LongestAvoiding.f (k + 1) a0 a1 a2) := by
 intro a0 a1 a2 k
 unfold spec_LongestAvoiding.f
 repeat' first
   | (with_reducible exact spec_l30Fine.mono _ _ _)
   | (with_reducible exact spec_l30Search.mono _ _ _ _)
   | (with_reducible exact LeO.refl _)
   | (with_reducible exact LeO.none _)
   | (with_reducible refine LeO.ite ?_ ?_)
   | (with_reducible refine LeO.bind ?_ (fun _ => ?_))
   | exact spec_l30Fine.mono _ _ _
   | exact spec_l30Search.mono _ _ _ _
   | exact LeO.none _
   | refine LeO.ite ?_ ?_
   | refine LeO.bind ?_ (fun _ => ?_)
set_option maxHeartbeats 8000000 in
set_option maxRecDepth 100000 in
theorem spec_LongestAvoiding.calls (k : Nat) (a0 : Int) (A1 : Option Addr) (c1 : Nat) (l1 : List Int) (a2 : Int) (r1 : List Int) (r2 : Bool) (w : World) (hr1 : Kd.C (Kd.int .i64) w A1 l1.length l1) (hc1 : l1.length ≤ c1) (h : spec_LongestAvoiding.f k a0 l1 a2 = some (r1, r2)) :
  Calls Try.prog 50 #[.int .i64 a0, .slice A1 l1.length c1, .int .i64 a2] w fun e w' => ∃ v0_ : Value, e = .returned (.tuple #[v0_, .bool r2]) ∧ Kd.R (Kd.int .i64) 3 w' w.heap.size (fun _ => True) v0_ r1 ∧ Below w.heap.size w w' := by
 have HR1 := Aside0.mk hr1
 have HC1 := Aside0.mk hc1
 clear hr1 hc1
 have HB := Aside0.mk (Below.refl w.heap.size w)
 have H : ((spec_l30Fine.f k a0 l1).bind fun t1061 => (if t1061 = true then ((spec_l1In.f a2 0 12).bind fun t1062 => (if t1062 = true then ((spec_l30Search.f k a0 l1 a2).bind fun t1063 => (some (t1063, true))) else (some ((([] : List Int)), false)))) else (some ((([] : List Int)), false)))) = some (r1, r2) := h
 clear h
 replace H := Option.bind_eq_some_iff.mp H
 obtain ⟨t1061, A40, H⟩ := H
 replace H : (if t1061 = true then ((spec_l1In.f a2 0 12).bind fun t1062 => (if t1062 = true then ((spec_l30Search.f k a0 l1 a2).bind fun t1063 => (some (t1063, true))) else (some ((([] : List Int)), false)))) else (some ((([] : List Int)), false))) = some (r1, r2) := H
 have A4 := Aside0.mk A40
 clear A40
 by_cases c5 : t1061 = true
 ·subst c5
  have H1 : ((spec_l1In.f a2 0 12).bind fun t1062 => (if t1062 = true then ((spec_l30Search.f k a0 l1 a2).bind fun t1063 => (some (t1063, true))) else (some ((([] : List Int)), false)))) = some (r1, r2) := by rw [if_pos rfl] at H; exact H
  clear H
  have H := H1
  clear H1
  replace H := Option.bind_eq_some_iff.mp H
  obtain ⟨t1062, A60, H⟩ := H
  replace H : (if t1062 = true then ((spec_l30Search.f k a0 l1 a2).bind fun t1063 => (some (t1063, true))) else (some ((([] : List Int)), false))) = some (r1, r2) := H
  have A6 := Aside0.mk A60
  clear A60
  by_cases c7 : t1062 = true
  ·subst c7
   have H1 : ((spec_l30Search.f k a0 l1 a2).bind fun t1063 => (some (t1063, true))) = some (r1, r2) := by rw [if_pos rfl] at H; exact H
   clear H
   have H := H1
   clear H1
   replace H := Option.bind_eq_some_iff.mp H
   obtain ⟨t1063, A80, H⟩ := H
   replace H : (some (t1063, true)) = some (r1, r2) := H
   have A8 := Aside0.mk A80
   clear A80
   simp only [Option.some.injEq, Prod.mk.injEq] at H
   obtain ⟨rfl, rfl⟩ := H
   go_enter Try.func50, Try.ntmps50
   go_wp2_with (first | ((with_reducible refine gate_callee (f := 106) rfl ?_); refine goesL_ (some 10) rfl rfl Try.func106 (by kernel_rfl) rfl #[.int .i64 a0, .slice A1 l1.length c1] rfl (by (try simp only [List.map_toArray, List.map_cons, List.map_nil]); first | done | rfl | (simp only [List.length_drop, List.length_take]; rfl)) ?_; (with_reducible refine (spec_l30Fine.calls k a0 _ _ l1 true _ ?side1 ?side2 A4.out).mono ?_); (case side1 => repeat (first | exact HR1.out | (with_reducible refine Kd.C_alloc ?_ _) | (with_reducible refine Kd.C_drewN ?_ _) | (with_reducible refine Kd.C_drew ?_))); (case side2 => exact HC1.out); rintro e w' ⟨rfl, ⟨nd, rfl⟩⟩; refine ⟨_, rfl, ?_⟩) | (go_at_call 82; (with_reducible refine (spec_l1In.calls a2 0 12 true _ A6.out).mono ?_); rintro e w' ⟨rfl, ⟨nd, rfl⟩⟩) | ((with_reducible refine gate_callee (f := 112) rfl ?_); refine goesL_ (some 21) rfl rfl Try.func112 (by kernel_rfl) rfl #[.int .i64 a0, .slice A1 l1.length c1, .int .i64 a2] rfl (by (try simp only [List.map_toArray, List.map_cons, List.map_nil]); first | done | rfl | (simp only [List.length_drop, List.length_take]; rfl)) ?_; (with_reducible refine (spec_l30Search.calls k a0 _ _ l1 a2 t1063 _ ?side1 ?side2 A8.out).mono ?_); (case side1 => repeat (first | exact HR1.out | (with_reducible refine Kd.C_alloc ?_ _) | (with_reducible refine Kd.C_drewN ?_ _) | (with_reducible refine Kd.C_drew ?_))); (case side2 => exact HC1.out); rintro e w9 ⟨v1064, rfl, ho0, hb⟩; refine ⟨_, rfl, ?_⟩; have n0_ := Aside0.mk (Kd.R_lower ho0 (below_size (by repeat (first | (with_reducible first | exact HB.out | apply below_alloc | apply pw_below_drewN | apply below_drew1) | exact HB.out)))); have n1_ := Aside0.mk (below_step (by repeat (first | (with_reducible first | exact HB.out | apply below_alloc | apply pw_below_drewN | apply below_drew1) | exact HB.out)) hb); clear HB; have HO1065 := n0_; have HB := n1_; clear n0_ n1_; (try clear hb); (try clear hb2); (try clear hk); (try clear hi); (try clear ho0)))
   go_ret2
   exact ⟨_, by first | rfl | (simp [errW_none, errW_some] <;> rfl) | (simp [*, errW_none, errW_some] <;> rfl), by (with_reducible repeat (first | apply Kd.R_alloc | apply Kd.R_drewN | apply Kd.R_drew)); exact HO1065.out, by repeat (first | (with_reducible first | exact HB.out | apply below_alloc | apply pw_below_drewN | apply below_drew1) | exact HB.out)⟩
  ·replace c7 := Bool.eq_false_iff.mpr c7
   subst c7
   have H1 : (some ((([] : List Int)), false)) = some (r1, r2) := by rw [if_neg (show ¬ (false = true) by decide)] at H; exact H
   clear H
   have H := H1
   clear H1
   obtain ⟨y1066, hy1066⟩ : ∃ y_ : List Int, y_ = (([] : List Int)) := ⟨_, rfl⟩
   replace H : (some (y1066, false)) = some (r1, r2) := by first | (rw [hy1066]; with_reducible exact H) | (have H2_ := (Option.bind_some _ _).symm.trans H; rw [hy1066]; with_reducible exact H2_) | (have H2_ := (Option.bind_some _ _).symm.trans H; with_reducible exact H2_) | with_reducible exact H | (rw [hy1066]; exact H) | exact H
   have Ny1066 := Aside0.mk hy1066
   clear hy1066
   simp only [Option.some.injEq, Prod.mk.injEq] at H
   obtain ⟨rfl, rfl⟩ := H
   go_enter Try.func50, Try.ntmps50
   go_wp2_with (first | ((with_reducible refine gate_callee (f := 106) rfl ?_); refine goesL_ (some 10) rfl rfl Try.func106 (by kernel_rfl) rfl #[.int .i64 a0, .slice A1 l1.length c1] rfl (by (try simp only [List.map_toArray, List.map_cons, List.map_nil]); first | done | rfl | (simp only [List.length_drop, List.length_take]; rfl)) ?_; (with_reducible refine (spec_l30Fine.calls k a0 _ _ l1 true _ ?side1 ?side2 A4.out).mono ?_); (case side1 => repeat (first | exact HR1.out | (with_reducible refine Kd.C_alloc ?_ _) | (with_reducible refine Kd.C_drewN ?_ _) | (with_reducible refine Kd.C_drew ?_))); (case side2 => exact HC1.out); rintro e w' ⟨rfl, ⟨nd, rfl⟩⟩; refine ⟨_, rfl, ?_⟩) | (go_at_call 82; (with_reducible refine (spec_l1In.calls a2 0 12 false _ A6.out).mono ?_); rintro e w' ⟨rfl, ⟨nd, rfl⟩⟩) | ((with_reducible refine gate_dst (N := 17) rfl ?_); refine Kd.R_lit (Kd.int .i64) _ 3 ?hg (N := 17) ?hd (xs := ([] : List Int)) (inner := []) (ok := fun _ => True) (okp := fun _ => True) ?hr ?hp (fun _ hk => hk) trivial (Below.refl _ _) (Nat.le_refl _) (by simp) ?_; (case hd => rfl); (case hg => rfl); (case hr => first | (go_simp; done) | (go_simp; rfl)); (case hp => exact (Reps.none _ _)); intro v1067 w10 ho11 hb hg_ hnew_; clear hg_ hnew_; (first | rw [← Ny1066.out] at ho11 | (simp only [Int.reduceToNat] at ho11; rw [← Ny1066.out] at ho11)); have n0_ := Aside0.mk (Kd.R_lower ho11 (below_size (by repeat (first | (with_reducible first | exact HB.out | apply below_alloc | apply pw_below_drewN | apply below_drew1) | exact HB.out)))); have n1_ := Aside0.mk (below_step (by repeat (first | (with_reducible first | exact HB.out | apply below_alloc | apply pw_below_drewN | apply below_drew1) | exact HB.out)) hb); clear HB; have HO1068 := n0_; have HB := n1_; clear n0_ n1_; clear hb ho11))
   go_ret2
   exact ⟨_, by first | rfl | (simp [errW_none, errW_some] <;> rfl) | (simp [*, errW_none, errW_some] <;> rfl), by (with_reducible repeat (first | apply Kd.R_alloc | apply Kd.R_drewN | apply Kd.R_drew)); exact HO1068.out, by repeat (first | (with_reducible first | exact HB.out | apply below_alloc | apply pw_below_drewN | apply below_drew1) | exact HB.out)⟩
 ·replace c5 := Bool.eq_false_iff.mpr c5
  subst c5
  have H1 : (some ((([] : List Int)), false)) = some (r1, r2) := by rw [if_neg (show ¬ (false = true) by decide)] at H; exact H
  clear H
  have H := H1
  clear H1
  obtain ⟨y1069, hy1069⟩ : ∃ y_ : List Int, y_ = (([] : List Int)) := ⟨_, rfl⟩
  replace H : (some (y1069, false)) = some (r1, r2) := by first | (rw [hy1069]; with_reducible exact H) | (have H2_ := (Option.bind_some _ _).symm.trans H; rw [hy1069]; with_reducible exact H2_) | (have H2_ := (Option.bind_some _ _).symm.trans H; with_reducible exact H2_) | with_reducible exact H | (rw [hy1069]; exact H) | exact H
  have Ny1069 := Aside0.mk hy1069
  clear hy1069
  simp only [Option.some.injEq, Prod.mk.injEq] at H
  obtain ⟨rfl, rfl⟩ := H
  go_enter Try.func50, Try.ntmps50
  go_wp2_with (first | ((with_reducible refine gate_callee (f := 106) rfl ?_); refine goesL_ (some 10) rfl rfl Try.func106 (by kernel_rfl) rfl #[.int .i64 a0, .slice A1 l1.length c1] rfl (by (try simp only [List.map_toArray, List.map_cons, List.map_nil]); first | done | rfl | (simp only [List.length_drop, List.length_take]; rfl)) ?_; (with_reducible refine (spec_l30Fine.calls k a0 _ _ l1 false _ ?side1 ?side2 A4.out).mono ?_); (case side1 => repeat (first | exact HR1.out | (with_reducible refine Kd.C_alloc ?_ _) | (with_reducible refine Kd.C_drewN ?_ _) | (with_reducible refine Kd.C_drew ?_))); (case side2 => exact HC1.out); rintro e w' ⟨rfl, ⟨nd, rfl⟩⟩; refine ⟨_, rfl, ?_⟩) | ((with_reducible refine gate_dst (N := 17) rfl ?_); refine Kd.R_lit (Kd.int .i64) _ 3 ?hg (N := 17) ?hd (xs := ([] : List Int)) (inner := []) (ok := fun _ => True) (okp := fun _ => True) ?hr ?hp (fun _ hk => hk) trivial (Below.refl _ _) (Nat.le_refl _) (by simp) ?_; (case hd => rfl); (case hg => rfl); (case hr => first | (go_simp; done) | (go_simp; rfl)); (case hp => exact (Reps.none _ _)); intro v1070 w12 ho13 hb hg_ hnew_; clear hg_ hnew_; (first | rw [← Ny1069.out] at ho13 | (simp only [Int.reduceToNat] at ho13; rw [← Ny1069.out] at ho13)); have n0_ := Aside0.mk (Kd.R_lower ho13 (below_size (by repeat (first | (with_reducible first | exact HB.out | apply below_alloc | apply pw_below_drewN | apply below_drew1) | exact HB.out)))); have n1_ := Aside0.mk (below_step (by repeat (first | (with_reducible first | exact HB.out | apply below_alloc | apply pw_below_drewN | apply below_drew1) | exact HB.out)) hb); clear HB; have HO1071 := n0_; have HB := n1_; clear n0_ n1_; clear hb ho13))
  go_ret2
  exact ⟨_, by first | rfl | (simp [errW_none, errW_some] <;> rfl) | (simp [*, errW_none, errW_some] <;> rfl), by (with_reducible repeat (first | apply Kd.R_alloc | apply Kd.R_drewN | apply Kd.R_drew)); exact HO1071.out, by repeat (first | (with_reducible first | exact HB.out | apply below_alloc | apply pw_below_drewN | apply below_drew1) | exact HB.out)⟩

end Go.Proofs.Ythkkpdgadfhijaa.M
/- Walks for this claim, written by a program of mine over the kit's print. No condition of mine. -/
namespace Go.Proofs.Ythkkpdgadfhijaa.M
open Go.RowKit Go.Proofs.Ythkkpdgadfhijaa.KW Go.Proofs.YthkkpdgadfhijaaW.PrintWords Go.Proofs.YthkkpdgadfhijaaW.PrintLast Go.Proofs.YthkkpdgadfhijaaW.PrintMore
attribute [local go_sem] max2_int min2_int max_two min_two max_three min_three max_four min_four   -- for this text's walks alone
set_option linter.unusedVariables false
set_option linter.unusedSimpArgs false

/-! ### spec_IsUnavoidable: function 48 -/
def spec_IsUnavoidable.f (k : Nat) (a0 : Int) (l1 : List Int) (a2 : Int) : Option (Bool) := (spec_LongestAvoiding.f k a0 l1 a2).bind fun bt1072 => (if bt1072.2 = true then (some (decide ((bt1072.1.length : Int) < a2))) else (some false))
theorem spec_IsUnavoidable.mono : ∀ a0 a1 a2 k, LeO (spec_IsUnavoidable.f k a0 a1 a2) (spec_IsUnavoidable.f (k + 1) a0 a1 a2) := by
 intro a0 a1 a2 k
 unfold spec_IsUnavoidable.f
 repeat' first
   | (with_reducible exact spec_LongestAvoiding.mono _ _ _ _)
   | (with_reducible exact LeO.refl _)
   | (with_reducible exact LeO.none _)
   | (with_reducible refine LeO.ite ?_ ?_)
   | (with_reducible refine LeO.bind ?_ (fun _ => ?_))
   | exact spec_LongestAvoiding.mono _ _ _ _
   | exact LeO.none _
   | refine LeO.ite ?_ ?_
   | refine LeO.bind ?_ (fun _ => ?_)
set_option maxHeartbeats 8000000 in
set_option maxRecDepth 100000 in
theorem spec_IsUnavoidable.calls (k : Nat) (a0 : Int) (A1 : Option Addr) (c1 : Nat) (l1 : List Int) (a2 : Int) (r : Bool) (w : World) (hr1 : Kd.C (Kd.int .i64) w A1 l1.length l1) (hc1 : l1.length ≤ c1) (h : spec_IsUnavoidable.f k a0 l1 a2 = some r) :
  Calls Try.prog 48 #[.int .i64 a0, .slice A1 l1.length c1, .int .i64 a2] w fun e w' => e = .returned (.bool r) ∧ Below w.heap.size w w' := by
 have HR1 := Aside0.mk hr1
 have HC1 := Aside0.mk hc1
 clear hr1 hc1
 have HB := Aside0.mk (Below.refl w.heap.size w)
 have H : ((spec_LongestAvoiding.f k a0 l1 a2).bind fun bt1072 => (if bt1072.2 = true then (some (decide ((bt1072.1.length : Int) < a2))) else (some false))) = some r := h
 clear h
 replace H := Option.bind_eq_some_iff.mp H
 obtain ⟨⟨t1072, t1073⟩, A40, H⟩ := H
 replace H : (if t1073 = true then (some (decide ((t1072.length : Int) < a2))) else (some false)) = some r := H
 have A4 := Aside0.mk A40
 clear A40
 by_cases c5 : t1073 = true
 ·subst c5
  have H1 : (some (decide ((t1072.length : Int) < a2))) = some r := by rw [if_pos rfl] at H; exact H
  clear H
  have H := H1
  clear H1
  obtain rfl := Option.some.inj H
  go_enter Try.func48, Try.ntmps48
  go_wp2_with (first | ((with_reducible refine gate_callee (f := 50) rfl ?_); refine goesL_ (some 13) rfl rfl Try.func50 (by kernel_rfl) rfl #[.int .i64 a0, .slice A1 l1.length c1, .int .i64 a2] rfl (by (try simp only [List.map_toArray, List.map_cons, List.map_nil]); first | done | rfl | (simp only [List.length_drop, List.length_take]; rfl)) ?_; (with_reducible refine (spec_LongestAvoiding.calls k a0 _ _ l1 a2 t1072 true _ ?side1 ?side2 A4.out).mono ?_); (case side1 => repeat (first | exact HR1.out | (with_reducible refine Kd.C_alloc ?_ _) | (with_reducible refine Kd.C_drewN ?_ _) | (with_reducible refine Kd.C_drew ?_))); (case side2 => exact HC1.out); rintro e w6 ⟨v1074, rfl, ho0, hb⟩; refine ⟨_, rfl, ?_⟩; have n0_ := Aside0.mk (Kd.R_lower ho0 (below_size (by repeat (first | (with_reducible first | exact HB.out | apply below_alloc | apply pw_below_drewN | apply below_drew1) | exact HB.out)))); have n1_ := Aside0.mk (below_step (by repeat (first | (with_reducible first | exact HB.out | apply below_alloc | apply pw_below_drewN | apply below_drew1) | exact HB.out)) hb); clear HB; have HO1075 := n0_; have HB := n1_; clear n0_ n1_; (try clear hb); (try clear hb2); (try clear hk); (try clear hi); (try clear ho0); obtain ⟨Ao7, co7, eo7⟩ := Kd.R_slice HO1075.out; subst eo7))
  go_ret
  exact ⟨by first | rfl | (simp [errW_none, errW_some] <;> rfl) | (simp [*, errW_none, errW_some] <;> rfl), by repeat (first | (with_reducible first | exact HB.out | apply below_alloc | apply pw_below_drewN | apply below_drew1) | exact HB.out)⟩
 ·replace c5 := Bool.eq_false_iff.mpr c5
  subst c5
  have H1 : (some false) = some r := by rw [if_neg (show ¬ (false = true) by decide)] at H; exact H
  clear H
  have H := H1
  clear H1
  obtain rfl := Option.some.inj H
  go_enter Try.func48, Try.ntmps48
  go_wp2_with (first | ((with_reducible refine gate_callee (f := 50) rfl ?_); refine goesL_ (some 13) rfl rfl Try.func50 (by kernel_rfl) rfl #[.int .i64 a0, .slice A1 l1.length c1, .int .i64 a2] rfl (by (try simp only [List.map_toArray, List.map_cons, List.map_nil]); first | done | rfl | (simp only [List.length_drop, List.length_take]; rfl)) ?_; (with_reducible refine (spec_LongestAvoiding.calls k a0 _ _ l1 a2 t1072 false _ ?side1 ?side2 A4.out).mono ?_); (case side1 => repeat (first | exact HR1.out | (with_reducible refine Kd.C_alloc ?_ _) | (with_reducible refine Kd.C_drewN ?_ _) | (with_reducible refine Kd.C_drew ?_))); (case side2 => exact HC1.out); rintro e w8 ⟨v1074, rfl, ho0, hb⟩; refine ⟨_, rfl, ?_⟩; have n0_ := Aside0.mk (Kd.R_lower ho0 (below_size (by repeat (first | (with_reducible first | exact HB.out | apply below_alloc | apply pw_below_drewN | apply below_drew1) | exact HB.out)))); have n1_ := Aside0.mk (below_step (by repeat (first | (with_reducible first | exact HB.out | apply below_alloc | apply pw_below_drewN | apply below_drew1) | exact HB.out)) hb); clear HB; have HO1075 := n0_; have HB := n1_; clear n0_ n1_; (try clear hb); (try clear hb2); (try clear hk); (try clear hi); (try clear ho0)))
  go_ret
  exact ⟨by first | rfl | (simp [errW_none, errW_some] <;> rfl) | (simp [*, errW_none, errW_some] <;> rfl), by repeat (first | (with_reducible first | exact HB.out | apply below_alloc | apply pw_below_drewN | apply below_drew1) | exact HB.out)⟩

end Go.Proofs.Ythkkpdgadfhijaa.M
