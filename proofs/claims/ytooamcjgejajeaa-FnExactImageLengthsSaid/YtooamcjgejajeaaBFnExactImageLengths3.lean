/- Texts of the claim on FnExactImageLengths, joined (part 3 of 5): walks of the functions, what they come to, and in the last part the row. No condition of mine. -/
import Derived.Test.YtooamcjgejajeaaBFnExactImageLengths1
import Derived.Test.YtooamcjgejajeaaBFnExactImageLengths2
import Derived.Test.YtooamcjgejajeaaWMore
/- Walks for this claim, written by a program of mine over the kit's print. No condition of mine. -/
namespace Go.Proofs.Ytooamcjgejajeaa.M
open Go.RowKit Go.Proofs.Ytooamcjgejajeaa.KW Go.Proofs.YtooamcjgejajeaaW.PrintWords Go.Proofs.YtooamcjgejajeaaW.PrintLast Go.Proofs.YtooamcjgejajeaaW.PrintMore
attribute [local go_sem] max2_int min2_int max_two min_two max_three min_three max_four min_four   -- for this text's walks alone
set_option linter.unusedVariables false
set_option linter.unusedSimpArgs false

/-! ### spec_HasPower: function 123 -/
mutual
def spec_HasPower.j0 : Nat → List Int → Int → Int → Bool → Option (Bool)
 | 0, _, _, _, _ => none
 | k + 1, x0, x1, x2, x18 => if x18 = true then (some false) else (spec_HasPower.l0 k x0 x1 x2 0)
def spec_HasPower.l0 : Nat → List Int → Int → Int → Int → Option (Bool)
 | 0, _, _, _, _ => none
 | k + 1, x0, x1, x2, x7 => if x7 < (x0.length : Int) then (spec_HasPower.j2 k x0 x1 x2 x7 (decide ((x0.length : Int) ≤ 128))) else (spec_HasPower.j2 k x0 x1 x2 x7 false)
def spec_HasPower.j2 : Nat → List Int → Int → Int → Int → Bool → Option (Bool)
 | 0, _, _, _, _, _ => none
 | k + 1, x0, x1, x2, x7, x27 => if x27 = true then (spec_HasPower.l1 k x0 x1 x2 x7 1) else (some false)
def spec_HasPower.l1 : Nat → List Int → Int → Int → Int → Int → Option (Bool)
 | 0, _, _, _, _, _ => none
 | k + 1, x0, x1, x2, x7, x8 => if (wrap64 (x7 + x8)) < (x0.length : Int) then ((spec_l10Match.f k x0 x7 x8).bind fun t396 => (if (wrap64 (t396 * x2)) ≥ (wrap64 (x8 * x1)) then (some true) else (spec_HasPower.l1 k x0 x1 x2 x7 (wrap64 (x8 + 1))))) else (spec_HasPower.l0 k x0 x1 x2 (wrap64 (x7 + 1)))
end
def spec_HasPower.f (k : Nat) (l0 : List Int) (a1 : Int) (a2 : Int) : Option (Bool) := (spec_l1In.f a1 2 20).bind fun t394 => (if t394 = true then ((spec_l1In.f a2 1 (wrap64 (a1 - 1))).bind fun t395 => (spec_HasPower.j0 k l0 a1 a2 (!t395))) else (spec_HasPower.j0 k l0 a1 a2 true))
theorem spec_HasPower.mono_l : ∀ k, (∀ y0 y1 y2 y3, LeO (spec_HasPower.j0 k y0 y1 y2 y3) (spec_HasPower.j0 (k + 1) y0 y1 y2 y3)) ∧ (∀ y0 y1 y2 y3, LeO (spec_HasPower.l0 k y0 y1 y2 y3) (spec_HasPower.l0 (k + 1) y0 y1 y2 y3)) ∧ (∀ y0 y1 y2 y3 y4, LeO (spec_HasPower.j2 k y0 y1 y2 y3 y4) (spec_HasPower.j2 (k + 1) y0 y1 y2 y3 y4)) ∧ (∀ y0 y1 y2 y3 y4, LeO (spec_HasPower.l1 k y0 y1 y2 y3 y4) (spec_HasPower.l1 (k + 1) y0 y1 y2 y3 y4))
 | 0 => ⟨fun _ _ _ _ r h => by simp [spec_HasPower.j0] at h, fun _ _ _ _ r h => by simp [spec_HasPower.l0] at h, fun _ _ _ _ _ r h => by simp [spec_HasPower.j2] at h, fun _ _ _ _ _ r h => by simp [spec_HasPower.l1] at h⟩
 | k + 1 => by
  obtain ⟨ih0, ih1, ih2, ih3⟩ := spec_HasPower.mono_l k
  refine ⟨?_, ?_, ?_, ?_⟩
  ·intro y0 y1 y2 y3
   unfold spec_HasPower.j0
   repeat' first
   | (with_reducible exact ih0 _ _ _ _)
   | (with_reducible exact ih1 _ _ _ _)
   | (with_reducible exact ih2 _ _ _ _ _)
   | (with_reducible exact ih3 _ _ _ _ _)
   | (with_reducible exact spec_l10Match.mono _ _ _ _)
   | (with_reducible exact LeO.refl _)
   | (with_reducible exact LeO.none _)
   | (with_reducible refine LeO.ite ?_ ?_)
   | (with_reducible refine LeO.bind ?_ (fun _ => ?_))
   | exact ih0 _ _ _ _
   | exact ih1 _ _ _ _
   | exact ih2 _ _ _ _ _
   | exact ih3 _ _ _ _ _
   | exact spec_l10Match.mono _ _ _ _
   | exact LeO.none _
   | refine LeO.ite ?_ ?_
   | refine LeO.bind ?_ (fun _ => ?_)
  ·intro y0 y1 y2 y3
   unfold spec_HasPower.l0
   repeat' first
   | (with_reducible exact ih0 _ _ _ _)
   | (with_reducible exact ih1 _ _ _ _)
   | (with_reducible exact ih2 _ _ _ _ _)
   | (with_reducible exact ih3 _ _ _ _ _)
   | (with_reducible exact spec_l10Match.mono _ _ _ _)
   | (with_reducible exact LeO.refl _)
   | (with_reducible exact LeO.none _)
   | (with_reducible refine LeO.ite ?_ ?_)
   | (with_reducible refine LeO.bind ?_ (fun _ => ?_))
   | exact ih0 _ _ _ _
   | exact ih1 _ _ _ _
   | exact ih2 _ _ _ _ _
   | exact ih3 _ _ _ _ _
   | exact spec_l10Match.mono _ _ _ _
   | exact LeO.none _
   | refine LeO.ite ?_ ?_
   | refine LeO.bind ?_ (fun _ => ?_)
  ·intro y0 y1 y2 y3 y4
   unfold spec_HasPower.j2
   repeat' first
   | (with_reducible exact ih0 _ _ _ _)
   | (with_reducible exact ih1 _ _ _ _)
   | (with_reducible exact ih2 _ _ _ _ _)
   | (with_reducible exact ih3 _ _ _ _ _)
   | (with_reducible exact spec_l10Match.mono _ _ _ _)
   | (with_reducible exact LeO.refl _)
   | (with_reducible exact LeO.none _)
   | (with_reducible refine LeO.ite ?_ ?_)
   | (with_reducible refine LeO.bind ?_ (fun _ => ?_))
   | exact ih0 _ _ _ _
   | exact ih1 _ _ _ _
   | exact ih2 _ _ _ _ _
   | exact ih3 _ _ _ _ _
   | exact spec_l10Match.mono _ _ _ _
   | exact LeO.none _
   | refine LeO.ite ?_ ?_
   | refine LeO.bind ?_ (fun _ => ?_)
  ·intro y0 y1 y2 y3 y4
   unfold spec_HasPower.l1
   repeat' first
   | (with_reducible exact ih0 _ _ _ _)
   | (with_reducible exact ih1 _ _ _ _)
   | (with_reducible exact ih2 _ _ _ _ _)
   | (with_reducible exact ih3 _ _ _ _ _)
   | (with_reducible exact spec_l10Match.mono _ _ _ _)
   | (with_reducible exact LeO.refl _)
   | (with_reducible exact LeO.none _)
   | (with_reducible refine LeO.ite ?_ ?_)
   | (with_reducible refine LeO.bind ?_ (fun _ => ?_))
   | exact ih0 _ _ _ _
   | exact ih1 _ _ _ _
   | exact ih2 _ _ _ _ _
   | exact ih3 _ _ _ _ _
   | exact spec_l10Match.mono _ _ _ _
   | exact LeO.none _
   | refine LeO.ite ?_ ?_
   | refine LeO.bind ?_ (fun _ => ?_)
theorem spec_HasPower.mono : ∀ a0 a1 a2 k, LeO (spec_HasPower.f k a0 a1 a2) (spec_HasPower.f (k + 1) a0 a1 a2) := by
 intro a0 a1 a2 k
 obtain ⟨ih0, ih1, ih2, ih3⟩ := spec_HasPower.mono_l k
 unfold spec_HasPower.f
 repeat' first
   | (with_reducible exact ih0 _ _ _ _)
   | (with_reducible exact ih1 _ _ _ _)
   | (with_reducible exact ih2 _ _ _ _ _)
   | (with_reducible exact ih3 _ _ _ _ _)
   | (with_reducible exact spec_l10Match.mono _ _ _ _)
   | (with_reducible exact LeO.refl _)
   | (with_reducible exact LeO.none _)
   | (with_reducible refine LeO.ite ?_ ?_)
   | (with_reducible refine LeO.bind ?_ (fun _ => ?_))
   | exact ih0 _ _ _ _
   | exact ih1 _ _ _ _
   | exact ih2 _ _ _ _ _
   | exact ih3 _ _ _ _ _
   | exact spec_l10Match.mono _ _ _ _
   | exact LeO.none _
   | refine LeO.ite ?_ ?_
   | refine LeO.bind ?_ (fun _ => ?_)
set_option maxHeartbeats 8000000 in
set_option maxRecDepth 100000 in
theorem spec_HasPower.calls (k : Nat) (A0 : Option Addr) (c0 : Nat) (l0 : List Int) (a1 : Int) (a2 : Int) (r : Bool) (w : World) (hr0 : Kd.C (Kd.int .i64) w A0 l0.length l0) (hc0 : l0.length ≤ c0) (h : spec_HasPower.f k l0 a1 a2 = some r) :
  Calls Try.prog 123 #[.slice A0 l0.length c0, .int .i64 a1, .int .i64 a2] w fun e w' => e = .returned (.bool r) ∧ Below w.heap.size w w' := by
 have HR0 := Aside0.mk hr0
 have HC0 := Aside0.mk hc0
 clear hr0 hc0
 have HB := Aside0.mk (Below.refl w.heap.size w)
 have H : ((spec_l1In.f a1 2 20).bind fun t394 => (if t394 = true then ((spec_l1In.f a2 1 (wrap64 (a1 - 1))).bind fun t395 => (spec_HasPower.j0 k l0 a1 a2 (!t395))) else (spec_HasPower.j0 k l0 a1 a2 true))) = some r := h
 clear h
 have HC4 := Aside0.mk H
 clear H
 go_enter Try.func123, Try.ntmps123
 go_upto_region 1 with (fail)
 go_cut [18] (fun v18 wc => ∃ (kq : Nat) (x18_3 : Bool), v18 = .bool x18_3 ∧ Aside0 (spec_HasPower.j0 kq l0 a1 a2 x18_3 = some r) ∧ Aside0 (kq ≤ k) ∧ Aside0 (Below w.heap.size w wc))
 case first =>
  have H := HC4.out
  clear HC4
  replace H := Option.bind_eq_some_iff.mp H
  obtain ⟨t394, A50, H⟩ := H
  replace H : (if t394 = true then ((spec_l1In.f a2 1 (wrap64 (a1 - 1))).bind fun t395 => (spec_HasPower.j0 k l0 a1 a2 (!t395))) else (spec_HasPower.j0 k l0 a1 a2 true)) = some r := H
  have A5 := Aside0.mk A50
  clear A50
  by_cases c6 : t394 = true
  ·subst c6
   have H1 : ((spec_l1In.f a2 1 (wrap64 (a1 - 1))).bind fun t395 => (spec_HasPower.j0 k l0 a1 a2 (!t395))) = some r := by rw [if_pos rfl] at H; exact H
   clear H
   have H := H1
   clear H1
   replace H := Option.bind_eq_some_iff.mp H
   obtain ⟨t395, A70, H⟩ := H
   replace H : (spec_HasPower.j0 k l0 a1 a2 (!t395)) = some r := H
   have A7 := Aside0.mk A70
   clear A70
   have H' := Aside0.mk H
   clear H
   go_wp2_with (first | ((with_reducible refine gate_callee (f := 115) rfl ?_); refine goesL_ (some 10) rfl rfl Try.func115 (by kernel_rfl) rfl #[.int .i64 a1, .int .i64 2, .int .i64 20] rfl (by (try simp only [List.map_toArray, List.map_cons, List.map_nil]); first | done | rfl | (simp only [List.length_drop, List.length_take]; rfl)) ?_; (with_reducible refine (spec_l1In.calls a1 2 20 true _ A5.out).mono ?_); rintro e w' ⟨rfl, ⟨nd, rfl⟩⟩; refine ⟨_, rfl, ?_⟩) | (go_at_call 115; (with_reducible refine (spec_l1In.calls a2 1 (wrap64 (a1 - 1)) t395 _ A7.out).mono ?_); rintro e w' ⟨rfl, ⟨nd, rfl⟩⟩))
   go_meet
   case rel => exact ⟨_, (!t395), (by first | rfl | (simp; done) | (simp [*]; done)), H', ⟨by first | omega | exact Nat.le_refl _⟩, ⟨by repeat (first | (with_reducible first | exact HB.out | apply below_alloc | apply pw_below_drewN | apply below_drew1) | exact HB.out)⟩⟩
  ·replace c6 := Bool.eq_false_iff.mpr c6
   subst c6
   have H1 : (spec_HasPower.j0 k l0 a1 a2 true) = some r := by rw [if_neg (show ¬ (false = true) by decide)] at H; exact H
   clear H
   have H := H1
   clear H1
   have H' := Aside0.mk H
   clear H
   go_wp2_with (first | ((with_reducible refine gate_callee (f := 115) rfl ?_); refine goesL_ (some 10) rfl rfl Try.func115 (by kernel_rfl) rfl #[.int .i64 a1, .int .i64 2, .int .i64 20] rfl (by (try simp only [List.map_toArray, List.map_cons, List.map_nil]); first | done | rfl | (simp only [List.length_drop, List.length_take]; rfl)) ?_; (with_reducible refine (spec_l1In.calls a1 2 20 false _ A5.out).mono ?_); rintro e w' ⟨rfl, ⟨nd, rfl⟩⟩; refine ⟨_, rfl, ?_⟩))
   go_meet
   case rel => exact ⟨_, (true), (by first | rfl | (simp; done) | (simp [*]; done)), H', ⟨by first | omega | exact Nat.le_refl _⟩, ⟨by repeat (first | (with_reducible first | exact HB.out | apply below_alloc | apply pw_below_drewN | apply below_drew1) | exact HB.out)⟩⟩
 case rest =>
  clear HC4
  try clear c1
  try clear p2
  try clear c6
  try clear p6
  obtain ⟨kq, x18_3, rfl, HA, HJ3, HB⟩ := hcut
  cases kq with
  | zero => exact absurd HA.out (by simp [spec_HasPower.j0])
  | succ kj3 =>
   have H := HA.out
   clear HA
   simp only [spec_HasPower.j0] at H
   by_cases c8 : x18_3 = true
   ·subst c8
    have H1 : (some false) = some r := by rw [if_pos rfl] at H; exact H
    clear H
    have H := H1
    clear H1
    obtain rfl := Option.some.inj H
    go_wp2
    go_ret
    exact ⟨by first | rfl | (simp [errW_none, errW_some] <;> rfl) | (simp [*, errW_none, errW_some] <;> rfl), by repeat (first | (with_reducible first | exact HB.out | apply below_alloc | apply pw_below_drewN | apply below_drew1) | exact HB.out)⟩
   ·replace c8 := Bool.eq_false_iff.mpr c8
    subst c8
    have H1 : (spec_HasPower.l0 kj3 l0 a1 a2 0) = some r := by rw [if_neg (show ¬ (false = true) by decide)] at H; exact H
    clear H
    have H := H1
    clear H1
    have H' := Aside0.mk H
    clear H
    go_wp2
    go_loopg [7] kj3 (fun kq v7 w' => ∃ (x7_2 : Int), v7 = .int .i64 x7_2 ∧ Aside0 (spec_HasPower.l0 kq l0 a1 a2 x7_2 = some r) ∧ Aside0 (kq ≤ kj3) ∧ Aside0 (Below w.heap.size w w'))
    case atStart => exact ⟨(0), (by first | rfl | (simp; done) | (simp [*]; done)), H', ⟨Nat.le_refl _⟩, ⟨by repeat (first | (with_reducible first | exact HB.out | apply below_alloc | apply pw_below_drewN | apply below_drew1) | exact HB.out)⟩⟩
    case round =>
     clear H'
     try clear c1
     try clear p2
     try clear c6
     try clear p6
     try clear c8
     try clear p2
     try clear p6
     obtain ⟨x7_2, rfl, HA, HK2, HB⟩ := hrel
     cases gk with
     | zero => exact absurd HA.out (by simp [spec_HasPower.l0])
     | succ k2 =>
      have H := HA.out
      clear HA
      simp only [spec_HasPower.l0] at H
      have HC9 := Aside0.mk H
      clear H
      go_upto_region 4 with (fail)
      go_cut [27] (fun v27 wc => ∃ (kq : Nat) (x27_8 : Bool), v27 = .bool x27_8 ∧ Aside0 (spec_HasPower.j2 kq l0 a1 a2 x7_2 x27_8 = some r) ∧ Aside0 (kq ≤ k2) ∧ Aside0 (Below w.heap.size w wc))
      case first =>
       have H := HC9.out
       clear HC9
       by_cases c10 : x7_2 < (l0.length : Int)
       ·rw [if_pos c10] at H
        have c10b0 : decide (x7_2 < (l0.length : Int)) = true := decide_eq_true c10
        clear c10
        (first | rw [c10b0] | (simp only [i64_w, i32_w]; rw [c10b0]) | skip)
        have H' := Aside0.mk H
        clear H
        go_wp2
        go_meet
        case rel => exact ⟨_, (decide ((l0.length : Int) ≤ 128)), (by first | rfl | (simp; done) | (simp [*]; done)), H', ⟨by have := HJ3.out; have := HK2.out; first | omega | exact Nat.le_refl _⟩, ⟨by repeat (first | (with_reducible first | exact HB.out | apply below_alloc | apply pw_below_drewN | apply below_drew1) | exact HB.out)⟩⟩
       ·rw [if_neg c10] at H
        have c10b0 : decide (x7_2 < (l0.length : Int)) = false := decide_eq_false c10
        clear c10
        (first | rw [c10b0] | (simp only [i64_w, i32_w]; rw [c10b0]) | skip)
        have H' := Aside0.mk H
        clear H
        go_wp2
        go_meet
        case rel => exact ⟨_, (false), (by first | rfl | (simp; done) | (simp [*]; done)), H', ⟨by have := HJ3.out; have := HK2.out; first | omega | exact Nat.le_refl _⟩, ⟨by repeat (first | (with_reducible first | exact HB.out | apply below_alloc | apply pw_below_drewN | apply below_drew1) | exact HB.out)⟩⟩
      case rest =>
       clear HC9
       try clear c1
       try clear p2
       try clear c6
       try clear p6
       try clear c8
       try clear c10
       try clear c10b0
       try clear p2
       try clear p6
       obtain ⟨kq, x27_8, rfl, HA, HJ8, HB⟩ := hcut
       cases kq with
       | zero => exact absurd HA.out (by simp [spec_HasPower.j2])
       | succ kj8 =>
        have H := HA.out
        clear HA
        simp only [spec_HasPower.j2] at H
        by_cases c11 : x27_8 = true
        ·subst c11
         have H1 : (spec_HasPower.l1 kj8 l0 a1 a2 x7_2 1) = some r := by rw [if_pos rfl] at H; exact H
         clear H
         have H := H1
         clear H1
         have H' := Aside0.mk H
         clear H
         go_wp2
         go_loopg [8] kj8 (fun kq v8 w' => ∃ (x8_4 : Int), v8 = .int .i64 x8_4 ∧ Aside0 (spec_HasPower.l1 kq l0 a1 a2 x7_2 x8_4 = some r) ∧ Aside0 (kq ≤ kj8) ∧ Aside0 (Below w.heap.size w w'))
         case atStart => exact ⟨(1), (by first | rfl | (simp; done) | (simp [*]; done)), H', ⟨Nat.le_refl _⟩, ⟨by repeat (first | (with_reducible first | exact HB.out | apply below_alloc | apply pw_below_drewN | apply below_drew1) | exact HB.out)⟩⟩
         case round =>
          clear H'
          try clear c1
          try clear p2
          try clear c6
          try clear p6
          try clear c8
          try clear c10
          try clear c10b0
          try clear c11
          try clear p2
          try clear p6
          obtain ⟨x8_4, rfl, HA, HK4, HB⟩ := hrel
          cases gk with
          | zero => exact absurd HA.out (by simp [spec_HasPower.l1])
          | succ k4 =>
           have H := HA.out
           clear HA
           simp only [spec_HasPower.l1] at H
           by_cases c12 : (wrap64 (x7_2 + x8_4)) < (l0.length : Int)
           ·rw [if_pos c12] at H
            have c12b0 : decide ((wrap64 (x7_2 + x8_4)) < (l0.length : Int)) = true := decide_eq_true c12
            clear c12
            replace H := Option.bind_eq_some_iff.mp H
            obtain ⟨t396, A130, H⟩ := H
            replace H : (if (wrap64 (t396 * a2)) ≥ (wrap64 (x8_4 * a1)) then (some true) else (spec_HasPower.l1 k4 l0 a1 a2 x7_2 (wrap64 (x8_4 + 1)))) = some r := H
            have A13 := Aside0.mk A130
            clear A130
            by_cases c14 : (wrap64 (t396 * a2)) ≥ (wrap64 (x8_4 * a1))
            ·rw [if_pos c14] at H
             have c14b0 : decide ((wrap64 (x8_4 * a1)) ≤ (wrap64 (t396 * a2))) = true := decide_eq_true c14
             clear c14
             obtain rfl := Option.some.inj H
             go_wp2_with (first | ((with_reducible refine gate_callee (f := 162) rfl ?_); refine goesL_ (some 41) rfl rfl Try.func162 (by kernel_rfl) rfl #[.slice A0 l0.length c0, .int .i64 x7_2, .int .i64 x8_4] rfl (by (try simp only [List.map_toArray, List.map_cons, List.map_nil]); first | done | rfl | (simp only [List.length_drop, List.length_take]; rfl)) ?_; (with_reducible refine (spec_l10Match.calls k4 _ _ l0 x7_2 x8_4 t396 _ ?side1 ?side2 A13.out).mono ?_); (case side1 => repeat (first | exact (Kd.C_below HR0.out HB.out) | (with_reducible refine Kd.C_alloc ?_ _) | (with_reducible refine Kd.C_drewN ?_ _) | (with_reducible refine Kd.C_drew ?_))); (case side2 => exact HC0.out); rintro e w15 ⟨rfl, hb⟩; refine ⟨_, rfl, ?_⟩; have n0_ := Aside0.mk (below_step (by repeat (first | (with_reducible first | exact HB.out | apply below_alloc | apply pw_below_drewN | apply below_drew1) | exact HB.out)) hb); clear HB; have HB := n0_; clear n0_; (try clear hb); (try clear hb2); (try clear hk); (try clear hi)))
             go_ret
             exact ⟨by first | rfl | (simp [errW_none, errW_some] <;> rfl) | (simp [*, errW_none, errW_some] <;> rfl), by repeat (first | (with_reducible first | exact HB.out | apply below_alloc | apply pw_below_drewN | apply below_drew1) | exact HB.out)⟩
            ·rw [if_neg c14] at H
             have c14b0 : decide ((wrap64 (x8_4 * a1)) ≤ (wrap64 (t396 * a2))) = false := decide_eq_false c14
             clear c14
             have H' := Aside0.mk H
             clear H
             go_wp2_with (first | ((with_reducible refine gate_callee (f := 162) rfl ?_); refine goesL_ (some 41) rfl rfl Try.func162 (by kernel_rfl) rfl #[.slice A0 l0.length c0, .int .i64 x7_2, .int .i64 x8_4] rfl (by (try simp only [List.map_toArray, List.map_cons, List.map_nil]); first | done | rfl | (simp only [List.length_drop, List.length_take]; rfl)) ?_; (with_reducible refine (spec_l10Match.calls k4 _ _ l0 x7_2 x8_4 t396 _ ?side1 ?side2 A13.out).mono ?_); (case side1 => repeat (first | exact (Kd.C_below HR0.out HB.out) | (with_reducible refine Kd.C_alloc ?_ _) | (with_reducible refine Kd.C_drewN ?_ _) | (with_reducible refine Kd.C_drew ?_))); (case side2 => exact HC0.out); rintro e w16 ⟨rfl, hb⟩; refine ⟨_, rfl, ?_⟩; have n0_ := Aside0.mk (below_step (by repeat (first | (with_reducible first | exact HB.out | apply below_alloc | apply pw_below_drewN | apply below_drew1) | exact HB.out)) hb); clear HB; have HB := n0_; clear n0_; (try clear hb); (try clear hb2); (try clear hk); (try clear hi)))
             go_roundg k4
             case measure => have := HJ3.out; have := HK2.out; have := HJ8.out; have := HK4.out; omega
             case rel => exact ⟨(wrap64 (x8_4 + 1)), (by first | rfl | (simp; done) | (simp [*]; done)), H', ⟨by have := HJ3.out; have := HK2.out; have := HJ8.out; have := HK4.out; omega⟩, ⟨by repeat (first | (with_reducible first | exact HB.out | apply below_alloc | apply pw_below_drewN | apply below_drew1) | exact HB.out)⟩⟩
           ·rw [if_neg c12] at H
            have c12b0 : decide ((wrap64 (x7_2 + x8_4)) < (l0.length : Int)) = false := decide_eq_false c12
            clear c12
            have H' := Aside0.mk H
            clear H
            go_wp2
            go_roundg k4
            case measure => have := HJ3.out; have := HK2.out; have := HJ8.out; have := HK4.out; omega
            case rel => exact ⟨(wrap64 (x7_2 + 1)), (by first | rfl | (simp; done) | (simp [*]; done)), H', ⟨by have := HJ3.out; have := HK2.out; have := HJ8.out; have := HK4.out; omega⟩, ⟨by repeat (first | (with_reducible first | exact HB.out | apply below_alloc | apply pw_below_drewN | apply below_drew1) | exact HB.out)⟩⟩
        ·replace c11 := Bool.eq_false_iff.mpr c11
         subst c11
         have H1 : (some false) = some r := by rw [if_neg (show ¬ (false = true) by decide)] at H; exact H
         clear H
         have H := H1
         clear H1
         obtain rfl := Option.some.inj H
         go_wp2
         go_ret
         exact ⟨by first | rfl | (simp [errW_none, errW_some] <;> rfl) | (simp [*, errW_none, errW_some] <;> rfl), by repeat (first | (with_reducible first | exact HB.out | apply below_alloc | apply pw_below_drewN | apply below_drew1) | exact HB.out)⟩

end Go.Proofs.Ytooamcjgejajeaa.M
/- Walks for this claim, written by a program of mine over the kit's print. No condition of mine. -/
namespace Go.Proofs.Ytooamcjgejajeaa.M
open Go.RowKit Go.Proofs.Ytooamcjgejajeaa.KW Go.Proofs.YtooamcjgejajeaaW.PrintWords Go.Proofs.YtooamcjgejajeaaW.PrintLast Go.Proofs.YtooamcjgejajeaaW.PrintMore
attribute [local go_sem] max2_int min2_int max_two min_two max_three min_three max_four min_four   -- for this text's walks alone
set_option linter.unusedVariables false
set_option linter.unusedSimpArgs false

/-! ### spec_HasSquare: function 44 -/
def spec_HasSquare.f (k : Nat) (l0 : List Int) : Option (Bool) := (spec_HasPower.f k l0 2 1).bind fun t397 => (some t397)
theorem spec_HasSquare.mono : ∀ a0 k, LeO (spec_HasSquare.f k a0) (spec_HasSquare.f (k + 1) a0) := by
 intro a0 k
 unfold spec_HasSquare.f
 repeat' first
   | (with_reducible exact spec_HasPower.mono _ _ _ _)
   | (with_reducible exact LeO.refl _)
   | (with_reducible exact LeO.none _)
   | (with_reducible refine LeO.ite ?_ ?_)
   | (with_reducible refine LeO.bind ?_ (fun _ => ?_))
   | exact spec_HasPower.mono _ _ _ _
   | exact LeO.none _
   | refine LeO.ite ?_ ?_
   | refine LeO.bind ?_ (fun _ => ?_)
set_option maxHeartbeats 8000000 in
set_option maxRecDepth 100000 in
theorem spec_HasSquare.calls (k : Nat) (A0 : Option Addr) (c0 : Nat) (l0 : List Int) (r : Bool) (w : World) (hr0 : Kd.C (Kd.int .i64) w A0 l0.length l0) (hc0 : l0.length ≤ c0) (h : spec_HasSquare.f k l0 = some r) :
  Calls Try.prog 44 #[.slice A0 l0.length c0] w fun e w' => e = .returned (.bool r) ∧ Below w.heap.size w w' := by
 have HR0 := Aside0.mk hr0
 have HC0 := Aside0.mk hc0
 clear hr0 hc0
 have HB := Aside0.mk (Below.refl w.heap.size w)
 have H : ((spec_HasPower.f k l0 2 1).bind fun t397 => (some t397)) = some r := h
 clear h
 replace H := Option.bind_eq_some_iff.mp H
 obtain ⟨t397, A20, H⟩ := H
 replace H : (some t397) = some r := H
 have A2 := Aside0.mk A20
 clear A20
 obtain rfl := Option.some.inj H
 go_enter Try.func44, Try.ntmps44
 go_wp2_with (first | ((with_reducible refine gate_callee (f := 123) rfl ?_); refine goesL_ (some 4) rfl rfl Try.func123 (by kernel_rfl) rfl #[.slice A0 l0.length c0, .int .i64 2, .int .i64 1] rfl (by (try simp only [List.map_toArray, List.map_cons, List.map_nil]); first | done | rfl | (simp only [List.length_drop, List.length_take]; rfl)) ?_; (with_reducible refine (spec_HasPower.calls k _ _ l0 2 1 t397 _ ?side1 ?side2 A2.out).mono ?_); (case side1 => repeat (first | exact HR0.out | (with_reducible refine Kd.C_alloc ?_ _) | (with_reducible refine Kd.C_drewN ?_ _) | (with_reducible refine Kd.C_drew ?_))); (case side2 => exact HC0.out); rintro e w3 ⟨rfl, hb⟩; refine ⟨_, rfl, ?_⟩; have n0_ := Aside0.mk (below_step (by repeat (first | (with_reducible first | exact HB.out | apply below_alloc | apply pw_below_drewN | apply below_drew1) | exact HB.out)) hb); clear HB; have HB := n0_; clear n0_; (try clear hb); (try clear hb2); (try clear hk); (try clear hi)))
 go_ret
 exact ⟨by first | rfl | (simp [errW_none, errW_some] <;> rfl) | (simp [*, errW_none, errW_some] <;> rfl), by repeat (first | (with_reducible first | exact HB.out | apply below_alloc | apply pw_below_drewN | apply below_drew1) | exact HB.out)⟩

end Go.Proofs.Ytooamcjgejajeaa.M
/- Walks for this claim, written by a program of mine over the kit's print. No condition of mine. -/
namespace Go.Proofs.Ytooamcjgejajeaa.M
open Go.RowKit Go.Proofs.Ytooamcjgejajeaa.KW Go.Proofs.YtooamcjgejajeaaW.PrintWords Go.Proofs.YtooamcjgejajeaaW.PrintLast Go.Proofs.YtooamcjgejajeaaW.PrintMore
attribute [local go_sem] max2_int min2_int max_two min_two max_three min_three max_four min_four   -- for this text's walks alone
set_option linter.unusedVariables false
set_option linter.unusedSimpArgs false

/-! ### spec_HasOverlap: function 117 -/
mutual
def spec_HasOverlap.l0 : Nat → List Int → Int → Option (Bool)
 | 0, _, _ => none
 | k + 1, x0, x3 => if x3 < (x0.length : Int) then (spec_HasOverlap.j1 k x0 x3 (decide ((x0.length : Int) ≤ 128))) else (spec_HasOverlap.j1 k x0 x3 false)
def spec_HasOverlap.j1 : Nat → List Int → Int → Bool → Option (Bool)
 | 0, _, _, _ => none
 | k + 1, x0, x3, x13 => if x13 = true then (spec_HasOverlap.l1 k x0 x3 1) else (some false)
def spec_HasOverlap.l1 : Nat → List Int → Int → Int → Option (Bool)
 | 0, _, _, _ => none
 | k + 1, x0, x3, x4 => if (wrap64 (x3 + (wrap64 (2 * x4)))) < (x0.length : Int) then ((spec_l10Match.f k x0 x3 x4).bind fun t398 => (if t398 > (wrap64 (2 * x4)) then (some true) else (spec_HasOverlap.l1 k x0 x3 (wrap64 (x4 + 1))))) else (spec_HasOverlap.l0 k x0 (wrap64 (x3 + 1)))
end
def spec_HasOverlap.f (k : Nat) (l0 : List Int) : Option (Bool) := spec_HasOverlap.l0 k l0 0
theorem spec_HasOverlap.mono_l : ∀ k, (∀ y0 y1, LeO (spec_HasOverlap.l0 k y0 y1) (spec_HasOverlap.l0 (k + 1) y0 y1)) ∧ (∀ y0 y1 y2, LeO (spec_HasOverlap.j1 k y0 y1 y2) (spec_HasOverlap.j1 (k + 1) y0 y1 y2)) ∧ (∀ y0 y1 y2, LeO (spec_HasOverlap.l1 k y0 y1 y2) (spec_HasOverlap.l1 (k + 1) y0 y1 y2))
 | 0 => ⟨fun _ _ r h => by simp [spec_HasOverlap.l0] at h, fun _ _ _ r h => by simp [spec_HasOverlap.j1] at h, fun _ _ _ r h => by simp [spec_HasOverlap.l1] at h⟩
 | k + 1 => by
  obtain ⟨ih0, ih1, ih2⟩ := spec_HasOverlap.mono_l k
  refine ⟨?_, ?_, ?_⟩
  ·intro y0 y1
   unfold spec_HasOverlap.l0
   repeat' first
   | (with_reducible exact ih0 _ _)
   | (with_reducible exact ih1 _ _ _)
   | (with_reducible exact ih2 _ _ _)
   | (with_reducible exact spec_l10Match.mono _ _ _ _)
   | (with_reducible exact LeO.refl _)
   | (with_reducible exact LeO.none _)
   | (with_reducible refine LeO.ite ?_ ?_)
   | (with_reducible refine LeO.bind ?_ (fun _ => ?_))
   | exact ih0 _ _
   | exact ih1 _ _ _
   | exact ih2 _ _ _
   | exact spec_l10Match.mono _ _ _ _
   | exact LeO.none _
   | refine LeO.ite ?_ ?_
   | refine LeO.bind ?_ (fun _ => ?_)
  ·intro y0 y1 y2
   unfold spec_HasOverlap.j1
   repeat' first
   | (with_reducible exact ih0 _ _)
   | (with_reducible exact ih1 _ _ _)
   | (with_reducible exact ih2 _ _ _)
   | (with_reducible exact spec_l10Match.mono _ _ _ _)
   | (with_reducible exact LeO.refl _)
   | (with_reducible exact LeO.none _)
   | (with_reducible refine LeO.ite ?_ ?_)
   | (with_reducible refine LeO.bind ?_ (fun _ => ?_))
   | exact ih0 _ _
   | exact ih1 _ _ _
   | exact ih2 _ _ _
   | exact spec_l10Match.mono _ _ _ _
   | exact LeO.none _
   | refine LeO.ite ?_ ?_
   | refine LeO.bind ?_ (fun _ => ?_)
  ·intro y0 y1 y2
   unfold spec_HasOverlap.l1
   repeat' first
   | (with_reducible exact ih0 _ _)
   | (with_reducible exact ih1 _ _ _)
   | (with_reducible exact ih2 _ _ _)
   | (with_reducible exact spec_l10Match.mono _ _ _ _)
   | (with_reducible exact LeO.refl _)
   | (with_reducible exact LeO.none _)
   | (with_reducible refine LeO.ite ?_ ?_)
   | (with_reducible refine LeO.bind ?_ (fun _ => ?_))
   | exact ih0 _ _
   | exact ih1 _ _ _
   | exact ih2 _ _ _
   | exact spec_l10Match.mono _ _ _ _
   | exact LeO.none _
   | refine LeO.ite ?_ ?_
   | refine LeO.bind ?_ (fun _ => ?_)
theorem spec_HasOverlap.mono : ∀ a0 k, LeO (spec_HasOverlap.f k a0) (spec_HasOverlap.f (k + 1) a0) := by
 intro a0 k
 obtain ⟨ih0, ih1, ih2⟩ := spec_HasOverlap.mono_l k
 unfold spec_HasOverlap.f
 repeat' first
   | (with_reducible exact ih0 _ _)
   | (with_reducible exact ih1 _ _ _)
   | (with_reducible exact ih2 _ _ _)
   | (with_reducible exact spec_l10Match.mono _ _ _ _)
   | (with_reducible exact LeO.refl _)
   | (with_reducible exact LeO.none _)
   | (with_reducible refine LeO.ite ?_ ?_)
   | (with_reducible refine LeO.bind ?_ (fun _ => ?_))
   | exact ih0 _ _
   | exact ih1 _ _ _
   | exact ih2 _ _ _
   | exact spec_l10Match.mono _ _ _ _
   | exact LeO.none _
   | refine LeO.ite ?_ ?_
   | refine LeO.bind ?_ (fun _ => ?_)
set_option maxHeartbeats 8000000 in
set_option maxRecDepth 100000 in
theorem spec_HasOverlap.calls (k : Nat) (A0 : Option Addr) (c0 : Nat) (l0 : List Int) (r : Bool) (w : World) (hr0 : Kd.C (Kd.int .i64) w A0 l0.length l0) (hc0 : l0.length ≤ c0) (h : spec_HasOverlap.f k l0 = some r) :
  Calls Try.prog 117 #[.slice A0 l0.length c0] w fun e w' => e = .returned (.bool r) ∧ Below w.heap.size w w' := by
 have HR0 := Aside0.mk hr0
 have HC0 := Aside0.mk hc0
 clear hr0 hc0
 have HB := Aside0.mk (Below.refl w.heap.size w)
 have H : (spec_HasOverlap.l0 k l0 0) = some r := h
 clear h
 have H' := Aside0.mk H
 clear H
 go_enter Try.func117, Try.ntmps117
 go_wp2
 go_loopg [3] k (fun kq v3 w' => ∃ (x3_1 : Int), v3 = .int .i64 x3_1 ∧ Aside0 (spec_HasOverlap.l0 kq l0 x3_1 = some r) ∧ Aside0 (kq ≤ k) ∧ Aside0 (Below w.heap.size w w'))
 case atStart => exact ⟨(0), (by first | rfl | (simp; done) | (simp [*]; done)), H', ⟨Nat.le_refl _⟩, ⟨by repeat (first | (with_reducible first | exact HB.out | apply below_alloc | apply pw_below_drewN | apply below_drew1) | exact HB.out)⟩⟩
 case round =>
  clear H'
  try clear c1
  obtain ⟨x3_1, rfl, HA, HK1, HB⟩ := hrel
  cases gk with
  | zero => exact absurd HA.out (by simp [spec_HasOverlap.l0])
  | succ k1 =>
   have H := HA.out
   clear HA
   simp only [spec_HasOverlap.l0] at H
   have HC2 := Aside0.mk H
   clear H
   go_upto_region 2 with (fail)
   go_cut [13] (fun v13 wc => ∃ (kq : Nat) (x13_1 : Bool), v13 = .bool x13_1 ∧ Aside0 (spec_HasOverlap.j1 kq l0 x3_1 x13_1 = some r) ∧ Aside0 (kq ≤ k1) ∧ Aside0 (Below w.heap.size w wc))
   case first =>
    have H := HC2.out
    clear HC2
    by_cases c3 : x3_1 < (l0.length : Int)
    ·rw [if_pos c3] at H
     have c3b0 : decide (x3_1 < (l0.length : Int)) = true := decide_eq_true c3
     clear c3
     (first | rw [c3b0] | (simp only [i64_w, i32_w]; rw [c3b0]) | skip)
     have H' := Aside0.mk H
     clear H
     go_wp2
     go_meet
     case rel => exact ⟨_, (decide ((l0.length : Int) ≤ 128)), (by first | rfl | (simp; done) | (simp [*]; done)), H', ⟨by have := HK1.out; first | omega | exact Nat.le_refl _⟩, ⟨by repeat (first | (with_reducible first | exact HB.out | apply below_alloc | apply pw_below_drewN | apply below_drew1) | exact HB.out)⟩⟩
    ·rw [if_neg c3] at H
     have c3b0 : decide (x3_1 < (l0.length : Int)) = false := decide_eq_false c3
     clear c3
     (first | rw [c3b0] | (simp only [i64_w, i32_w]; rw [c3b0]) | skip)
     have H' := Aside0.mk H
     clear H
     go_wp2
     go_meet
     case rel => exact ⟨_, (false), (by first | rfl | (simp; done) | (simp [*]; done)), H', ⟨by have := HK1.out; first | omega | exact Nat.le_refl _⟩, ⟨by repeat (first | (with_reducible first | exact HB.out | apply below_alloc | apply pw_below_drewN | apply below_drew1) | exact HB.out)⟩⟩
   case rest =>
    clear HC2
    try clear c1
    try clear p2
    try clear c3
    try clear c3b0
    obtain ⟨kq, x13_1, rfl, HA, HJ1, HB⟩ := hcut
    cases kq with
    | zero => exact absurd HA.out (by simp [spec_HasOverlap.j1])
    | succ kj1 =>
     have H := HA.out
     clear HA
     simp only [spec_HasOverlap.j1] at H
     by_cases c4 : x13_1 = true
     ·subst c4
      have H1 : (spec_HasOverlap.l1 kj1 l0 x3_1 1) = some r := by rw [if_pos rfl] at H; exact H
      clear H
      have H := H1
      clear H1
      have H' := Aside0.mk H
      clear H
      go_wp2
      go_loopg [4] kj1 (fun kq v4 w' => ∃ (x4_3 : Int), v4 = .int .i64 x4_3 ∧ Aside0 (spec_HasOverlap.l1 kq l0 x3_1 x4_3 = some r) ∧ Aside0 (kq ≤ kj1) ∧ Aside0 (Below w.heap.size w w'))
      case atStart => exact ⟨(1), (by first | rfl | (simp; done) | (simp [*]; done)), H', ⟨Nat.le_refl _⟩, ⟨by repeat (first | (with_reducible first | exact HB.out | apply below_alloc | apply pw_below_drewN | apply below_drew1) | exact HB.out)⟩⟩
      case round =>
       clear H'
       try clear c1
       try clear p2
       try clear c3
       try clear c3b0
       try clear c4
       try clear p2
       obtain ⟨x4_3, rfl, HA, HK3, HB⟩ := hrel
       cases gk with
       | zero => exact absurd HA.out (by simp [spec_HasOverlap.l1])
       | succ k3 =>
        have H := HA.out
        clear HA
        simp only [spec_HasOverlap.l1] at H
        by_cases c5 : (wrap64 (x3_1 + (wrap64 (2 * x4_3)))) < (l0.length : Int)
        ·rw [if_pos c5] at H
         have c5b0 : decide ((wrap64 (x3_1 + (wrap64 (2 * x4_3)))) < (l0.length : Int)) = true := decide_eq_true c5
         clear c5
         replace H := Option.bind_eq_some_iff.mp H
         obtain ⟨t398, A60, H⟩ := H
         replace H : (if t398 > (wrap64 (2 * x4_3)) then (some true) else (spec_HasOverlap.l1 k3 l0 x3_1 (wrap64 (x4_3 + 1)))) = some r := H
         have A6 := Aside0.mk A60
         clear A60
         by_cases c7 : t398 > (wrap64 (2 * x4_3))
         ·rw [if_pos c7] at H
          have c7b0 : decide ((wrap64 (2 * x4_3)) < t398) = true := decide_eq_true c7
          clear c7
          obtain rfl := Option.some.inj H
          go_wp2_with (first | ((with_reducible refine gate_callee (f := 162) rfl ?_); refine goesL_ (some 28) rfl rfl Try.func162 (by kernel_rfl) rfl #[.slice A0 l0.length c0, .int .i64 x3_1, .int .i64 x4_3] rfl (by (try simp only [List.map_toArray, List.map_cons, List.map_nil]); first | done | rfl | (simp only [List.length_drop, List.length_take]; rfl)) ?_; (with_reducible refine (spec_l10Match.calls k3 _ _ l0 x3_1 x4_3 t398 _ ?side1 ?side2 A6.out).mono ?_); (case side1 => repeat (first | exact (Kd.C_below HR0.out HB.out) | (with_reducible refine Kd.C_alloc ?_ _) | (with_reducible refine Kd.C_drewN ?_ _) | (with_reducible refine Kd.C_drew ?_))); (case side2 => exact HC0.out); rintro e w8 ⟨rfl, hb⟩; refine ⟨_, rfl, ?_⟩; have n0_ := Aside0.mk (below_step (by repeat (first | (with_reducible first | exact HB.out | apply below_alloc | apply pw_below_drewN | apply below_drew1) | exact HB.out)) hb); clear HB; have HB := n0_; clear n0_; (try clear hb); (try clear hb2); (try clear hk); (try clear hi)))
          go_ret
          exact ⟨by first | rfl | (simp [errW_none, errW_some] <;> rfl) | (simp [*, errW_none, errW_some] <;> rfl), by repeat (first | (with_reducible first | exact HB.out | apply below_alloc | apply pw_below_drewN | apply below_drew1) | exact HB.out)⟩
         ·rw [if_neg c7] at H
          have c7b0 : decide ((wrap64 (2 * x4_3)) < t398) = false := decide_eq_false c7
          clear c7
          have H' := Aside0.mk H
          clear H
          go_wp2_with (first | ((with_reducible refine gate_callee (f := 162) rfl ?_); refine goesL_ (some 28) rfl rfl Try.func162 (by kernel_rfl) rfl #[.slice A0 l0.length c0, .int .i64 x3_1, .int .i64 x4_3] rfl (by (try simp only [List.map_toArray, List.map_cons, List.map_nil]); first | done | rfl | (simp only [List.length_drop, List.length_take]; rfl)) ?_; (with_reducible refine (spec_l10Match.calls k3 _ _ l0 x3_1 x4_3 t398 _ ?side1 ?side2 A6.out).mono ?_); (case side1 => repeat (first | exact (Kd.C_below HR0.out HB.out) | (with_reducible refine Kd.C_alloc ?_ _) | (with_reducible refine Kd.C_drewN ?_ _) | (with_reducible refine Kd.C_drew ?_))); (case side2 => exact HC0.out); rintro e w9 ⟨rfl, hb⟩; refine ⟨_, rfl, ?_⟩; have n0_ := Aside0.mk (below_step (by repeat (first | (with_reducible first | exact HB.out | apply below_alloc | apply pw_below_drewN | apply below_drew1) | exact HB.out)) hb); clear HB; have HB := n0_; clear n0_; (try clear hb); (try clear hb2); (try clear hk); (try clear hi)))
          go_roundg k3
          case measure => have := HK1.out; have := HJ1.out; have := HK3.out; omega
          case rel => exact ⟨(wrap64 (x4_3 + 1)), (by first | rfl | (simp; done) | (simp [*]; done)), H', ⟨by have := HK1.out; have := HJ1.out; have := HK3.out; omega⟩, ⟨by repeat (first | (with_reducible first | exact HB.out | apply below_alloc | apply pw_below_drewN | apply below_drew1) | exact HB.out)⟩⟩
        ·rw [if_neg c5] at H
         have c5b0 : decide ((wrap64 (x3_1 + (wrap64 (2 * x4_3)))) < (l0.length : Int)) = false := decide_eq_false c5
         clear c5
         have H' := Aside0.mk H
         clear H
         go_wp2
         go_roundg k3
         case measure => have := HK1.out; have := HJ1.out; have := HK3.out; omega
         case rel => exact ⟨(wrap64 (x3_1 + 1)), (by first | rfl | (simp; done) | (simp [*]; done)), H', ⟨by have := HK1.out; have := HJ1.out; have := HK3.out; omega⟩, ⟨by repeat (first | (with_reducible first | exact HB.out | apply below_alloc | apply pw_below_drewN | apply below_drew1) | exact HB.out)⟩⟩
     ·replace c4 := Bool.eq_false_iff.mpr c4
      subst c4
      have H1 : (some false) = some r := by rw [if_neg (show ¬ (false = true) by decide)] at H; exact H
      clear H
      have H := H1
      clear H1
      obtain rfl := Option.some.inj H
      go_wp2
      go_ret
      exact ⟨by first | rfl | (simp [errW_none, errW_some] <;> rfl) | (simp [*, errW_none, errW_some] <;> rfl), by repeat (first | (with_reducible first | exact HB.out | apply below_alloc | apply pw_below_drewN | apply below_drew1) | exact HB.out)⟩

end Go.Proofs.Ytooamcjgejajeaa.M
/- Walks for this claim, written by a program of mine over the kit's print. No condition of mine. -/
namespace Go.Proofs.Ytooamcjgejajeaa.M
open Go.RowKit Go.Proofs.Ytooamcjgejajeaa.KW Go.Proofs.YtooamcjgejajeaaW.PrintWords Go.Proofs.YtooamcjgejajeaaW.PrintLast Go.Proofs.YtooamcjgejajeaaW.PrintMore
attribute [local go_sem] max2_int min2_int max_two min_two max_three min_three max_four min_four   -- for this text's walks alone
set_option linter.unusedVariables false
set_option linter.unusedSimpArgs false

/-! ### impl_longestRepeat: function 124 -/
def impl_longestRepeat.l0 : Nat → List Int → Int → Int → Int → Int → Option (Int)
 | 0, _, _, _, _, _ => none
 | k + 1, x0, x1, x5, x6, x7 => if (wrap64 (x7 + x1)) < (x0.length : Int) then (if 0 ≤ x7 then (if x7 < (x0.length : Int) then (if 0 ≤ (wrap64 (x7 + x1)) then (if (rd x0 x7) = (rd x0 (wrap64 (x7 + x1))) then (impl_longestRepeat.l0 k x0 x1 (mx x5 (wrap64 (x6 + 1))) (wrap64 (x6 + 1)) (wrap64 (x7 + 1))) else (impl_longestRepeat.l0 k x0 x1 x5 0 (wrap64 (x7 + 1)))) else (none)) else (none)) else (none)) else (some (wrap64 (x5 + x1)))
def impl_longestRepeat.f (k : Nat) (l0 : List Int) (a1 : Int) : Option (Int) := impl_longestRepeat.l0 k l0 a1 0 0 0
theorem impl_longestRepeat.mono_l : ∀ k, (∀ y0 y1 y2 y3 y4, LeO (impl_longestRepeat.l0 k y0 y1 y2 y3 y4) (impl_longestRepeat.l0 (k + 1) y0 y1 y2 y3 y4))
 | 0 => fun _ _ _ _ _ r h => by simp [impl_longestRepeat.l0] at h
 | k + 1 => by
  have ih0 := impl_longestRepeat.mono_l k
  ·intro y0 y1 y2 y3 y4
   unfold impl_longestRepeat.l0
   repeat' first
   | (with_reducible exact ih0 _ _ _ _ _)
   | (with_reducible exact LeO.refl _)
   | (with_reducible exact LeO.none _)
   | (with_reducible refine LeO.ite ?_ ?_)
   | (with_reducible refine LeO.bind ?_ (fun _ => ?_))
   | exact ih0 _ _ _ _ _
   | exact LeO.none _
   | refine LeO.ite ?_ ?_
   | refine LeO.bind ?_ (fun _ => ?_)
theorem impl_longestRepeat.mono : ∀ a0 a1 k, LeO (impl_longestRepeat.f k a0 a1) (impl_longestRepeat.f (k + 1) a0 a1) := by
 intro a0 a1 k
 have ih0 := impl_longestRepeat.mono_l k
 unfold impl_longestRepeat.f
 repeat' first
   | (with_reducible exact ih0 _ _ _ _ _)
   | (with_reducible exact LeO.refl _)
   | (with_reducible exact LeO.none _)
   | (with_reducible refine LeO.ite ?_ ?_)
   | (with_reducible refine LeO.bind ?_ (fun _ => ?_))
   | exact ih0 _ _ _ _ _
   | exact LeO.none _
   | refine LeO.ite ?_ ?_
   | refine LeO.bind ?_ (fun _ => ?_)
set_option maxHeartbeats 8000000 in
set_option maxRecDepth 100000 in
theorem impl_longestRepeat.calls (k : Nat) (A0 : Option Addr) (c0 : Nat) (l0 : List Int) (a1 : Int) (r : Int) (w : World) (hr0 : Kd.C (Kd.int .i64) w A0 l0.length l0) (hc0 : l0.length ≤ c0) (h : impl_longestRepeat.f k l0 a1 = some r) :
  Calls Try.prog 124 #[.slice A0 l0.length c0, .int .i64 a1] w fun e w' => e = .returned (.int .i64 r) ∧ Below w.heap.size w w' := by
 have HR0 := Aside0.mk hr0
 have HC0 := Aside0.mk hc0
 clear hr0 hc0
 have HB := Aside0.mk (Below.refl w.heap.size w)
 have H : (impl_longestRepeat.l0 k l0 a1 0 0 0) = some r := h
 clear h
 have H' := Aside0.mk H
 clear H
 go_enter Try.func124, Try.ntmps124
 go_wp2
 repeat (go_quiet (fail); try go_wp2)
 go_loopg [5, 6, 7] k (fun kq v5 v6 v7 w' => ∃ (x5_1 : Int) (x6_1 : Int) (x7_1 : Int), v5 = .int .i64 x5_1 ∧ v6 = .int .i64 x6_1 ∧ v7 = .int .i64 x7_1 ∧ Aside0 (impl_longestRepeat.l0 kq l0 a1 x5_1 x6_1 x7_1 = some r) ∧ Aside0 (kq ≤ k) ∧ Aside0 (Below w.heap.size w w'))
 case atStart => exact ⟨(0), (0), (0), (by first | rfl | (simp; done) | (simp [*]; done)), (by first | rfl | (simp; done) | (simp [*]; done)), (by first | rfl | (simp; done) | (simp [*]; done)), H', ⟨Nat.le_refl _⟩, ⟨by repeat (first | (with_reducible first | exact HB.out | apply below_alloc | apply pw_below_drewN | apply below_drew1) | exact HB.out)⟩⟩
 case round =>
  clear H'
  try clear c1
  try clear p2
  obtain ⟨x5_1, x6_1, x7_1, rfl, rfl, rfl, HA, HK1, HB⟩ := hrel
  cases gk with
  | zero => exact absurd HA.out (by simp [impl_longestRepeat.l0])
  | succ k1 =>
   have H := HA.out
   clear HA
   simp only [impl_longestRepeat.l0] at H
   by_cases c3 : (wrap64 (x7_1 + a1)) < (l0.length : Int)
   ·rw [if_pos c3] at H
    have c3b0 : decide ((wrap64 (x7_1 + a1)) < (l0.length : Int)) = true := decide_eq_true c3
    clear c3
    by_cases c4 : 0 ≤ x7_1
    ·rw [if_pos c4] at H
     have c4b0 : decide (0 ≤ x7_1) = true := decide_eq_true c4
     clear c4
     by_cases c5 : x7_1 < (l0.length : Int)
     ·rw [if_pos c5] at H
      have c5b0 : decide (x7_1 < (l0.length : Int)) = true := decide_eq_true c5
      clear c5
      obtain ⟨ji6, hji6⟩ : ∃ j_ : Int, (wrap64 (x7_1 + a1)) = j_ := ⟨_, rfl⟩
      replace H : (if 0 ≤ (ji6) then (if (rd l0 x7_1) = (rd l0 (ji6)) then (impl_longestRepeat.l0 k1 l0 a1 (mx x5_1 (wrap64 (x6_1 + 1))) (wrap64 (x6_1 + 1)) (wrap64 (x7_1 + 1))) else (impl_longestRepeat.l0 k1 l0 a1 x5_1 0 (wrap64 (x7_1 + 1)))) else (none)) = some r := by first | (rw [hji6] at H; exact H) | (simp only [hji6] at H ⊢; exact H)
      (try rw [hji6] at c3b0)
      have hji6w : (IntKind.i64.wrap (x7_1 + a1)) = ji6 := (i64_w _).trans hji6
      by_cases c7 : 0 ≤ (ji6)
      ·rw [if_pos c7] at H
       have c7b0 : decide (0 ≤ (ji6)) = true := decide_eq_true c7
       clear c7
       by_cases c8 : (rd l0 x7_1) = (rd l0 (ji6))
       ·rw [if_pos c8] at H
        have c8b0 : ((rd l0 x7_1) == (rd l0 (ji6))) = true := beq_iff_eq.mpr c8
        have c8b1 : ((rd l0 x7_1) != (rd l0 (ji6))) = false := bne_eq_false_iff_eq.mpr c8
        clear c8
        obtain ⟨ji9, hji9⟩ : ∃ j_ : Int, (mx x5_1 (wrap64 (x6_1 + 1))) = j_ := ⟨_, rfl⟩
        replace H : (impl_longestRepeat.l0 k1 l0 a1 ji9 (wrap64 (x6_1 + 1)) (wrap64 (x7_1 + 1))) = some r := by first | (rw [hji9] at H; exact H) | (simp only [hji9] at H ⊢; exact H)
        have hji9_ : (if x5_1 < (wrap64 (x6_1 + 1)) then (wrap64 (x6_1 + 1)) else x5_1) = ji9 := hji9
        have H' := Aside0.mk H
        clear H
        have p438 : 0 ≤ (x7_1 : Int) := of_decide_eq_true (by first | (with_reducible assumption) | assumption)
        have q438 : x7_1 < (l0.length : Int) := of_decide_eq_true (by first | (with_reducible assumption) | assumption)
        obtain ⟨ad438, e438, hx438_0⟩ := Kd.at_int HR0.out x7_1 p438 q438
        cases e438
        replace hx438_0 := (HB.out.cell (World.block_lt_of_cell? w _ hx438_0)).trans hx438_0
        replace p438 := eq_true p438
        replace q438 := eq_true q438
        have p439 : 0 ≤ ((ji6) : Int) := of_decide_eq_true (by first | (with_reducible assumption) | assumption)
        have q439 : (ji6) < (l0.length : Int) := of_decide_eq_true (by first | (with_reducible assumption) | assumption)
        obtain ⟨ad439, e439, hx439_0⟩ := Kd.at_int HR0.out (ji6) p439 q439
        obtain rfl : ad438 = ad439 := (by injection e439)
        replace hx439_0 := (HB.out.cell (World.block_lt_of_cell? w _ hx439_0)).trans hx439_0
        replace p439 := eq_true p439
        replace q439 := eq_true q439
        go_wp2
        repeat (go_quiet (fail); try go_wp2)
        go_roundg k1
        case measure => have := HK1.out; omega
        case rel => exact ⟨(ji9), (wrap64 (x6_1 + 1)), (wrap64 (x7_1 + 1)), (by first | rfl | (simp; done) | (simp only [← hji9] <;> (first | rfl | simp)) | (simp [*]; done)), (by first | rfl | (simp; done) | (simp [*]; done)), (by first | rfl | (simp; done) | (simp [*]; done)), H', ⟨by have := HK1.out; omega⟩, ⟨by repeat (first | (with_reducible first | exact HB.out | apply below_alloc | apply pw_below_drewN | apply below_drew1) | exact HB.out)⟩⟩
       ·rw [if_neg c8] at H
        have c8b0 : ((rd l0 x7_1) == (rd l0 (ji6))) = false := beq_eq_false_iff_ne.mpr c8
        have c8b1 : ((rd l0 x7_1) != (rd l0 (ji6))) = true := bne_iff_ne.mpr c8
        have H' := Aside0.mk H
        clear H
        have p438 : 0 ≤ (x7_1 : Int) := of_decide_eq_true (by first | (with_reducible assumption) | assumption)
        have q438 : x7_1 < (l0.length : Int) := of_decide_eq_true (by first | (with_reducible assumption) | assumption)
        obtain ⟨ad438, e438, hx438_0⟩ := Kd.at_int HR0.out x7_1 p438 q438
        cases e438
        replace hx438_0 := (HB.out.cell (World.block_lt_of_cell? w _ hx438_0)).trans hx438_0
        replace p438 := eq_true p438
        replace q438 := eq_true q438
        have p439 : 0 ≤ ((ji6) : Int) := of_decide_eq_true (by first | (with_reducible assumption) | assumption)
        have q439 : (ji6) < (l0.length : Int) := of_decide_eq_true (by first | (with_reducible assumption) | assumption)
        obtain ⟨ad439, e439, hx439_0⟩ := Kd.at_int HR0.out (ji6) p439 q439
        obtain rfl : ad438 = ad439 := (by injection e439)
        replace hx439_0 := (HB.out.cell (World.block_lt_of_cell? w _ hx439_0)).trans hx439_0
        replace p439 := eq_true p439
        replace q439 := eq_true q439
        go_wp2
        repeat (go_quiet (fail); try go_wp2)
        go_roundg k1
        case measure => have := HK1.out; omega
        case rel => exact ⟨(x5_1), (0), (wrap64 (x7_1 + 1)), (by first | rfl | (simp; done) | (simp [*]; done)), (by first | rfl | (simp; done) | (simp [*]; done)), (by first | rfl | (simp; done) | (simp [*]; done)), H', ⟨by have := HK1.out; omega⟩, ⟨by repeat (first | (with_reducible first | exact HB.out | apply below_alloc | apply pw_below_drewN | apply below_drew1) | exact HB.out)⟩⟩
      ·rw [if_neg c7] at H
       exact absurd H (by simp)
     ·rw [if_neg c5] at H
      exact absurd H (by simp)
    ·rw [if_neg c4] at H
     exact absurd H (by simp)
   ·rw [if_neg c3] at H
    have c3b0 : decide ((wrap64 (x7_1 + a1)) < (l0.length : Int)) = false := decide_eq_false c3
    clear c3
    obtain rfl := Option.some.inj H
    go_wp2
    repeat (go_quiet (fail); try go_wp2)
    go_ret
    exact ⟨by first | rfl | (simp [errW_none, errW_some] <;> rfl) | (simp [*, errW_none, errW_some] <;> rfl), by repeat (first | (with_reducible first | exact HB.out | apply below_alloc | apply pw_below_drewN | apply below_drew1) | exact HB.out)⟩

end Go.Proofs.Ytooamcjgejajeaa.M
/- Walks for this claim, written by a program of mine over the kit's print. No condition of mine. -/
namespace Go.Proofs.Ytooamcjgejajeaa.M
open Go.RowKit Go.Proofs.Ytooamcjgejajeaa.KW Go.Proofs.YtooamcjgejajeaaW.PrintWords Go.Proofs.YtooamcjgejajeaaW.PrintLast Go.Proofs.YtooamcjgejajeaaW.PrintMore
attribute [local go_sem] max2_int min2_int max_two min_two max_three min_three max_four min_four   -- for this text's walks alone
set_option linter.unusedVariables false
set_option linter.unusedSimpArgs false

/-! ### impl_HasOverlap: function 52 -/
def impl_HasOverlap.l0 : Nat → List Int → Int → Option (Bool)
 | 0, _, _ => none
 | k + 1, x0, x3 => if x3 ≤ (x0.length : Int) then ((impl_longestRepeat.f k x0 x3).bind fun t440 => (if t440 > (wrap64 (2 * x3)) then (some true) else (impl_HasOverlap.l0 k x0 (wrap64 (x3 + 1))))) else (some false)
def impl_HasOverlap.f (k : Nat) (l0 : List Int) : Option (Bool) := if (l0.length : Int) > 128 then (some false) else (impl_HasOverlap.l0 k l0 1)
theorem impl_HasOverlap.mono_l : ∀ k, (∀ y0 y1, LeO (impl_HasOverlap.l0 k y0 y1) (impl_HasOverlap.l0 (k + 1) y0 y1))
 | 0 => fun _ _ r h => by simp [impl_HasOverlap.l0] at h
 | k + 1 => by
  have ih0 := impl_HasOverlap.mono_l k
  ·intro y0 y1
   unfold impl_HasOverlap.l0
   repeat' first
   | (with_reducible exact ih0 _ _)
   | (with_reducible exact impl_longestRepeat.mono _ _ _)
   | (with_reducible exact LeO.refl _)
   | (with_reducible exact LeO.none _)
   | (with_reducible refine LeO.ite ?_ ?_)
   | (with_reducible refine LeO.bind ?_ (fun _ => ?_))
   | exact ih0 _ _
   | exact impl_longestRepeat.mono _ _ _
   | exact LeO.none _
   | refine LeO.ite ?_ ?_
   | refine LeO.bind ?_ (fun _ => ?_)
theorem impl_HasOverlap.mono : ∀ a0 k, LeO (impl_HasOverlap.f k a0) (impl_HasOverlap.f (k + 1) a0) := by
 intro a0 k
 have ih0 := impl_HasOverlap.mono_l k
 unfold impl_HasOverlap.f
 repeat' first
   | (with_reducible exact ih0 _ _)
   | (with_reducible exact impl_longestRepeat.mono _ _ _)
   | (with_reducible exact LeO.refl _)
   | (with_reducible exact LeO.none _)
   | (with_reducible refine LeO.ite ?_ ?_)
   | (with_reducible refine LeO.bind ?_ (fun _ => ?_))
   | exact ih0 _ _
   | exact impl_longestRepeat.mono _ _ _
   | exact LeO.none _
   | refine LeO.ite ?_ ?_
   | refine LeO.bind ?_ (fun _ => ?_)
set_option maxHeartbeats 8000000 in
set_option maxRecDepth 100000 in
theorem impl_HasOverlap.calls (k : Nat) (A0 : Option Addr) (c0 : Nat) (l0 : List Int) (r : Bool) (w : World) (hr0 : Kd.C (Kd.int .i64) w A0 l0.length l0) (hc0 : l0.length ≤ c0) (h : impl_HasOverlap.f k l0 = some r) :
  Calls Try.prog 52 #[.slice A0 l0.length c0] w fun e w' => e = .returned (.bool r) ∧ Below w.heap.size w w' := by
 have HR0 := Aside0.mk hr0
 have HC0 := Aside0.mk hc0
 clear hr0 hc0
 have HB := Aside0.mk (Below.refl w.heap.size w)
 have H : (if (l0.length : Int) > 128 then (some false) else (impl_HasOverlap.l0 k l0 1)) = some r := h
 clear h
 by_cases c2 : (l0.length : Int) > 128
 ·rw [if_pos c2] at H
  have c2b0 : decide (128 < (l0.length : Int)) = true := decide_eq_true c2
  have c2b1 : decide (128 < l0.length) = true := decide_eq_true (by omega)
  clear c2
  obtain rfl := Option.some.inj H
  go_enter Try.func52, Try.ntmps52
  go_wp2
  go_ret
  exact ⟨by first | rfl | (simp [errW_none, errW_some] <;> rfl) | (simp [*, errW_none, errW_some] <;> rfl), by repeat (first | (with_reducible first | exact HB.out | apply below_alloc | apply pw_below_drewN | apply below_drew1) | exact HB.out)⟩
 ·rw [if_neg c2] at H
  have c2b0 : decide (128 < (l0.length : Int)) = false := decide_eq_false c2
  have c2b1 : decide (128 < l0.length) = false := decide_eq_false (by omega)
  clear c2
  have H' := Aside0.mk H
  clear H
  go_enter Try.func52, Try.ntmps52
  go_wp2
  go_loopg [3] k (fun kq v3 w' => ∃ (x3_1 : Int), v3 = .int .i64 x3_1 ∧ Aside0 (impl_HasOverlap.l0 kq l0 x3_1 = some r) ∧ Aside0 (kq ≤ k) ∧ Aside0 (Below w.heap.size w w'))
  case atStart => exact ⟨(1), (by first | rfl | (simp; done) | (simp [*]; done)), H', ⟨Nat.le_refl _⟩, ⟨by repeat (first | (with_reducible first | exact HB.out | apply below_alloc | apply pw_below_drewN | apply below_drew1) | exact HB.out)⟩⟩
  case round =>
   clear H'
   try clear c2
   try clear c2b0
   try clear c2b1
   try clear p2
   obtain ⟨x3_1, rfl, HA, HK1, HB⟩ := hrel
   cases gk with
   | zero => exact absurd HA.out (by simp [impl_HasOverlap.l0])
   | succ k1 =>
    have H := HA.out
    clear HA
    simp only [impl_HasOverlap.l0] at H
    by_cases c3 : x3_1 ≤ (l0.length : Int)
    ·rw [if_pos c3] at H
     have c3b0 : decide (x3_1 ≤ (l0.length : Int)) = true := decide_eq_true c3
     clear c3
     replace H := Option.bind_eq_some_iff.mp H
     obtain ⟨t440, A40, H⟩ := H
     replace H : (if t440 > (wrap64 (2 * x3_1)) then (some true) else (impl_HasOverlap.l0 k1 l0 (wrap64 (x3_1 + 1)))) = some r := H
     have A4 := Aside0.mk A40
     clear A40
     by_cases c5 : t440 > (wrap64 (2 * x3_1))
     ·rw [if_pos c5] at H
      have c5b0 : decide ((wrap64 (2 * x3_1)) < t440) = true := decide_eq_true c5
      clear c5
      obtain rfl := Option.some.inj H
      go_wp2_with (first | ((with_reducible refine gate_callee (f := 124) rfl ?_); refine goesL_ (some 15) rfl rfl Try.func124 (by kernel_rfl) rfl #[.slice A0 l0.length c0, .int .i64 x3_1] rfl (by (try simp only [List.map_toArray, List.map_cons, List.map_nil]); first | done | rfl | (simp only [List.length_drop, List.length_take]; rfl)) ?_; (with_reducible refine (impl_longestRepeat.calls k1 _ _ l0 x3_1 t440 _ ?side1 ?side2 A4.out).mono ?_); (case side1 => repeat (first | exact (Kd.C_below HR0.out HB.out) | (with_reducible refine Kd.C_alloc ?_ _) | (with_reducible refine Kd.C_drewN ?_ _) | (with_reducible refine Kd.C_drew ?_))); (case side2 => exact HC0.out); rintro e w6 ⟨rfl, hb⟩; refine ⟨_, rfl, ?_⟩; have n0_ := Aside0.mk (below_step (by repeat (first | (with_reducible first | exact HB.out | apply below_alloc | apply pw_below_drewN | apply below_drew1) | exact HB.out)) hb); clear HB; have HB := n0_; clear n0_; (try clear hb); (try clear hb2); (try clear hk); (try clear hi)))
      go_ret
      exact ⟨by first | rfl | (simp [errW_none, errW_some] <;> rfl) | (simp [*, errW_none, errW_some] <;> rfl), by repeat (first | (with_reducible first | exact HB.out | apply below_alloc | apply pw_below_drewN | apply below_drew1) | exact HB.out)⟩
     ·rw [if_neg c5] at H
      have c5b0 : decide ((wrap64 (2 * x3_1)) < t440) = false := decide_eq_false c5
      clear c5
      have H' := Aside0.mk H
      clear H
      go_wp2_with (first | ((with_reducible refine gate_callee (f := 124) rfl ?_); refine goesL_ (some 15) rfl rfl Try.func124 (by kernel_rfl) rfl #[.slice A0 l0.length c0, .int .i64 x3_1] rfl (by (try simp only [List.map_toArray, List.map_cons, List.map_nil]); first | done | rfl | (simp only [List.length_drop, List.length_take]; rfl)) ?_; (with_reducible refine (impl_longestRepeat.calls k1 _ _ l0 x3_1 t440 _ ?side1 ?side2 A4.out).mono ?_); (case side1 => repeat (first | exact (Kd.C_below HR0.out HB.out) | (with_reducible refine Kd.C_alloc ?_ _) | (with_reducible refine Kd.C_drewN ?_ _) | (with_reducible refine Kd.C_drew ?_))); (case side2 => exact HC0.out); rintro e w7 ⟨rfl, hb⟩; refine ⟨_, rfl, ?_⟩; have n0_ := Aside0.mk (below_step (by repeat (first | (with_reducible first | exact HB.out | apply below_alloc | apply pw_below_drewN | apply below_drew1) | exact HB.out)) hb); clear HB; have HB := n0_; clear n0_; (try clear hb); (try clear hb2); (try clear hk); (try clear hi)))
      go_roundg k1
      case measure => have := HK1.out; omega
      case rel => exact ⟨(wrap64 (x3_1 + 1)), (by first | rfl | (simp; done) | (simp [*]; done)), H', ⟨by have := HK1.out; omega⟩, ⟨by repeat (first | (with_reducible first | exact HB.out | apply below_alloc | apply pw_below_drewN | apply below_drew1) | exact HB.out)⟩⟩
    ·rw [if_neg c3] at H
     have c3b0 : decide (x3_1 ≤ (l0.length : Int)) = false := decide_eq_false c3
     clear c3
     obtain rfl := Option.some.inj H
     go_wp2
     go_ret
     exact ⟨by first | rfl | (simp [errW_none, errW_some] <;> rfl) | (simp [*, errW_none, errW_some] <;> rfl), by repeat (first | (with_reducible first | exact HB.out | apply below_alloc | apply pw_below_drewN | apply below_drew1) | exact HB.out)⟩

end Go.Proofs.Ytooamcjgejajeaa.M
/- Walks for this claim, written by a program of mine over the kit's print. No condition of mine. -/
namespace Go.Proofs.Ytooamcjgejajeaa.M
open Go.RowKit Go.Proofs.Ytooamcjgejajeaa.KW Go.Proofs.YtooamcjgejajeaaW.PrintWords Go.Proofs.YtooamcjgejajeaaW.PrintLast Go.Proofs.YtooamcjgejajeaaW.PrintMore
attribute [local go_sem] max2_int min2_int max_two min_two max_three min_three max_four min_four   -- for this text's walks alone
set_option linter.unusedVariables false
set_option linter.unusedSimpArgs false

/-! ### impl_HasPower: function 125 -/
mutual
def impl_HasPower.j0 : Nat → List Int → Int → Int → Bool → Option (Bool)
 | 0, _, _, _, _ => none
 | k + 1, x0, x1, x2, x27 => if x27 = true then (some false) else (impl_HasPower.l0 k x0 x1 x2 1)
def impl_HasPower.l0 : Nat → List Int → Int → Int → Int → Option (Bool)
 | 0, _, _, _, _ => none
 | k + 1, x0, x1, x2, x7 => if x7 ≤ (x0.length : Int) then ((impl_longestRepeat.f k x0 x7).bind fun t559 => (if (wrap64 (t559 * x2)) ≥ (wrap64 (x1 * x7)) then (some true) else (impl_HasPower.l0 k x0 x1 x2 (wrap64 (x7 + 1))))) else (some false)
end
def impl_HasPower.f (k : Nat) (l0 : List Int) (a1 : Int) (a2 : Int) : Option (Bool) := if (l0.length : Int) > 128 then (impl_HasPower.j0 k l0 a1 a2 true) else (if a1 < 2 then (impl_HasPower.j0 k l0 a1 a2 true) else (if a1 > 20 then (impl_HasPower.j0 k l0 a1 a2 true) else (if a2 < 1 then (impl_HasPower.j0 k l0 a1 a2 true) else (impl_HasPower.j0 k l0 a1 a2 (decide (a2 ≥ a1))))))
theorem impl_HasPower.mono_l : ∀ k, (∀ y0 y1 y2 y3, LeO (impl_HasPower.j0 k y0 y1 y2 y3) (impl_HasPower.j0 (k + 1) y0 y1 y2 y3)) ∧ (∀ y0 y1 y2 y3, LeO (impl_HasPower.l0 k y0 y1 y2 y3) (impl_HasPower.l0 (k + 1) y0 y1 y2 y3))
 | 0 => ⟨fun _ _ _ _ r h => by simp [impl_HasPower.j0] at h, fun _ _ _ _ r h => by simp [impl_HasPower.l0] at h⟩
 | k + 1 => by
  obtain ⟨ih0, ih1⟩ := impl_HasPower.mono_l k
  refine ⟨?_, ?_⟩
  ·intro y0 y1 y2 y3
   unfold impl_HasPower.j0
   repeat' first
   | (with_reducible exact ih0 _ _ _ _)
   | (with_reducible exact ih1 _ _ _ _)
   | (with_reducible exact impl_longestRepeat.mono _ _ _)
   | (with_reducible exact LeO.refl _)
   | (with_reducible exact LeO.none _)
   | (with_reducible refine LeO.ite ?_ ?_)
   | (with_reducible refine LeO.bind ?_ (fun _ => ?_))
   | exact ih0 _ _ _ _
   | exact ih1 _ _ _ _
   | exact impl_longestRepeat.mono _ _ _
   | exact LeO.none _
   | refine LeO.ite ?_ ?_
   | refine LeO.bind ?_ (fun _ => ?_)
  ·intro y0 y1 y2 y3
   unfold impl_HasPower.l0
   repeat' first
   | (with_reducible exact ih0 _ _ _ _)
   | (with_reducible exact ih1 _ _ _ _)
   | (with_reducible exact impl_longestRepeat.mono _ _ _)
   | (with_reducible exact LeO.refl _)
   | (with_reducible exact LeO.none _)
   | (with_reducible refine LeO.ite ?_ ?_)
   | (with_reducible refine LeO.bind ?_ (fun _ => ?_))
   | exact ih0 _ _ _ _
   | exact ih1 _ _ _ _
   | exact impl_longestRepeat.mono _ _ _
   | exact LeO.none _
   | refine LeO.ite ?_ ?_
   | refine LeO.bind ?_ (fun _ => ?_)
theorem impl_HasPower.mono : ∀ a0 a1 a2 k, LeO (impl_HasPower.f k a0 a1 a2) (impl_HasPower.f (k + 1) a0 a1 a2) := by
 intro a0 a1 a2 k
 obtain ⟨ih0, ih1⟩ := impl_HasPower.mono_l k
 unfold impl_HasPower.f
 repeat' first
   | (with_reducible exact ih0 _ _ _ _)
   | (with_reducible exact ih1 _ _ _ _)
   | (with_reducible exact impl_longestRepeat.mono _ _ _)
   | (with_reducible exact LeO.refl _)
   | (with_reducible exact LeO.none _)
   | (with_reducible refine LeO.ite ?_ ?_)
   | (with_reducible refine LeO.bind ?_ (fun _ => ?_))
   | exact ih0 _ _ _ _
   | exact ih1 _ _ _ _
   | exact impl_longestRepeat.mono _ _ _
   | exact LeO.none _
   | refine LeO.ite ?_ ?_
   | refine LeO.bind ?_ (fun _ => ?_)
set_option maxHeartbeats 8000000 in
set_option maxRecDepth 100000 in
theorem impl_HasPower.calls (k : Nat) (A0 : Option Addr) (c0 : Nat) (l0 : List Int) (a1 : Int) (a2 : Int) (r : Bool) (w : World) (hr0 : Kd.C (Kd.int .i64) w A0 l0.length l0) (hc0 : l0.length ≤ c0) (h : impl_HasPower.f k l0 a1 a2 = some r) :
  Calls Try.prog 125 #[.slice A0 l0.length c0, .int .i64 a1, .int .i64 a2] w fun e w' => e = .returned (.bool r) ∧ Below w.heap.size w w' := by
 have HR0 := Aside0.mk hr0
 have HC0 := Aside0.mk hc0
 clear hr0 hc0
 have HB := Aside0.mk (Below.refl w.heap.size w)
 have H : (if (l0.length : Int) > 128 then (impl_HasPower.j0 k l0 a1 a2 true) else (if a1 < 2 then (impl_HasPower.j0 k l0 a1 a2 true) else (if a1 > 20 then (impl_HasPower.j0 k l0 a1 a2 true) else (if a2 < 1 then (impl_HasPower.j0 k l0 a1 a2 true) else (impl_HasPower.j0 k l0 a1 a2 (decide (a2 ≥ a1))))))) = some r := h
 clear h
 have HC4 := Aside0.mk H
 clear H
 go_enter Try.func125, Try.ntmps125
 go_upto_region 1 with (fail)
 go_cut [27] (fun v27 wc => ∃ (kq : Nat) (x27_3 : Bool), v27 = .bool x27_3 ∧ Aside0 (impl_HasPower.j0 kq l0 a1 a2 x27_3 = some r) ∧ Aside0 (kq ≤ k) ∧ Aside0 (Below w.heap.size w wc))
 case first =>
  have H := HC4.out
  clear HC4
  by_cases c5 : (l0.length : Int) > 128
  ·rw [if_pos c5] at H
   have c5b0 : decide (128 < (l0.length : Int)) = true := decide_eq_true c5
   have c5b1 : decide (128 < l0.length) = true := decide_eq_true (by omega)
   clear c5
   (first | rw [c5b0] | (simp only [i64_w, i32_w]; rw [c5b0]) | skip)
   have H' := Aside0.mk H
   clear H
   go_wp2
   go_meet
   case rel => exact ⟨_, (true), (by first | rfl | (simp; done) | (simp [*]; done)), H', ⟨by first | omega | exact Nat.le_refl _⟩, ⟨by repeat (first | (with_reducible first | exact HB.out | apply below_alloc | apply pw_below_drewN | apply below_drew1) | exact HB.out)⟩⟩
  ·rw [if_neg c5] at H
   have c5b0 : decide (128 < (l0.length : Int)) = false := decide_eq_false c5
   have c5b1 : decide (128 < l0.length) = false := decide_eq_false (by omega)
   clear c5
   (first | rw [c5b0] | (simp only [i64_w, i32_w]; rw [c5b0]) | skip)
   by_cases c6 : a1 < 2
   ·rw [if_pos c6] at H
    have c6b0 : decide (a1 < 2) = true := decide_eq_true c6
    clear c6
    have H' := Aside0.mk H
    clear H
    go_wp2
    go_meet
    case rel => exact ⟨_, (true), (by first | rfl | (simp; done) | (simp [*]; done)), H', ⟨by first | omega | exact Nat.le_refl _⟩, ⟨by repeat (first | (with_reducible first | exact HB.out | apply below_alloc | apply pw_below_drewN | apply below_drew1) | exact HB.out)⟩⟩
   ·rw [if_neg c6] at H
    have c6b0 : decide (a1 < 2) = false := decide_eq_false c6
    clear c6
    by_cases c7 : a1 > 20
    ·rw [if_pos c7] at H
     have c7b0 : decide (20 < a1) = true := decide_eq_true c7
     clear c7
     have H' := Aside0.mk H
     clear H
     go_wp2
     go_meet
     case rel => exact ⟨_, (true), (by first | rfl | (simp; done) | (simp [*]; done)), H', ⟨by first | omega | exact Nat.le_refl _⟩, ⟨by repeat (first | (with_reducible first | exact HB.out | apply below_alloc | apply pw_below_drewN | apply below_drew1) | exact HB.out)⟩⟩
    ·rw [if_neg c7] at H
     have c7b0 : decide (20 < a1) = false := decide_eq_false c7
     clear c7
     by_cases c8 : a2 < 1
     ·rw [if_pos c8] at H
      have c8b0 : decide (a2 < 1) = true := decide_eq_true c8
      clear c8
      have H' := Aside0.mk H
      clear H
      go_wp2
      go_meet
      case rel => exact ⟨_, (true), (by first | rfl | (simp; done) | (simp [*]; done)), H', ⟨by first | omega | exact Nat.le_refl _⟩, ⟨by repeat (first | (with_reducible first | exact HB.out | apply below_alloc | apply pw_below_drewN | apply below_drew1) | exact HB.out)⟩⟩
     ·rw [if_neg c8] at H
      have c8b0 : decide (a2 < 1) = false := decide_eq_false c8
      clear c8
      have H' := Aside0.mk H
      clear H
      go_wp2
      go_meet
      case rel => exact ⟨_, (decide (a2 ≥ a1)), (by first | rfl | (simp; done) | (simp [*]; done)), H', ⟨by first | omega | exact Nat.le_refl _⟩, ⟨by repeat (first | (with_reducible first | exact HB.out | apply below_alloc | apply pw_below_drewN | apply below_drew1) | exact HB.out)⟩⟩
 case rest =>
  clear HC4
  try clear c1
  try clear p2
  try clear c5
  try clear c5b0
  try clear c5b1
  try clear c6
  try clear c6b0
  try clear c7
  try clear c7b0
  try clear c8
  try clear c8b0
  obtain ⟨kq, x27_3, rfl, HA, HJ3, HB⟩ := hcut
  cases kq with
  | zero => exact absurd HA.out (by simp [impl_HasPower.j0])
  | succ kj3 =>
   have H := HA.out
   clear HA
   simp only [impl_HasPower.j0] at H
   by_cases c9 : x27_3 = true
   ·subst c9
    have H1 : (some false) = some r := by rw [if_pos rfl] at H; exact H
    clear H
    have H := H1
    clear H1
    obtain rfl := Option.some.inj H
    go_wp2
    go_ret
    exact ⟨by first | rfl | (simp [errW_none, errW_some] <;> rfl) | (simp [*, errW_none, errW_some] <;> rfl), by repeat (first | (with_reducible first | exact HB.out | apply below_alloc | apply pw_below_drewN | apply below_drew1) | exact HB.out)⟩
   ·replace c9 := Bool.eq_false_iff.mpr c9
    subst c9
    have H1 : (impl_HasPower.l0 kj3 l0 a1 a2 1) = some r := by rw [if_neg (show ¬ (false = true) by decide)] at H; exact H
    clear H
    have H := H1
    clear H1
    have H' := Aside0.mk H
    clear H
    go_wp2
    go_loopg [7] kj3 (fun kq v7 w' => ∃ (x7_2 : Int), v7 = .int .i64 x7_2 ∧ Aside0 (impl_HasPower.l0 kq l0 a1 a2 x7_2 = some r) ∧ Aside0 (kq ≤ kj3) ∧ Aside0 (Below w.heap.size w w'))
    case atStart => exact ⟨(1), (by first | rfl | (simp; done) | (simp [*]; done)), H', ⟨Nat.le_refl _⟩, ⟨by repeat (first | (with_reducible first | exact HB.out | apply below_alloc | apply pw_below_drewN | apply below_drew1) | exact HB.out)⟩⟩
    case round =>
     clear H'
     try clear c1
     try clear p2
     try clear c5
     try clear c5b0
     try clear c5b1
     try clear c6
     try clear c6b0
     try clear c7
     try clear c7b0
     try clear c8
     try clear c8b0
     try clear c9
     try clear p2
     obtain ⟨x7_2, rfl, HA, HK2, HB⟩ := hrel
     cases gk with
     | zero => exact absurd HA.out (by simp [impl_HasPower.l0])
     | succ k2 =>
      have H := HA.out
      clear HA
      simp only [impl_HasPower.l0] at H
      by_cases c10 : x7_2 ≤ (l0.length : Int)
      ·rw [if_pos c10] at H
       have c10b0 : decide (x7_2 ≤ (l0.length : Int)) = true := decide_eq_true c10
       clear c10
       replace H := Option.bind_eq_some_iff.mp H
       obtain ⟨t559, A110, H⟩ := H
       replace H : (if (wrap64 (t559 * a2)) ≥ (wrap64 (a1 * x7_2)) then (some true) else (impl_HasPower.l0 k2 l0 a1 a2 (wrap64 (x7_2 + 1)))) = some r := H
       have A11 := Aside0.mk A110
       clear A110
       by_cases c12 : (wrap64 (t559 * a2)) ≥ (wrap64 (a1 * x7_2))
       ·rw [if_pos c12] at H
        have c12b0 : decide ((wrap64 (a1 * x7_2)) ≤ (wrap64 (t559 * a2))) = true := decide_eq_true c12
        clear c12
        obtain rfl := Option.some.inj H
        go_wp2_with (first | ((with_reducible refine gate_callee (f := 124) rfl ?_); refine goesL_ (some 36) rfl rfl Try.func124 (by kernel_rfl) rfl #[.slice A0 l0.length c0, .int .i64 x7_2] rfl (by (try simp only [List.map_toArray, List.map_cons, List.map_nil]); first | done | rfl | (simp only [List.length_drop, List.length_take]; rfl)) ?_; (with_reducible refine (impl_longestRepeat.calls k2 _ _ l0 x7_2 t559 _ ?side1 ?side2 A11.out).mono ?_); (case side1 => repeat (first | exact (Kd.C_below HR0.out HB.out) | (with_reducible refine Kd.C_alloc ?_ _) | (with_reducible refine Kd.C_drewN ?_ _) | (with_reducible refine Kd.C_drew ?_))); (case side2 => exact HC0.out); rintro e w13 ⟨rfl, hb⟩; refine ⟨_, rfl, ?_⟩; have n0_ := Aside0.mk (below_step (by repeat (first | (with_reducible first | exact HB.out | apply below_alloc | apply pw_below_drewN | apply below_drew1) | exact HB.out)) hb); clear HB; have HB := n0_; clear n0_; (try clear hb); (try clear hb2); (try clear hk); (try clear hi)))
        go_ret
        exact ⟨by first | rfl | (simp [errW_none, errW_some] <;> rfl) | (simp [*, errW_none, errW_some] <;> rfl), by repeat (first | (with_reducible first | exact HB.out | apply below_alloc | apply pw_below_drewN | apply below_drew1) | exact HB.out)⟩
       ·rw [if_neg c12] at H
        have c12b0 : decide ((wrap64 (a1 * x7_2)) ≤ (wrap64 (t559 * a2))) = false := decide_eq_false c12
        clear c12
        have H' := Aside0.mk H
        clear H
        go_wp2_with (first | ((with_reducible refine gate_callee (f := 124) rfl ?_); refine goesL_ (some 36) rfl rfl Try.func124 (by kernel_rfl) rfl #[.slice A0 l0.length c0, .int .i64 x7_2] rfl (by (try simp only [List.map_toArray, List.map_cons, List.map_nil]); first | done | rfl | (simp only [List.length_drop, List.length_take]; rfl)) ?_; (with_reducible refine (impl_longestRepeat.calls k2 _ _ l0 x7_2 t559 _ ?side1 ?side2 A11.out).mono ?_); (case side1 => repeat (first | exact (Kd.C_below HR0.out HB.out) | (with_reducible refine Kd.C_alloc ?_ _) | (with_reducible refine Kd.C_drewN ?_ _) | (with_reducible refine Kd.C_drew ?_))); (case side2 => exact HC0.out); rintro e w14 ⟨rfl, hb⟩; refine ⟨_, rfl, ?_⟩; have n0_ := Aside0.mk (below_step (by repeat (first | (with_reducible first | exact HB.out | apply below_alloc | apply pw_below_drewN | apply below_drew1) | exact HB.out)) hb); clear HB; have HB := n0_; clear n0_; (try clear hb); (try clear hb2); (try clear hk); (try clear hi)))
        go_roundg k2
        case measure => have := HJ3.out; have := HK2.out; omega
        case rel => exact ⟨(wrap64 (x7_2 + 1)), (by first | rfl | (simp; done) | (simp [*]; done)), H', ⟨by have := HJ3.out; have := HK2.out; omega⟩, ⟨by repeat (first | (with_reducible first | exact HB.out | apply below_alloc | apply pw_below_drewN | apply below_drew1) | exact HB.out)⟩⟩
      ·rw [if_neg c10] at H
       have c10b0 : decide (x7_2 ≤ (l0.length : Int)) = false := decide_eq_false c10
       clear c10
       obtain rfl := Option.some.inj H
       go_wp2
       go_ret
       exact ⟨by first | rfl | (simp [errW_none, errW_some] <;> rfl) | (simp [*, errW_none, errW_some] <;> rfl), by repeat (first | (with_reducible first | exact HB.out | apply below_alloc | apply pw_below_drewN | apply below_drew1) | exact HB.out)⟩

end Go.Proofs.Ytooamcjgejajeaa.M
/- Walks for this claim, written by a program of mine over the kit's print. No condition of mine. -/
namespace Go.Proofs.Ytooamcjgejajeaa.M
open Go.RowKit Go.Proofs.Ytooamcjgejajeaa.KW Go.Proofs.YtooamcjgejajeaaW.PrintWords Go.Proofs.YtooamcjgejajeaaW.PrintLast Go.Proofs.YtooamcjgejajeaaW.PrintMore
attribute [local go_sem] max2_int min2_int max_two min_two max_three min_three max_four min_four   -- for this text's walks alone
set_option linter.unusedVariables false
set_option linter.unusedSimpArgs false

/-! ### impl_HasSquare: function 53 -/
def impl_HasSquare.f (k : Nat) (l0 : List Int) : Option (Bool) := (impl_HasPower.f k l0 2 1).bind fun t560 => (some t560)
theorem impl_HasSquare.mono : ∀ a0 k, LeO (impl_HasSquare.f k a0) (impl_HasSquare.f (k + 1) a0) := by
 intro a0 k
 unfold impl_HasSquare.f
 repeat' first
   | (with_reducible exact impl_HasPower.mono _ _ _ _)
   | (with_reducible exact LeO.refl _)
   | (with_reducible exact LeO.none _)
   | (with_reducible refine LeO.ite ?_ ?_)
   | (with_reducible refine LeO.bind ?_ (fun _ => ?_))
   | exact impl_HasPower.mono _ _ _ _
   | exact LeO.none _
   | refine LeO.ite ?_ ?_
   | refine LeO.bind ?_ (fun _ => ?_)
set_option maxHeartbeats 8000000 in
set_option maxRecDepth 100000 in
theorem impl_HasSquare.calls (k : Nat) (A0 : Option Addr) (c0 : Nat) (l0 : List Int) (r : Bool) (w : World) (hr0 : Kd.C (Kd.int .i64) w A0 l0.length l0) (hc0 : l0.length ≤ c0) (h : impl_HasSquare.f k l0 = some r) :
  Calls Try.prog 53 #[.slice A0 l0.length c0] w fun e w' => e = .returned (.bool r) ∧ Below w.heap.size w w' := by
 have HR0 := Aside0.mk hr0
 have HC0 := Aside0.mk hc0
 clear hr0 hc0
 have HB := Aside0.mk (Below.refl w.heap.size w)
 have H : ((impl_HasPower.f k l0 2 1).bind fun t560 => (some t560)) = some r := h
 clear h
 replace H := Option.bind_eq_some_iff.mp H
 obtain ⟨t560, A20, H⟩ := H
 replace H : (some t560) = some r := H
 have A2 := Aside0.mk A20
 clear A20
 obtain rfl := Option.some.inj H
 go_enter Try.func53, Try.ntmps53
 go_wp2_with (first | ((with_reducible refine gate_callee (f := 125) rfl ?_); refine goesL_ (some 4) rfl rfl Try.func125 (by kernel_rfl) rfl #[.slice A0 l0.length c0, .int .i64 2, .int .i64 1] rfl (by (try simp only [List.map_toArray, List.map_cons, List.map_nil]); first | done | rfl | (simp only [List.length_drop, List.length_take]; rfl)) ?_; (with_reducible refine (impl_HasPower.calls k _ _ l0 2 1 t560 _ ?side1 ?side2 A2.out).mono ?_); (case side1 => repeat (first | exact HR0.out | (with_reducible refine Kd.C_alloc ?_ _) | (with_reducible refine Kd.C_drewN ?_ _) | (with_reducible refine Kd.C_drew ?_))); (case side2 => exact HC0.out); rintro e w3 ⟨rfl, hb⟩; refine ⟨_, rfl, ?_⟩; have n0_ := Aside0.mk (below_step (by repeat (first | (with_reducible first | exact HB.out | apply below_alloc | apply pw_below_drewN | apply below_drew1) | exact HB.out)) hb); clear HB; have HB := n0_; clear n0_; (try clear hb); (try clear hb2); (try clear hk); (try clear hi)))
 go_ret
 exact ⟨by first | rfl | (simp [errW_none, errW_some] <;> rfl) | (simp [*, errW_none, errW_some] <;> rfl), by repeat (first | (with_reducible first | exact HB.out | apply below_alloc | apply pw_below_drewN | apply below_drew1) | exact HB.out)⟩

end Go.Proofs.Ytooamcjgejajeaa.M
/- Powers, squares and overlaps in a word: program and reference find the same. No condition. -/
namespace Go.Proofs.Ytooamcjgejajeaa.M
open Go.RowKit Go.Proofs.YtooamcjgejajeaaW.PrintWords Go.Proofs.YtooamcjgejajeaaW.PrintMore Go.Proofs.Ytooamcjgejajeaa.K

/-- L letters from i on are those p further on. -/
def per (w : List Int) (p i L : Nat) : Prop := ∀ t, t < L → i + t + p < w.length ∧ w.getD (i + t) 0 = w.getD (i + t + p) 0
theorem per_zero (w : List Int) (p i : Nat) : per w p i 0 := fun t h => by omega
theorem per_le {w : List Int} {p i L M : Nat} (h : per w p i L) (hm : M ≤ L) : per w p i M := fun t ht => h t (by omega)
theorem per_succ {w : List Int} {p i L : Nat} (h : per w p i L) (h1 : i + L + p < w.length) (h2 : w.getD (i + L) 0 = w.getD (i + L + p) 0) : per w p i (L + 1) := fun t ht => by
  by_cases e : t = L
  · subst e; exact ⟨h1, h2⟩
  · exact h t (by omega)
theorem per_bound {w : List Int} {p i L : Nat} (h : per w p i L) (hl : 0 < L) : i + L + p ≤ w.length := by
  have := (h (L - 1) (by omega)).1
  omega
theorem rd_nat (xs : List Int) (n : Int) (i : Nat) (h : n = (i : Int)) : rd xs n = xs.getD i 0 := by rw [h, rd_at]

theorem l10_ev (w : List Int) (i p : Nat) (hp : 1 ≤ p) (hw : w.length ≤ 1048576) (hip : i + p < w.length) : ∃ M : Nat, per w p i M ∧ ¬ per w p i (M + 1) ∧ Ev (fun k => spec_l10Match.f k w (i : Int) (p : Int)) ((p + M : Nat) : Int) := by
  have key : ∀ d t, i + p + t + d = w.length → per w p i t → ∃ M : Nat, per w p i M ∧ ¬ per w p i (M + 1) ∧ Ev (fun k => spec_l10Match.l0 k w (i : Int) (p : Int) ((p + t : Nat) : Int)) ((p + M : Nat) : Int) := by
    intro d
    induction d with
    | zero =>
      intro t hd ht
      refine ⟨t, ht, fun h => by have := per_bound h (by omega); omega, ?_⟩
      refine Ev.step (fun k => by simp only [spec_l10Match.l0]; rw [w_id (by omega) (by omega), _root_.if_neg (by omega)]) (Ev.same (Ev.some _) ?_)
      unfold mn; rw [w_id (by omega) (by omega)]; split <;> omega
    | succ d ih =>
      intro t hd ht
      by_cases q : w.getD (i + t) 0 = w.getD (i + t + p) 0
      · obtain ⟨M, h1, h2, h3⟩ := ih (t + 1) (by omega) (per_succ ht (by omega) q)
        refine ⟨M, h1, h2, ?_⟩
        refine Ev.step (fun k => by
          simp only [spec_l10Match.l0]
          rw [w_id (a := (i : Int) + ((p + t : Nat) : Int)) (by omega) (by omega), w_id (a := (i : Int) + ((p + t : Nat) : Int) - (p : Int)) (by omega) (by omega), _root_.if_pos (by omega), _root_.if_pos (by omega), _root_.if_pos (by omega), _root_.if_pos (by omega),
            _root_.if_pos (by rw [rd_nat w _ (i + t + p) (by omega), rd_nat w _ (i + t) (by omega), q]), wsucc (by omega)]; rfl) h3
      · refine ⟨t, ht, fun h => q (h t (by omega)).2, ?_⟩
        refine Ev.step (fun k => by
          simp only [spec_l10Match.l0]
          rw [w_id (a := (i : Int) + ((p + t : Nat) : Int)) (by omega) (by omega), w_id (a := (i : Int) + ((p + t : Nat) : Int) - (p : Int)) (by omega) (by omega), _root_.if_pos (by omega), _root_.if_pos (by omega), _root_.if_pos (by omega), _root_.if_pos (by omega),
            _root_.if_neg (by rw [rd_nat w _ (i + t + p) (by omega), rd_nat w _ (i + t) (by omega)]; exact fun e => q e.symm)]) (Ev.same (Ev.some _) ?_)
        unfold mn; rw [w_id (by omega) (by omega)]; split <;> omega
  obtain ⟨M, h1, h2, h3⟩ := key (w.length - (i + p)) 0 (by omega) (per_zero _ _ _)
  exact ⟨M, h1, h2, h3⟩

theorem longest_ev (w : List Int) (p : Nat) (hp : 1 ≤ p) (hw : w.length ≤ 1048576) (hpl : p ≤ w.length) : ∃ M : Nat, M ≤ w.length ∧ (∃ i, per w p i M) ∧ (∀ i L, per w p i L → L ≤ M) ∧ Ev (fun k => impl_longestRepeat.f k w (p : Int)) ((M + p : Nat) : Int) := by
  have key : ∀ d i b c : Nat, i + p + d = w.length → c ≤ i → per w p (i - c) c → (∀ j L, j + L = i → per w p j L → L ≤ c) → (∃ j, per w p j b) → (∀ j L, j + L ≤ i → per w p j L → L ≤ b) → b ≤ i →
      ∃ M : Nat, M ≤ w.length ∧ (∃ i, per w p i M) ∧ (∀ i L, per w p i L → L ≤ M) ∧ Ev (fun k => impl_longestRepeat.l0 k w (p : Int) (b : Int) (c : Int) (i : Int)) ((M + p : Nat) : Int) := by
    intro d
    induction d with
    | zero =>
      intro i b c hd hci h1 h2 h3 h4 hbi
      refine ⟨b, by omega, h3, fun j L h => ?_, ?_⟩
      · by_cases hL : L = 0
        · omega
        · exact h4 j L (by have := per_bound h (by omega); omega) h
      · refine Ev.step (fun k => by simp only [impl_longestRepeat.l0]; rw [w_id (a := (i : Int) + (p : Int)) (by omega) (by omega), _root_.if_neg (by omega)]) (Ev.same (Ev.some _) ?_)
        rw [w_id (by omega) (by omega)]; omega
    | succ d ih =>
      intro i b c hd hci h1 h2 h3 h4 hbi
      by_cases q : w.getD i 0 = w.getD (i + p) 0
      · have hc1 : per w p (i + 1 - (c + 1)) (c + 1) := by
          rw [show i + 1 - (c + 1) = i - c from by omega]
          exact per_succ h1 (by omega) (by rw [show i - c + c = i from by omega]; exact q)
        have hc2 : ∀ j L, j + L = i + 1 → per w p j L → L ≤ c + 1 := fun j L hj h => by
          by_cases hL : L = 0
          · omega
          · have := h2 j (L - 1) (by omega) (per_le h (by omega)); omega
        obtain ⟨M, g0, g1, g2, g3⟩ := ih (i + 1) (if b < c + 1 then c + 1 else b) (c + 1) (by omega) (by omega) hc1 hc2
          (by split <;> first | exact h3 | exact ⟨_, hc1⟩)
          (fun j L hj h => by
            by_cases e : j + L = i + 1
            · have := hc2 j L e h; split <;> omega
            · have := h4 j L (by omega) h; split <;> omega) (by split <;> omega)
        refine ⟨M, g0, g1, g2, ?_⟩
        refine Ev.step (fun k => by
          simp only [impl_longestRepeat.l0]
          rw [w_id (a := (i : Int) + (p : Int)) (by omega) (by omega), _root_.if_pos (by omega), _root_.if_pos (by omega), _root_.if_pos (by omega), _root_.if_pos (by omega),
            _root_.if_pos (by rw [rd_at, rd_nat w _ (i + p) (by omega), q]), wsucc (by omega), wsucc (by omega),
            show mx (b : Int) ((c + 1 : Nat) : Int) = ((if b < c + 1 then c + 1 else b : Nat) : Int) from by unfold mx; split <;> split <;> omega]) g3
      · have hc2 : ∀ j L, j + L = i + 1 → per w p j L → L = 0 := fun j L hj h => by
          by_cases hL : L = 0
          · exact hL
          · have := (h (L - 1) (by omega)).2
            rw [show j + (L - 1) = i from by omega] at this
            exact absurd this q
        obtain ⟨M, g0, g1, g2, g3⟩ := ih (i + 1) b 0 (by omega) (by omega) (per_zero _ _ _) (fun j L hj h => by have := hc2 j L hj h; omega) h3
          (fun j L hj h => by
            by_cases e : j + L = i + 1
            · have := hc2 j L e h; omega
            · exact h4 j L (by omega) h) (by omega)
        refine ⟨M, g0, g1, g2, ?_⟩
        refine Ev.step (fun k => by
          simp only [impl_longestRepeat.l0]
          rw [w_id (a := (i : Int) + (p : Int)) (by omega) (by omega), _root_.if_pos (by omega), _root_.if_pos (by omega), _root_.if_pos (by omega), _root_.if_pos (by omega),
            _root_.if_neg (by rw [rd_at, rd_nat w _ (i + p) (by omega)]; exact q), wsucc (by omega)]; rfl) g3
  have := key (w.length - p) 0 0 0 (by omega) (Nat.le_refl _) (per_zero _ _ _) (fun j L h _ => by omega) ⟨0, per_zero _ _ _⟩ (fun j L h _ => by omega) (Nat.le_refl _)
  exact this

/-- There is a part that is long enough against one of its periods. -/
def PW (w : List Int) (a b : Nat) : Prop := w.length ≤ 128 ∧ ∃ i p L, 1 ≤ p ∧ i + p < w.length ∧ per w p i L ∧ p * a ≤ (p + L) * b
open Classical in
noncomputable def hasPower (w : List Int) (a b : Nat) : Bool := decide (PW w a b)
open Classical in
theorem hasPower_iff (w : List Int) (a b : Nat) : hasPower w a b = true ↔ PW w a b := by unfold hasPower; exact decide_eq_true_iff
theorem hasPower_no (w : List Int) (a b : Nat) (h : ¬ PW w a b) : hasPower w a b = false := Bool.eq_false_iff.2 (fun q => h ((hasPower_iff w a b).1 q))
def OV (w : List Int) : Prop := w.length ≤ 128 ∧ ∃ i p L, 1 ≤ p ∧ per w p i L ∧ p < L
open Classical in
noncomputable def hasOverlap (w : List Int) : Bool := decide (OV w)
open Classical in
theorem hasOverlap_iff (w : List Int) : hasOverlap w = true ↔ OV w := by unfold hasOverlap; exact decide_eq_true_iff
theorem hasOverlap_no (w : List Int) (h : ¬ OV w) : hasOverlap w = false := Bool.eq_false_iff.2 (fun q => h ((hasOverlap_iff w).1 q))

theorem l1In_val (a b c : Int) : spec_l1In.f a b c = some (decide (b ≤ a ∧ a ≤ c)) := by
  unfold spec_l1In.f
  by_cases q : a ≥ b
  · rw [_root_.if_pos q]; simp [q]
  · rw [_root_.if_neg q]; simp; omega

theorem specPower_ev (w : List Int) (a b : Nat) (ha : 2 ≤ a ∧ a ≤ 20) (hb : 1 ≤ b ∧ b < a) (hw : w.length ≤ 1048576) : Ev (fun k => spec_HasPower.f k w (a : Int) (b : Int)) (hasPower w a b) := by
  unfold spec_HasPower.f
  refine Ev.bind (Ev.val (l1In_val _ _ _)) ?_
  rw [decide_eq_true (by omega)]
  refine Ev.if_pos rfl ?_
  refine Ev.bind (Ev.val (l1In_val _ _ _)) ?_
  rw [w_id (by omega) (by omega), decide_eq_true (by omega)]
  refine Ev.step (fun k => by simp only [spec_HasPower.j0]; rw [_root_.if_neg (by decide)]) ?_
  by_cases h128 : w.length ≤ 128
  · have inner : ∀ (i : Nat) (r : Bool), i < w.length → (r = true → PW w a b) → ((∀ p L, 1 ≤ p → i + p < w.length → per w p i L → ¬ p * a ≤ (p + L) * b) → Ev (fun k => spec_HasPower.l0 k w (a : Int) (b : Int) ((i + 1 : Nat) : Int)) r) → (r = false → ∀ p L, 1 ≤ p → i + p < w.length → per w p i L → ¬ p * a ≤ (p + L) * b) →
        ∀ d p, p + d = w.length → 1 ≤ p → (∀ q L, 1 ≤ q → q < p → i + q < w.length → per w q i L → ¬ q * a ≤ (q + L) * b) → Ev (fun k => spec_HasPower.l1 k w (a : Int) (b : Int) (i : Int) (p : Int)) r := by
      intro i r hi hr0 hr hr1 d
      induction d with
      | zero =>
        intro p hpd hp hno
        refine Ev.step (fun k => by simp only [spec_HasPower.l1]; rw [w_id (a := (i : Int) + (p : Int)) (by omega) (by omega), _root_.if_neg (by omega), wsucc (by omega)]) (hr (fun q L h1 h2 h3 => hno q L h1 (by omega) h2 h3))
      | succ d ih =>
        intro p hpd hp hno
        by_cases q : i + p < w.length
        · obtain ⟨M, g1, g2, g3⟩ := l10_ev w i p hp hw q
          refine Ev.step (fun k => by simp only [spec_HasPower.l1]; rw [w_id (a := (i : Int) + (p : Int)) (by omega) (by omega), _root_.if_pos (by omega)]) ?_
          have hMw : M ≤ w.length := by
            by_cases e : M = 0
            · omega
            · have := per_bound g1 (by omega); omega
          refine Ev.bind g3 ?_
          have e1 : wrap64 (((p + M : Nat) : Int) * (b : Int)) = (((p + M) * b : Nat) : Int) := by
            have h2 : (p + M) * b ≤ 256 * 20 := Nat.mul_le_mul (show p + M ≤ 256 from by omega) (show b ≤ 20 from by omega)
            have h3 : (p + M) * b ≤ 100000 := Nat.le_trans h2 (by decide)
            clear h2
            rw [← Int.natCast_mul]; exact w_id (by omega) (by omega)
          have e2 : wrap64 ((p : Int) * (a : Int)) = ((p * a : Nat) : Int) := by
            have h2 : p * a ≤ 256 * 20 := Nat.mul_le_mul (show p ≤ 256 from by omega) (show a ≤ 20 from by omega)
            have h3 : p * a ≤ 100000 := Nat.le_trans h2 (by decide)
            clear h2
            rw [← Int.natCast_mul]; exact w_id (by omega) (by omega)
          rw [e1, e2]
          refine Ev.ite (fun c => ?_) (fun c => ?_)
          · refine Ev.same (Ev.some true) ?_
            cases r with
            | true => rfl
            | false => exact absurd (Int.ofNat_le.1 c) (hr1 rfl p M hp q g1)
          · refine Ev.congr (fun k => by rw [wsucc (by omega)]) (ih (p + 1) (by omega) (by omega) (fun q' L h1 h2 h3 h4 h5 => ?_))
            by_cases e : q' = p
            · subst e
              have hLM : L ≤ M := by
                rcases Nat.lt_or_ge M L with hlt | hge
                · exact absurd (per_le h4 (show M + 1 ≤ L from hlt)) g2
                · exact hge
              exact c (Int.ofNat_le.2 (Nat.le_trans h5 (Nat.mul_le_mul_right b (Nat.add_le_add_left hLM q'))))
            · exact hno q' L h1 (by omega) h3 h4 h5
        · refine Ev.step (fun k => by simp only [spec_HasPower.l1]; rw [w_id (a := (i : Int) + (p : Int)) (by omega) (by omega), _root_.if_neg (by omega), wsucc (by omega)]) (hr (fun q' L h1 h2 h3 => hno q' L h1 (by omega) h2 h3))
    have outer : ∀ r : Bool, (r = true ↔ PW w a b) → ∀ i, i ≤ w.length → (∀ j p L, j < i → 1 ≤ p → j + p < w.length → per w p j L → ¬ p * a ≤ (p + L) * b) → Ev (fun k => spec_HasPower.l0 k w (a : Int) (b : Int) (i : Int)) r := by
      intro r hr
      refine down w.length ?_ ?_
      · intro hno
        refine Ev.step (fun k => by simp only [spec_HasPower.l0]; rw [_root_.if_neg (by omega)]) ?_
        refine Ev.step (fun k => by simp only [spec_HasPower.j2]; rw [_root_.if_neg (by decide)]) (Ev.same (Ev.some false) ?_)
        cases r with
        | false => rfl
        | true =>
          obtain ⟨_, i, p, L, h1, h2, h3, h4⟩ := hr.1 rfl
          exact absurd h4 (hno i p L (by omega) h1 h2 h3)
      · intro i hi ih hno
        refine Ev.step (fun k => by simp only [spec_HasPower.l0]; rw [_root_.if_pos (by omega), decide_eq_true (by omega)]) ?_
        refine Ev.step (fun k => by simp only [spec_HasPower.j2]; rw [_root_.if_pos trivial]) ?_
        refine inner i r hi (fun e => hr.1 e) (fun h => ih (fun j p L hj h1 h2 h3 => ?_)) (fun e p L h1 h2 h3 h4 => ?_) (w.length - 1) 1 (by omega) (Nat.le_refl _) (fun q L h1 h2 => by omega)
        · by_cases e : j = i
          · subst e; exact h p L h1 h2 h3
          · exact hno j p L (by omega) h1 h2 h3
        · have := hr.2 ⟨h128, i, p, L, h1, h2, h3, h4⟩; rw [e] at this; cases this
    exact outer _ (hasPower_iff w a b) 0 (by omega) (fun j p L h => by omega)
  · have hf : hasPower w a b = false := hasPower_no _ _ _ (fun h => h128 h.1)
    rw [hf]
    refine Ev.step (fun k => by simp only [spec_HasPower.l0]; rw [_root_.if_pos (by omega), decide_eq_false (by omega)]) ?_
    exact Ev.step (fun k => by simp only [spec_HasPower.j2]; rw [_root_.if_neg (by decide)]) (Ev.some _)

theorem implPower_ev (w : List Int) (a b : Nat) (ha : 2 ≤ a ∧ a ≤ 20) (hb : 1 ≤ b ∧ b < a) (hw : w.length ≤ 1048576) : Ev (fun k => impl_HasPower.f k w (a : Int) (b : Int)) (hasPower w a b) := by
  unfold impl_HasPower.f
  refine Ev.ite (fun h => ?_) (fun h => ?_)
  · have hf : hasPower w a b = false := hasPower_no _ _ _ (fun h => by have := h.1; omega)
    rw [hf]
    exact Ev.step (fun k => by simp only [impl_HasPower.j0]; rw [_root_.if_pos trivial]) (Ev.some _)
  · refine Ev.if_neg (by omega) (Ev.if_neg (by omega) (Ev.if_neg (by omega) ?_))
    rw [decide_eq_false (by omega)]
    refine Ev.step (fun k => by simp only [impl_HasPower.j0]; rw [_root_.if_neg (by decide)]) ?_
    have key : ∀ r : Bool, (r = true ↔ PW w a b) → ∀ d p, p + d = w.length + 1 → 1 ≤ p → (∀ q i L, 1 ≤ q → q < p → i + q < w.length → per w q i L → ¬ q * a ≤ (q + L) * b) → Ev (fun k => impl_HasPower.l0 k w (a : Int) (b : Int) (p : Int)) r := by
      intro r hr d
      induction d with
      | zero =>
        intro p hpd hp hno
        refine Ev.step (fun k => by simp only [impl_HasPower.l0]; rw [_root_.if_neg (by omega)]) (Ev.same (Ev.some false) ?_)
        cases r with
        | false => rfl
        | true =>
          obtain ⟨_, i, p', L, h1, h2, h3, h4⟩ := hr.1 rfl
          exact absurd h4 (hno p' i L h1 (by omega) h2 h3)
      | succ d ih =>
        intro p hpd hp hno
        obtain ⟨M, g0, ⟨i, g1⟩, g2, g3⟩ := longest_ev w p hp hw (by omega)
        refine Ev.step (fun k => by simp only [impl_HasPower.l0]; rw [_root_.if_pos (by omega)]) ?_
        refine Ev.bind g3 ?_
        have e1 : wrap64 (((M + p : Nat) : Int) * (b : Int)) = (((M + p) * b : Nat) : Int) := by
          have h2 : (M + p) * b ≤ 400 * 20 := Nat.mul_le_mul (show M + p ≤ 400 from by omega) (show b ≤ 20 from by omega)
          have h3 : (M + p) * b ≤ 100000 := Nat.le_trans h2 (by decide)
          clear h2
          rw [← Int.natCast_mul]; exact w_id (by omega) (by omega)
        have e2 : wrap64 ((a : Int) * (p : Int)) = ((p * a : Nat) : Int) := by
          have h2 : p * a ≤ 256 * 20 := Nat.mul_le_mul (show p ≤ 256 from by omega) (show a ≤ 20 from by omega)
          have h3 : p * a ≤ 100000 := Nat.le_trans h2 (by decide)
          clear h2
          rw [Int.mul_comm, ← Int.natCast_mul]; exact w_id (by omega) (by omega)
        rw [e1, e2]
        refine Ev.ite (fun c => ?_) (fun c => ?_)
        · refine Ev.same (Ev.some true) ?_
          symm; refine hr.2 ⟨by omega, ?_⟩
          by_cases hM : M = 0
          · subst hM
            have h7 := Nat.mul_lt_mul_of_pos_left hb.2 (show 0 < p from hp)
            rw [Nat.zero_add] at c
            exact absurd (Int.ofNat_le.1 c) (Nat.not_le.2 h7)
          · have := per_bound g1 (by omega)
            exact ⟨i, p, M, hp, by omega, g1, by rw [Nat.add_comm p M]; exact Int.ofNat_le.1 c⟩
        · refine Ev.congr (fun k => by rw [wsucc (by omega)]) (ih (p + 1) (by omega) (by omega) (fun q' j L h1 h2 h3 h4 h5 => ?_))
          by_cases e : q' = p
          · subst e
            exact c (Int.ofNat_le.2 (Nat.le_trans h5 (Nat.mul_le_mul_right b (by rw [Nat.add_comm M]; exact Nat.add_le_add_left (g2 j L h4) q'))))
          · exact hno q' j L h1 (by omega) h3 h4 h5
    exact key _ (hasPower_iff w a b) w.length 1 (by omega) (Nat.le_refl _) (fun q i L h1 h2 => by omega)

theorem specSquare_ev (w : List Int) (hw : w.length ≤ 1048576) : Ev (fun k => spec_HasSquare.f k w) (hasPower w 2 1) := by
  unfold spec_HasSquare.f; exact Ev.bind (specPower_ev w 2 1 (by omega) (by omega) hw) (Ev.some _)
theorem implSquare_ev (w : List Int) (hw : w.length ≤ 1048576) : Ev (fun k => impl_HasSquare.f k w) (hasPower w 2 1) := by
  unfold impl_HasSquare.f; exact Ev.bind (implPower_ev w 2 1 (by omega) (by omega) hw) (Ev.some _)

theorem implOverlap_ev (w : List Int) (hw : w.length ≤ 1048576) : Ev (fun k => impl_HasOverlap.f k w) (hasOverlap w) := by
  unfold impl_HasOverlap.f
  refine Ev.ite (fun h => ?_) (fun h => ?_)
  · have hf : hasOverlap w = false := hasOverlap_no _ (fun h => by have := h.1; omega)
    rw [hf]; exact Ev.some _
  · have key : ∀ r : Bool, (r = true ↔ OV w) → ∀ d p, p + d = w.length + 1 → 1 ≤ p → (∀ q i L, 1 ≤ q → q < p → per w q i L → ¬ q < L) → Ev (fun k => impl_HasOverlap.l0 k w (p : Int)) r := by
      intro r hr d
      induction d with
      | zero =>
        intro p hpd hp hno
        refine Ev.step (fun k => by simp only [impl_HasOverlap.l0]; rw [_root_.if_neg (by omega)]) (Ev.same (Ev.some false) ?_)
        cases r with
        | false => rfl
        | true =>
          obtain ⟨_, i, p', L, h1, h3, h4⟩ := hr.1 rfl
          exact absurd h4 (hno p' i L h1 (by have := per_bound h3 (by omega); omega) h3)
      | succ d ih =>
        intro p hpd hp hno
        obtain ⟨M, g0, ⟨i, g1⟩, g2, g3⟩ := longest_ev w p hp hw (by omega)
        refine Ev.step (fun k => by simp only [impl_HasOverlap.l0]; rw [_root_.if_pos (by omega)]) ?_
        refine Ev.bind g3 ?_
        rw [w_id (a := 2 * (p : Int)) (by omega) (by omega)]
        refine Ev.ite (fun c => ?_) (fun c => ?_)
        · refine Ev.same (Ev.some true) ?_
          symm; exact hr.2 ⟨by omega, i, p, M, hp, g1, by omega⟩
        · refine Ev.congr (fun k => by rw [wsucc (by omega)]) (ih (p + 1) (by omega) (by omega) (fun q' j L h1 h2 h4 h5 => ?_))
          by_cases e : q' = p
          · subst e
            have := g2 j L h4
            omega
          · exact hno q' j L h1 (by omega) h4 h5
    exact key _ (hasOverlap_iff w) w.length 1 (by omega) (Nat.le_refl _) (fun q i L h1 h2 => by omega)

theorem specOverlap_ev (w : List Int) (hw : w.length ≤ 1048576) : Ev (fun k => spec_HasOverlap.f k w) (hasOverlap w) := by
  unfold spec_HasOverlap.f
  by_cases h128 : w.length ≤ 128
  · have inner : ∀ (i : Nat) (r : Bool), i < w.length → ((∀ p L, 1 ≤ p → per w p i L → ¬ p < L) → Ev (fun k => spec_HasOverlap.l0 k w ((i + 1 : Nat) : Int)) r) → (r = false → ∀ p L, 1 ≤ p → per w p i L → ¬ p < L) →
        ∀ d p, p + d = w.length → 1 ≤ p → (∀ q L, 1 ≤ q → q < p → per w q i L → ¬ q < L) → Ev (fun k => spec_HasOverlap.l1 k w (i : Int) (p : Int)) r := by
      intro i r hi hr hr1 d
      have big : ∀ q L, w.length ≤ i + 2 * q → per w q i L → ¬ q < L := fun q L h1 h2 h3 => by have := per_bound h2 (by omega); omega
      induction d with
      | zero =>
        intro p hpd hp hno
        refine Ev.step (fun k => by simp only [spec_HasOverlap.l1]; rw [w_id (a := 2 * (p : Int)) (by omega) (by omega), w_id (a := (i : Int) + (2 * (p : Int))) (by omega) (by omega), _root_.if_neg (by omega), wsucc (by omega)]) (hr (fun q L h1 h3 => ?_))
        by_cases e : q < p
        · exact hno q L h1 e h3
        · exact big q L (by omega) h3
      | succ d ih =>
        intro p hpd hp hno
        by_cases q : i + 2 * p < w.length
        · obtain ⟨M, g1, g2, g3⟩ := l10_ev w i p hp hw (by omega)
          refine Ev.step (fun k => by simp only [spec_HasOverlap.l1]; rw [w_id (a := 2 * (p : Int)) (by omega) (by omega), w_id (a := (i : Int) + (2 * (p : Int))) (by omega) (by omega), _root_.if_pos (by omega)]) ?_
          refine Ev.bind g3 ?_
          refine Ev.ite (fun c => ?_) (fun c => ?_)
          · refine Ev.same (Ev.some true) ?_
            cases r with
            | true => rfl
            | false => exact absurd (show p < M by omega) (hr1 rfl p M hp g1)
          · refine Ev.congr (fun k => by rw [wsucc (by omega)]) (ih (p + 1) (by omega) (by omega) (fun q' L h1 h2 h4 h5 => ?_))
            by_cases e : q' = p
            · subst e
              rcases Nat.lt_or_ge M L with hlt | hge
              · exact absurd (per_le h4 (show M + 1 ≤ L from hlt)) g2
              · omega
            · exact hno q' L h1 (by omega) h4 h5
        · refine Ev.step (fun k => by simp only [spec_HasOverlap.l1]; rw [w_id (a := 2 * (p : Int)) (by omega) (by omega), w_id (a := (i : Int) + (2 * (p : Int))) (by omega) (by omega), _root_.if_neg (by omega), wsucc (by omega)]) (hr (fun q' L h1 h3 => ?_))
          by_cases e : q' < p
          · exact hno q' L h1 e h3
          · exact big q' L (by omega) h3
    have outer : ∀ r : Bool, (r = true ↔ OV w) → ∀ i, i ≤ w.length → (∀ j p L, j < i → 1 ≤ p → per w p j L → ¬ p < L) → Ev (fun k => spec_HasOverlap.l0 k w (i : Int)) r := by
      intro r hr
      refine down w.length ?_ ?_
      · intro hno
        refine Ev.step (fun k => by simp only [spec_HasOverlap.l0]; rw [_root_.if_neg (by omega)]) ?_
        refine Ev.step (fun k => by simp only [spec_HasOverlap.j1]; rw [_root_.if_neg (by decide)]) (Ev.same (Ev.some false) ?_)
        cases r with
        | false => rfl
        | true =>
          obtain ⟨_, i, p, L, h1, h3, h4⟩ := hr.1 rfl
          exact absurd h4 (hno i p L (by have := per_bound h3 (by omega); omega) h1 h3)
      · intro i hi ih hno
        refine Ev.step (fun k => by simp only [spec_HasOverlap.l0]; rw [_root_.if_pos (by omega), decide_eq_true (by omega)]) ?_
        refine Ev.step (fun k => by simp only [spec_HasOverlap.j1]; rw [_root_.if_pos trivial]) ?_
        refine inner i r hi (fun h => ih (fun j p L hj h1 h3 => ?_)) (fun e p L h1 h3 h4 => ?_) (w.length - 1) 1 (by omega) (Nat.le_refl _) (fun q L h1 h2 => by omega)
        · by_cases e : j = i
          · subst e; exact h p L h1 h3
          · exact hno j p L (by omega) h1 h3
        · have := hr.2 ⟨h128, i, p, L, h1, h3, h4⟩; rw [e] at this; cases this
    exact outer _ (hasOverlap_iff w) 0 (by omega) (fun j p L h => by omega)
  · have hf : hasOverlap w = false := hasOverlap_no _ (fun h => h128 h.1)
    rw [hf]
    refine Ev.step (fun k => by simp only [spec_HasOverlap.l0]; rw [_root_.if_pos (by omega), decide_eq_false (by omega)]) ?_
    exact Ev.step (fun k => by simp only [spec_HasOverlap.j1]; rw [_root_.if_neg (by decide)]) (Ev.some _)
end Go.Proofs.Ytooamcjgejajeaa.M
/- Walks for this claim, written by a program of mine over the kit's print. No condition of mine. -/
namespace Go.Proofs.Ytooamcjgejajeaa.M
open Go.RowKit Go.Proofs.Ytooamcjgejajeaa.KW Go.Proofs.YtooamcjgejajeaaW.PrintWords Go.Proofs.YtooamcjgejajeaaW.PrintLast Go.Proofs.YtooamcjgejajeaaW.PrintMore
attribute [local go_sem] max2_int min2_int max_two min_two max_three min_three max_four min_four   -- for this text's walks alone
set_option linter.unusedVariables false
set_option linter.unusedSimpArgs false

/-! ### spec_ApplyMorphism: function 95 -/
mutual
def spec_ApplyMorphism.j0 : Nat → List Int → List Int → Bool → List (List Int) → Option (List Int × Bool)
 | 0, _, _, _, _ => none
 | k + 1, x1, x6, x19, x379000 => if x19 = true then (some (x6, false)) else (spec_ApplyMorphism.l0 k x1 x6 0 x379000)
def spec_ApplyMorphism.l0 : Nat → List Int → List Int → Int → List (List Int) → Option (List Int × Bool)
 | 0, _, _, _, _ => none
 | k + 1, x1, x6, x7, x379000 => if x7 < (x1.length : Int) then (if 0 ≤ x7 then (if 0 ≤ (rd x1 x7) then (if (rd x1 x7) < (x379000.length : Int) then (if x6.length + (rd_L1 x379000 (rd x1 x7)).length < 17592186044416 then ((some (x6 ++ (rd_L1 x379000 (rd x1 x7)) : List Int)).bind fun y386 => (if (y386.length : Int) > 400 then (some ((([] : List Int)), false)) else (spec_ApplyMorphism.l0 k x1 y386 (wrap64 (x7 + 1)) x379000))) else (none)) else (none)) else (none)) else (none)) else (some (x6, true))
end
def spec_ApplyMorphism.f (k : Nat) (l0_0 : List (List Int)) (l1 : List Int) : Option (List Int × Bool) := (some (([] : List Int) : List Int)).bind fun y379 => ((spec_IsMorphism.f k l0_0).bind fun t382 => (if t382 = true then ((spec_IsWord.f k l1 (l0_0.length : Int)).bind fun t383 => (spec_ApplyMorphism.j0 k l1 y379 (!t383) l0_0)) else (spec_ApplyMorphism.j0 k l1 y379 true l0_0)))
theorem spec_ApplyMorphism.mono_l : ∀ k, (∀ y0 y1 y2 y3, LeO (spec_ApplyMorphism.j0 k y0 y1 y2 y3) (spec_ApplyMorphism.j0 (k + 1) y0 y1 y2 y3)) ∧ (∀ y0 y1 y2 y3, LeO (spec_ApplyMorphism.l0 k y0 y1 y2 y3) (spec_ApplyMorphism.l0 (k + 1) y0 y1 y2 y3))
 | 0 => ⟨fun _ _ _ _ r h => by simp [spec_ApplyMorphism.j0] at h, fun _ _ _ _ r h => by simp [spec_ApplyMorphism.l0] at h⟩
 | k + 1 => by
  obtain ⟨ih0, ih1⟩ := spec_ApplyMorphism.mono_l k
  refine ⟨?_, ?_⟩
  ·intro y0 y1 y2 y3
   unfold spec_ApplyMorphism.j0
   repeat' first
   | (with_reducible exact ih0 _ _ _ _)
   | (with_reducible exact ih1 _ _ _ _)
   | (with_reducible exact spec_IsMorphism.mono _ _)
   | (with_reducible exact spec_IsWord.mono _ _ _)
   | (with_reducible exact LeO.refl _)
   | (with_reducible exact LeO.none _)
   | (with_reducible refine LeO.ite ?_ ?_)
   | (with_reducible refine LeO.bind ?_ (fun _ => ?_))
   | exact ih0 _ _ _ _
   | exact ih1 _ _ _ _
   | exact spec_IsMorphism.mono _ _
   | exact spec_IsWord.mono _ _ _
   | exact LeO.none _
   | refine LeO.ite ?_ ?_
   | refine LeO.bind ?_ (fun _ => ?_)
  ·intro y0 y1 y2 y3
   unfold spec_ApplyMorphism.l0
   repeat' first
   | (with_reducible exact ih0 _ _ _ _)
   | (with_reducible exact ih1 _ _ _ _)
   | (with_reducible exact spec_IsMorphism.mono _ _)
   | (with_reducible exact spec_IsWord.mono _ _ _)
   | (with_reducible exact LeO.refl _)
   | (with_reducible exact LeO.none _)
   | (with_reducible refine LeO.ite ?_ ?_)
   | (with_reducible refine LeO.bind ?_ (fun _ => ?_))
   | exact ih0 _ _ _ _
   | exact ih1 _ _ _ _
   | exact spec_IsMorphism.mono _ _
   | exact spec_IsWord.mono _ _ _
   | exact LeO.none _
   | refine LeO.ite ?_ ?_
   | refine LeO.bind ?_ (fun _ => ?_)
theorem spec_ApplyMorphism.mono : ∀ a0 a1 k, LeO (spec_ApplyMorphism.f k a0 a1) (spec_ApplyMorphism.f (k + 1) a0 a1) := by
 intro a0 a1 k
 obtain ⟨ih0, ih1⟩ := spec_ApplyMorphism.mono_l k
 unfold spec_ApplyMorphism.f
 repeat' first
   | (with_reducible exact ih0 _ _ _ _)
   | (with_reducible exact ih1 _ _ _ _)
   | (with_reducible exact spec_IsMorphism.mono _ _)
   | (with_reducible exact spec_IsWord.mono _ _ _)
   | (with_reducible exact LeO.refl _)
   | (with_reducible exact LeO.none _)
   | (with_reducible refine LeO.ite ?_ ?_)
   | (with_reducible refine LeO.bind ?_ (fun _ => ?_))
   | exact ih0 _ _ _ _
   | exact ih1 _ _ _ _
   | exact spec_IsMorphism.mono _ _
   | exact spec_IsWord.mono _ _ _
   | exact LeO.none _
   | refine LeO.ite ?_ ?_
   | refine LeO.bind ?_ (fun _ => ?_)
def spec_ApplyMorphism.T7 : Bool × List (List Nat × List Nat) := (true, [([], []), ([], []), ([1], [1]), ([], []), ([], []), ([3, 4], [3, 4]), ([5], [5]), ([2, 6], [2, 6]), ([7], [7]), ([0, 8], [0, 8]), ([9, 9, 0, 1, 2, 3, 4, 5, 6, 7, 8, 9], [0, 9])])
def spec_ApplyMorphism.B7 : List Nat := [0, 0, 2, 0, 0, 24, 56, 126, 254, 511, 1023]
theorem spec_ApplyMorphism.tab7 : rtab .any (opsOf Try.f95 7) = spec_ApplyMorphism.T7 := by kernel_rfl
theorem spec_ApplyMorphism.bits7 : waitsOk spec_ApplyMorphism.T7.2 spec_ApplyMorphism.B7 = true := by kernel_rfl
set_option maxHeartbeats 8000000 in
set_option maxRecDepth 100000 in
theorem spec_ApplyMorphism.calls (k : Nat) (A0_0 : Option Addr) (c0_0 : Nat) (l0_0 : List (List Int)) (A1 : Option Addr) (c1 : Nat) (l1 : List Int) (r1 : List Int) (r2 : Bool) (w : World) (hr0_0 : Kd.C (Kd.slice 3 (Kd.int .i64)) w A0_0 l0_0.length l0_0) (hc0_0 : l0_0.length ≤ c0_0) (hr1 : Kd.C (Kd.int .i64) w A1 l1.length l1) (hc1 : l1.length ≤ c1) (h : spec_ApplyMorphism.f k l0_0 l1 = some (r1, r2)) :
  Calls Try.prog 95 #[.agg #[.slice A0_0 l0_0.length c0_0], .slice A1 l1.length c1] w fun e w' => ∃ v0_ : Value, e = .returned (.tuple #[v0_, .bool r2]) ∧ Kd.R (Kd.int .i64) 3 w' w.heap.size (fun _ => True) v0_ r1 ∧ Below w.heap.size w w' := by
 have hu28 := Try.underlying28
 have HR0_0 := Aside0.mk hr0_0
 have HC0_0 := Aside0.mk hc0_0
 clear hr0_0 hc0_0
 have HR1 := Aside0.mk hr1
 have HC1 := Aside0.mk hc1
 clear hr1 hc1
 have HB := Aside0.mk (Below.refl w.heap.size w)
 have H : ((some (([] : List Int) : List Int)).bind fun y379 => ((spec_IsMorphism.f k l0_0).bind fun t382 => (if t382 = true then ((spec_IsWord.f k l1 (l0_0.length : Int)).bind fun t383 => (spec_ApplyMorphism.j0 k l1 y379 (!t383) l0_0)) else (spec_ApplyMorphism.j0 k l1 y379 true l0_0)))) = some (r1, r2) := h
 clear h
 obtain ⟨y379, hy379⟩ : ∃ y_ : List Int, y_ = (([] : List Int)) := ⟨_, rfl⟩
 replace H : ((spec_IsMorphism.f k l0_0).bind fun t382 => (if t382 = true then ((spec_IsWord.f k l1 (l0_0.length : Int)).bind fun t383 => (spec_ApplyMorphism.j0 k l1 y379 (!t383) l0_0)) else (spec_ApplyMorphism.j0 k l1 y379 true l0_0))) = some (r1, r2) := by first | (rw [hy379]; with_reducible exact H) | (have H2_ := (Option.bind_some _ _).symm.trans H; rw [hy379]; with_reducible exact H2_) | (have H2_ := (Option.bind_some _ _).symm.trans H; with_reducible exact H2_) | with_reducible exact H | (rw [hy379]; exact H) | exact H
 have Ny379 := Aside0.mk hy379
 clear hy379
 have HC3 := Aside0.mk H
 clear H
 go_enter Try.func95, Try.ntmps95
 go_upto_region 2 with (first | ((with_reducible refine gate_dst (N := 2) rfl ?_); (try (refine gate_guard (by rfl) ?_; dsimp only)); refine box_event ?hg (N := 2) ?hd (cs := #[.slice A0_0 l0_0.length c0_0]) (t := 28) ?hr ?_; (case hd => rfl); (case hg => rfl); (case hr => first | (go_simp; done) | (go_simp; rfl)); intro gb378 hg w4 hbox hb; have n0_ := Aside0.mk (below_step (by repeat (first | (with_reducible first | exact HB.out | apply below_alloc | apply pw_below_drewN | apply below_drew1) | exact HB.out)) hb); have n1_ := Aside0.mk (hbox); have n2_ := Aside0.mk ((by rw [hg]; exact (below_size (by repeat (first | (with_reducible first | exact HB.out | apply below_alloc | apply pw_below_drewN | apply below_drew1) | exact HB.out))) : w.heap.size ≤ gb378)); have n3_ := Aside0.mk ((by rw [hg]; exact (below_size (by repeat (first | (with_reducible first | exact HB.out | apply below_alloc | apply pw_below_drewN | apply below_drew1) | exact HB.out))) : w.heap.size ≤ gb378)); clear HB; have HB := n0_; have BK378 := n1_; have GW378 := n2_; have GE378 := n3_; clear n0_ n1_ n2_ n3_; clear hb hbox hg) | ((with_reducible refine gate_dst (N := 8) rfl ?_); (try (refine gate_guard (by rfl) ?_; dsimp only)); refine Kd.R_lit (Kd.int .i64) _ 3 ?hg (N := 8) ?hd (xs := ([] : List Int)) (inner := []) (ok := fun _ => True) (okp := fun _ => True) ?hr ?hp (fun _ hk => hk) trivial (Below.refl _ _) (Nat.le_refl _) (by simp) ?_; (case hd => rfl); (case hg => rfl); (case hr => first | (go_simp; done) | (go_simp; rfl)); (case hp => exact (Reps.none _ _)); intro v380 w5 ho6 hb hg_ hnew_; clear hg_ hnew_; (first | rw [← Ny379.out] at ho6 | (simp only [Int.reduceToNat] at ho6; rw [← Ny379.out] at ho6)); have n0_ := Aside0.mk (Kd.R_lower ho6 (below_size (by repeat (first | (with_reducible first | exact HB.out | apply below_alloc | apply pw_below_drewN | apply below_drew1 | refine below_set ?_ GE378.out) | exact HB.out)))); have n1_ := Aside0.mk (blk_below (g := gb378) (o := .cells #[.slice A0_0 l0_0.length c0_0] 28 (0, 0)) (by (with_reducible repeat (first | refine blk_drewN ?_ _ | refine blk_drew ?_ | refine blk_alloc ?_ _)); exact BK378.out) hb); have n2_ := Aside0.mk (below_step (by repeat (first | (with_reducible first | exact HB.out | apply below_alloc | apply pw_below_drewN | apply below_drew1 | refine below_set ?_ GE378.out) | exact HB.out)) hb); clear BK378; clear HB; have HO381 := n0_; have BK378 := n1_; have HB := n2_; clear n0_ n1_ n2_; clear hb ho6))
 (try simp only [Act.put, List.setIfInBounds_toArray, List.set_cons_zero, List.set_cons_succ])
 go_cut [19] (fun v19 wc => ∃ (kq : Nat) (x19_2 : Bool), v19 = .bool x19_2 ∧ Aside0 (spec_ApplyMorphism.j0 kq l1 y379 x19_2 l0_0 = some (r1, r2)) ∧ Aside0 (kq ≤ k) ∧ Aside0 (Kd.R (Kd.int .i64) 3 wc w.heap.size (fun _ => True) v380 y379) ∧ Aside0 (wc.heap[gb378]? = some (.cells #[(.slice A0_0 l0_0.length c0_0)] 28 (0, 0))) ∧ Aside0 (Below w.heap.size w wc))
 case first =>
  have H := HC3.out
  clear HC3
  replace H := Option.bind_eq_some_iff.mp H
  obtain ⟨t382, A70, H⟩ := H
  replace H : (if t382 = true then ((spec_IsWord.f k l1 (l0_0.length : Int)).bind fun t383 => (spec_ApplyMorphism.j0 k l1 y379 (!t383) l0_0)) else (spec_ApplyMorphism.j0 k l1 y379 true l0_0)) = some (r1, r2) := H
  have A7 := Aside0.mk A70
  clear A70
  by_cases c8 : t382 = true
  ·subst c8
   have H1 : ((spec_IsWord.f k l1 (l0_0.length : Int)).bind fun t383 => (spec_ApplyMorphism.j0 k l1 y379 (!t383) l0_0)) = some (r1, r2) := by rw [if_pos rfl] at H; exact H
   clear H
   have H := H1
   clear H1
   replace H := Option.bind_eq_some_iff.mp H
   obtain ⟨t383, A90, H⟩ := H
   replace H : (spec_ApplyMorphism.j0 k l1 y379 (!t383) l0_0) = some (r1, r2) := H
   have A9 := Aside0.mk A90
   clear A90
   have H' := Aside0.mk H
   clear H
   have hcz10_0 : w5.cell? ⟨gb378, 0, none⟩ = some (.slice A0_0 l0_0.length c0_0) := (blk_cell BK378.out 0).trans rfl
   have hfz10_0 := blk_frozen BK378.out 0
   go_wp2_with (first | ((with_reducible refine gate_callee (f := 109) rfl ?_); refine goesL_ (some 10) rfl rfl Try.func109 (by kernel_rfl) rfl #[.agg #[.slice A0_0 l0_0.length c0_0]] rfl (by (try simp only [List.map_toArray, List.map_cons, List.map_nil]); first | done | rfl | (simp only [List.length_drop, List.length_take]; rfl)) ?_; (with_reducible refine (spec_IsMorphism.calls k _ _ l0_0 true _ ?side1 ?side2 A7.out).mono ?_); (case side1 => repeat (first | exact (Kd.C_below HR0_0.out HB.out) | (with_reducible refine Kd.C_alloc ?_ _) | (with_reducible refine Kd.C_drewN ?_ _) | (with_reducible refine Kd.C_drew ?_))); (case side2 => exact HC0_0.out); rintro e w11 ⟨rfl, hb⟩; refine ⟨_, rfl, ?_⟩; have n0_ := Aside0.mk (Kd.R_below (by (with_reducible repeat (first | apply Kd.R_alloc | apply Kd.R_drewN | apply Kd.R_drew)); exact HO381.out) hb); have n1_ := Aside0.mk (blk_below (g := gb378) (o := .cells #[.slice A0_0 l0_0.length c0_0] 28 (0, 0)) (by (with_reducible repeat (first | refine blk_drewN ?_ _ | refine blk_drew ?_ | refine blk_alloc ?_ _)); exact BK378.out) hb); have n2_ := Aside0.mk (below_step (by repeat (first | (with_reducible first | exact HB.out | apply below_alloc | apply pw_below_drewN | apply below_drew1 | refine below_set ?_ GE378.out) | exact HB.out)) hb); clear HO381; clear BK378; clear HB; have HO381 := n0_; have BK378 := n1_; have HB := n2_; clear n0_ n1_ n2_; (try clear hb); (try clear hb2); (try clear hk); (try clear hi); have hcz12_0 : w11.cell? ⟨gb378, 0, none⟩ = some (.slice A0_0 l0_0.length c0_0) := (blk_cell BK378.out 0).trans rfl; have hfz12_0 := blk_frozen BK378.out 0) | (go_at_call 129; (with_reducible refine (spec_IsWord.calls k _ _ l1 (l0_0.length : Int) t383 _ ?side1 ?side2 A9.out).mono ?_); (case side1 => repeat (first | exact (Kd.C_below HR1.out HB.out) | (with_reducible refine Kd.C_alloc ?_ _) | (with_reducible refine Kd.C_drewN ?_ _) | (with_reducible refine Kd.C_drew ?_))); (case side2 => exact HC1.out); rintro e w' ⟨rfl, ⟨nd, rfl⟩⟩))
   go_meet
   case rel => exact ⟨_, (!t383), (by first | rfl | (simp; done) | (simp [*]; done)), H', ⟨by first | omega | exact Nat.le_refl _⟩, ⟨by (with_reducible repeat (first | apply Kd.R_alloc | apply Kd.R_drewN | apply Kd.R_drew)); exact HO381.out⟩, ⟨by (with_reducible repeat (first | refine blk_drewN ?_ _ | refine blk_drew ?_ | refine blk_alloc ?_ _)); exact BK378.out⟩, ⟨by repeat (first | (with_reducible first | exact HB.out | apply below_alloc | apply pw_below_drewN | apply below_drew1 | refine below_set ?_ GE378.out) | exact HB.out)⟩⟩
  ·replace c8 := Bool.eq_false_iff.mpr c8
   subst c8
   have H1 : (spec_ApplyMorphism.j0 k l1 y379 true l0_0) = some (r1, r2) := by rw [if_neg (show ¬ (false = true) by decide)] at H; exact H
   clear H
   have H := H1
   clear H1
   have H' := Aside0.mk H
   clear H
   have hcz13_0 : w5.cell? ⟨gb378, 0, none⟩ = some (.slice A0_0 l0_0.length c0_0) := (blk_cell BK378.out 0).trans rfl
   have hfz13_0 := blk_frozen BK378.out 0
   go_wp2_with (first | ((with_reducible refine gate_callee (f := 109) rfl ?_); refine goesL_ (some 10) rfl rfl Try.func109 (by kernel_rfl) rfl #[.agg #[.slice A0_0 l0_0.length c0_0]] rfl (by (try simp only [List.map_toArray, List.map_cons, List.map_nil]); first | done | rfl | (simp only [List.length_drop, List.length_take]; rfl)) ?_; (with_reducible refine (spec_IsMorphism.calls k _ _ l0_0 false _ ?side1 ?side2 A7.out).mono ?_); (case side1 => repeat (first | exact (Kd.C_below HR0_0.out HB.out) | (with_reducible refine Kd.C_alloc ?_ _) | (with_reducible refine Kd.C_drewN ?_ _) | (with_reducible refine Kd.C_drew ?_))); (case side2 => exact HC0_0.out); rintro e w14 ⟨rfl, hb⟩; refine ⟨_, rfl, ?_⟩; have n0_ := Aside0.mk (Kd.R_below (by (with_reducible repeat (first | apply Kd.R_alloc | apply Kd.R_drewN | apply Kd.R_drew)); exact HO381.out) hb); have n1_ := Aside0.mk (blk_below (g := gb378) (o := .cells #[.slice A0_0 l0_0.length c0_0] 28 (0, 0)) (by (with_reducible repeat (first | refine blk_drewN ?_ _ | refine blk_drew ?_ | refine blk_alloc ?_ _)); exact BK378.out) hb); have n2_ := Aside0.mk (below_step (by repeat (first | (with_reducible first | exact HB.out | apply below_alloc | apply pw_below_drewN | apply below_drew1 | refine below_set ?_ GE378.out) | exact HB.out)) hb); clear HO381; clear BK378; clear HB; have HO381 := n0_; have BK378 := n1_; have HB := n2_; clear n0_ n1_ n2_; (try clear hb); (try clear hb2); (try clear hk); (try clear hi)))
   go_meet
   case rel => exact ⟨_, (true), (by first | rfl | (simp; done) | (simp [*]; done)), H', ⟨by first | omega | exact Nat.le_refl _⟩, ⟨by (with_reducible repeat (first | apply Kd.R_alloc | apply Kd.R_drewN | apply Kd.R_drew)); exact HO381.out⟩, ⟨by (with_reducible repeat (first | refine blk_drewN ?_ _ | refine blk_drew ?_ | refine blk_alloc ?_ _)); exact BK378.out⟩, ⟨by repeat (first | (with_reducible first | exact HB.out | apply below_alloc | apply pw_below_drewN | apply below_drew1 | refine below_set ?_ GE378.out) | exact HB.out)⟩⟩
 case rest =>
  clear HC3
  try clear c1
  try clear p2
  try clear c8
  try clear c9
  try clear c10
  try clear hcz10_0
  try clear hcz12_0
  try clear hcz13_0
  try clear hfz10_0
  try clear hfz12_0
  try clear hfz13_0
  obtain ⟨kq, x19_2, rfl, HA, HJ2, HO_6, BK378, HB⟩ := hcut
  cases kq with
  | zero => exact absurd HA.out (by simp [spec_ApplyMorphism.j0])
  | succ kj2 =>
   have H := HA.out
   clear HA
   simp only [spec_ApplyMorphism.j0] at H
   by_cases c15 : x19_2 = true
   ·subst c15
    have H1 : (some (y379, false)) = some (r1, r2) := by rw [if_pos rfl] at H; exact H
    clear H
    have H := H1
    clear H1
    simp only [Option.some.injEq, Prod.mk.injEq] at H
    obtain ⟨rfl, rfl⟩ := H
    go_wp2
    go_ret2
    exact ⟨_, by first | rfl | (simp [errW_none, errW_some] <;> rfl) | (simp [*, errW_none, errW_some] <;> rfl), by (with_reducible repeat (first | apply Kd.R_alloc | apply Kd.R_drewN | apply Kd.R_drew)); exact HO_6.out, by repeat (first | (with_reducible first | exact HB.out | apply below_alloc | apply pw_below_drewN | apply below_drew1 | refine below_set ?_ GE378.out) | exact HB.out)⟩
   ·replace c15 := Bool.eq_false_iff.mpr c15
    subst c15
    have H1 : (spec_ApplyMorphism.l0 kj2 l1 y379 0 l0_0) = some (r1, r2) := by rw [if_neg (show ¬ (false = true) by decide)] at H; exact H
    clear H
    have H := H1
    clear H1
    have H' := Aside0.mk H
    clear H
    go_wp2
    go_loopg [6, 7] kj2 (fun kq v6 v7 w' => ∃ (x6_2 : List Int) (x7_2 : Int), v7 = .int .i64 x7_2 ∧ Aside0 (spec_ApplyMorphism.l0 kq l1 x6_2 x7_2 l0_0 = some (r1, r2)) ∧ Aside0 (kq ≤ kj2) ∧ Aside0 (Kd.R (Kd.int .i64) 3 w' w.heap.size (fun _ => True) v6 x6_2) ∧ Aside0 (w'.heap[gb378]? = some (.cells #[(.slice A0_0 l0_0.length c0_0)] 28 (0, 0))) ∧ Aside0 (Below w.heap.size w w'))
    case atStart => exact ⟨(y379), (0), (by first | rfl | (simp; done) | (simp [*]; done)), H', ⟨Nat.le_refl _⟩, ⟨by (with_reducible repeat (first | apply Kd.R_alloc | apply Kd.R_drewN | apply Kd.R_drew)); exact HO_6.out⟩, ⟨by (with_reducible repeat (first | refine blk_drewN ?_ _ | refine blk_drew ?_ | refine blk_alloc ?_ _)); exact BK378.out⟩, ⟨by repeat (first | (with_reducible first | exact HB.out | apply below_alloc | apply pw_below_drewN | apply below_drew1 | refine below_set ?_ GE378.out) | exact HB.out)⟩⟩
    case round =>
     clear H'
     try clear c1
     try clear p2
     try clear c8
     try clear c9
     try clear c10
     try clear c15
     try clear hcz10_0
     try clear hcz12_0
     try clear hcz13_0
     try clear hfz10_0
     try clear hfz12_0
     try clear hfz13_0
     try clear p2
     obtain ⟨x6_2, x7_2, rfl, HA, HK2, HO_6, BK378, HB⟩ := hrel
     cases gk with
     | zero => exact absurd HA.out (by simp [spec_ApplyMorphism.l0])
     | succ k2 =>
      have H := HA.out
      clear HA
      simp only [spec_ApplyMorphism.l0] at H
      by_cases c16 : x7_2 < (l1.length : Int)
      ·rw [if_pos c16] at H
       have c16b0 : decide (x7_2 < (l1.length : Int)) = true := decide_eq_true c16
       clear c16
       by_cases c17 : 0 ≤ x7_2
       ·rw [if_pos c17] at H
        have c17b0 : decide (0 ≤ x7_2) = true := decide_eq_true c17
        clear c17
        by_cases c18 : 0 ≤ (rd l1 x7_2)
        ·rw [if_pos c18] at H
         have c18b0 : decide (0 ≤ (rd l1 x7_2)) = true := decide_eq_true c18
         clear c18
         by_cases c19 : (rd l1 x7_2) < (l0_0.length : Int)
         ·rw [if_pos c19] at H
          have c19b0 : decide ((rd l1 x7_2) < (l0_0.length : Int)) = true := decide_eq_true c19
          clear c19
          by_cases c20 : x6_2.length + (rd_L1 l0_0 (rd l1 x7_2)).length < 17592186044416
          ·rw [if_pos c20] at H
           have LMc20 := Aside0.mk c20
           clear c20
           obtain ⟨y386, hy386⟩ : ∃ y_ : List Int, y_ = (x6_2 ++ (rd_L1 l0_0 (rd l1 x7_2))) := ⟨_, rfl⟩
           replace H : (if (y386.length : Int) > 400 then (some ((([] : List Int)), false)) else (spec_ApplyMorphism.l0 k2 l1 y386 (wrap64 (x7_2 + 1)) l0_0)) = some (r1, r2) := by first | (rw [hy386]; with_reducible exact H) | (have H2_ := (Option.bind_some _ _).symm.trans H; rw [hy386]; with_reducible exact H2_) | (have H2_ := (Option.bind_some _ _).symm.trans H; with_reducible exact H2_) | with_reducible exact H | (rw [hy386]; exact H) | exact H
           have Ny386 := Aside0.mk hy386
           clear hy386
           by_cases c21 : (y386.length : Int) > 400
           ·rw [if_pos c21] at H
            have c21b0 : decide (400 < (y386.length : Int)) = true := decide_eq_true c21
            have c21b1 : decide (400 < y386.length) = true := decide_eq_true (by omega)
            clear c21
            obtain ⟨y389, hy389⟩ : ∃ y_ : List Int, y_ = (([] : List Int)) := ⟨_, rfl⟩
            replace H : (some (y389, false)) = some (r1, r2) := by first | (rw [hy389]; with_reducible exact H) | (have H2_ := (Option.bind_some _ _).symm.trans H; rw [hy389]; with_reducible exact H2_) | (have H2_ := (Option.bind_some _ _).symm.trans H; with_reducible exact H2_) | with_reducible exact H | (rw [hy389]; exact H) | exact H
            have Ny389 := Aside0.mk hy389
            clear hy389
            simp only [Option.some.injEq, Prod.mk.injEq] at H
            obtain ⟨rfl, rfl⟩ := H
            try go_wp2
            have n0_ := Aside0.mk (Kd.R_drew HO_6.out)
            have n1_ := Aside0.mk (blk_drew BK378.out)
            have n2_ := Aside0.mk (below_drew1 HB.out)
            clear HO_6
            clear BK378
            clear HB
            have HO_6 := n0_
            have BK378 := n1_
            have HB := n2_
            clear n0_ n1_ n2_
            have p384 : 0 ≤ (x7_2 : Int) := of_decide_eq_true (by first | (with_reducible assumption) | assumption)
            have q384 : x7_2 < (l1.length : Int) := of_decide_eq_true (by first | (with_reducible assumption) | assumption)
            obtain ⟨ad384, e384, hx384_0⟩ := Kd.at_int HR1.out x7_2 p384 q384
            have hw384_0 := hx384_0
            cases e384
            replace hx384_0 := (HB.out.cell (World.block_lt_of_cell? w _ hx384_0)).trans hx384_0
            replace p384 := eq_true p384
            replace q384 := eq_true q384
            have p385 : 0 ≤ ((rd l1 x7_2) : Int) := of_decide_eq_true (by first | (with_reducible assumption) | assumption)
            have q385 : (rd l1 x7_2) < (l0_0.length : Int) := of_decide_eq_true (by first | (with_reducible assumption) | assumption)
            obtain ⟨ad385, A385_0, c385_0, e385, hx385_0, hl385_0, hi385_0⟩ := at_L1 HR0_0.out (rd l1 x7_2) p385 q385
            have hw385_0 := hx385_0
            cases e385
            replace hx385_0 := (HB.out.cell (World.block_lt_of_cell? w _ hx385_0)).trans hx385_0
            have HR385_0 := Aside0.mk hi385_0
            have HC385_0 := Aside0.mk hl385_0
            clear hi385_0 hl385_0
            replace p385 := eq_true p385
            replace q385 := eq_true q385
            refine start_ (n := 11) (S := fun w' => w'.cell? ⟨gb378, 0, none⟩ = some (.slice (some ad385) l0_0.length c0_0) ∧ w'.cell? (ad384.add (x7_2).toNat) = some (.int .i64 (rd l1 x7_2)) ∧ w'.cell? (ad385.add ((rd l1 x7_2)).toNat) = some (.slice A385_0 (rd_L1 l0_0 (rd l1 x7_2)).length c385_0)) (ds := []) #[false, false, false, false, false, false, false, false, false, false, false] (by kernel_rfl) rfl rfl ⟨(blk_cell BK378.out 0).trans rfl, ((HB.out.cell (World.block_lt_of_cell? w _ hw384_0)).trans hw384_0), ((HB.out.cell (World.block_lt_of_cell? w _ hw385_0)).trans hw385_0)⟩ (fun hHeld => ?_); refine with_tabW spec_ApplyMorphism.tab7 spec_ApplyMorphism.bits7 (fun HT_ HW_ => ?_)
            generalize wr.drew = w22 at HO_6 BK378 HB HR385_0 hx384_0 hx385_0 hHeld ⊢
            refine pure_ (i := 0) (N := some 27) (v := ?_) (a' := ?_) #[true, false, false, false, false, false, false, false, false, false, false] rfl rfl (any_of HT_.out (by kernel_rfl)) (fun _ _ _ h => h) (Or.inl ⟨by rfl, ?_⟩) ?_ ?_
            rotate_left
            ·intro w'
             go_simp
             with_reducible rfl
            rotate_left
            ·simp only [Act.put, List.setIfInBounds_toArray, List.set_cons_zero, List.set_cons_succ, i64_w, i32_w]
             rfl
            refine pure_ (i := 1) (N := some 28) (v := ?_) (a' := ?_) #[true, true, false, false, false, false, false, false, false, false, false] rfl rfl (any_of HT_.out (by kernel_rfl)) (fun _ _ _ h => h) (Or.inl ⟨by rfl, ?_⟩) ?_ ?_
            rotate_left
            ·intro w'
             go_simp
             with_reducible rfl
            rotate_left
            ·simp only [Act.put, List.setIfInBounds_toArray, List.set_cons_zero, List.set_cons_succ, i64_w, i32_w]
             rfl
            refine pure_ (i := 3) (N := some 30) (v := ?_) (a' := ?_) #[true, true, false, true, false, false, false, false, false, false, false] rfl rfl (any_of HT_.out (by kernel_rfl)) (fun _ _ _ h => h) (Or.inl ⟨by rfl, ?_⟩) ?_ ?_
            rotate_left
            ·intro w'
             go_simp
             with_reducible rfl
            rotate_left
            ·simp only [Act.put, List.setIfInBounds_toArray, List.set_cons_zero, List.set_cons_succ, i64_w, i32_w]
             rfl
            refine pure_ (i := 4) (N := some 31) (v := ?_) (a' := ?_) #[true, true, false, true, true, false, false, false, false, false, false] rfl rfl (any_of HT_.out (by kernel_rfl)) (fun _ _ _ h => h) (Or.inl ⟨by rfl, ?_⟩) ?_ ?_
            rotate_left
            ·intro w'
             go_simp
             with_reducible rfl
            rotate_left
            ·simp only [Act.put, List.setIfInBounds_toArray, List.set_cons_zero, List.set_cons_succ, i64_w, i32_w]
             rfl
            refine pure_ (i := 5) (N := some 32) (v := ?_) (a' := ?_) #[true, true, false, true, true, true, false, false, false, false, false] rfl rfl (any_of HT_.out (by kernel_rfl)) (fun _ _ _ h => h) (Or.inl ⟨by rfl, ?_⟩) ?_ ?_
            rotate_left
            ·intro w'
             go_simp
             with_reducible rfl
            rotate_left
            ·simp only [Act.put, List.setIfInBounds_toArray, List.set_cons_zero, List.set_cons_succ, i64_w, i32_w]
             rfl
            refine take_ (i := 2) (N := some 29) (v := ?_) (a' := ?_) #[true, true, true, true, true, true, false, false, false, false, false] rfl rfl (take_ofW HT_.out HW_.out (by kernel_rfl)) (fun _ _ _ h => h) (Or.inl ⟨by rfl, ?_⟩) hHeld ?_ ?_
            rotate_left
            ·rintro w' ⟨s0, s1, s2⟩
             go_simp
             with_reducible rfl
            rotate_left
            ·simp only [Act.put, List.setIfInBounds_toArray, List.set_cons_zero, List.set_cons_succ, i64_w, i32_w]
             rfl
            refine take_ (i := 6) (N := some 33) (v := ?_) (a' := ?_) #[true, true, true, true, true, true, true, false, false, false, false] rfl rfl (take_ofW HT_.out HW_.out (by kernel_rfl)) (fun _ _ _ h => h) (Or.inl ⟨by rfl, ?_⟩) hHeld ?_ ?_
            rotate_left
            ·rintro w' ⟨s0, s1, s2⟩
             go_simp
             with_reducible rfl
            rotate_left
            ·simp only [Act.put, List.setIfInBounds_toArray, List.set_cons_zero, List.set_cons_succ, i64_w, i32_w]
             rfl
            refine pure_ (i := 7) (N := some 34) (v := ?_) (a' := ?_) #[true, true, true, true, true, true, true, true, false, false, false] rfl rfl (any_of HT_.out (by kernel_rfl)) (fun _ _ _ h => h) (Or.inl ⟨by rfl, ?_⟩) ?_ ?_
            rotate_left
            ·intro w'
             go_simp
             with_reducible rfl
            rotate_left
            ·simp only [Act.put, List.setIfInBounds_toArray, List.set_cons_zero, List.set_cons_succ, i64_w, i32_w]
             rfl
            refine take_ (i := 8) (N := some 35) (v := ?_) (a' := ?_) #[true, true, true, true, true, true, true, true, true, false, false] rfl rfl (take_ofW HT_.out HW_.out (by kernel_rfl)) (fun _ _ _ h => h) (Or.inl ⟨by rfl, ?_⟩) hHeld ?_ ?_
            rotate_left
            ·rintro w' ⟨s0, s1, s2⟩
             go_simp
             with_reducible rfl
            rotate_left
            ·simp only [Act.put, List.setIfInBounds_toArray, List.set_cons_zero, List.set_cons_succ, i64_w, i32_w]
             rfl
            refine one_ (i := 9) (N := some 36) #[true, true, true, true, true, true, true, true, true, true, false] rfl rfl (one_of HT_.out (by kernel_rfl)) (by decide) (fun K hK => ?_)
            refine Kd.R_append_rows_step (Kd.int .i64) (w0 := w) w.heap.size (by rfl) (.tmp 27) (.tmp 35) 36 3 (.int .i64 0) 8 rfl Try.underlying36 info3 rfl (by decide) (by omega) u6 x6_2 (rd_L1 l0_0 (rd l1 x7_2)) _ _ _ (fun _ => True) (fun _ => False) rfl rfl ?aO ?aR (fun _ _ h => h) (fun _ h => h.elim) ?aF ?aB ?aS ?aL ?_
            (case aR => repeat (first | exact (Kd.C_below HR385_0.out HB.out) | (with_reducible refine Kd.C_alloc ?_ _) | (with_reducible refine Kd.C_drewN ?_ _) | (with_reducible refine Kd.C_drew ?_)))
            (case aB => exact (by repeat (first | (with_reducible first | exact HB.out | apply below_alloc | apply pw_below_drewN | apply below_drew1 | refine below_set ?_ GE378.out) | exact HB.out)))
            (case aF => exact (fun _ _ => trivial))
            (case aO => exact (by (with_reducible repeat (first | apply Kd.R_alloc | apply Kd.R_drewN | apply Kd.R_drew)); exact HO_6.out))
            (case aS => exact (below_size (by repeat (first | (with_reducible first | exact HB.out | apply below_alloc | apply pw_below_drewN | apply below_drew1 | refine below_set ?_ GE378.out) | exact HB.out))))
            (case aL => have := LMc20.out; omega)
            intro v387 w23 ho hb hg hat
            rw [← Ny386.out] at ho
            have n0_ := Aside0.mk (blk_grown (g := gb378) (o := .cells #[.slice (some ad385) l0_0.length c0_0] 28 (0, 0)) (by (with_reducible repeat (first | refine blk_drewN ?_ _ | refine blk_drew ?_ | refine blk_alloc ?_ _)); exact BK378.out) hg (Kd.R_ne HO_6.out BK378.out (by decide)))
            have n1_ := Aside0.mk (hb)
            have n2_ := Aside0.mk (ho)
            clear BK378
            clear HB
            clear HO_6
            have BK378 := n0_
            have HB := n1_
            have HO388 := n2_
            clear n0_ n1_ n2_
            clear ho hb hg hat
            refine hK.out _ _ ⟨(blk_cell BK378.out 0).trans rfl, ((HB.out.cell (World.block_lt_of_cell? w _ hw384_0)).trans hw384_0), ((HB.out.cell (World.block_lt_of_cell? w _ hw385_0)).trans hw385_0)⟩ (fun hHeld => ?_)
            clear hK K
            refine norm_ (a' := ?_) ?_ ?_
            rotate_left
            ·show Act.put _ (some 36) _ = _
             simp only [Act.put, List.setIfInBounds_toArray, List.set_cons_zero, List.set_cons_succ, i64_w, i32_w]
             rfl
            refine pure_ (i := 10) (N := some 6) (v := ?_) (a' := ?_) #[true, true, true, true, true, true, true, true, true, true, true] rfl rfl (any_of HT_.out (by kernel_rfl)) (fun _ _ _ h => h) (Or.inl ⟨by rfl, ?_⟩) ?_ ?_
            rotate_left
            ·intro w'
             go_simp
             with_reducible rfl
            rotate_left
            ·simp only [Act.put, List.setIfInBounds_toArray, List.set_cons_zero, List.set_cons_succ, i64_w, i32_w]
             rfl
            refine done_ (done_of HT_.out (by kernel_rfl)) ?_
            obtain ⟨Ao24, co24, eo24⟩ := Kd.R_slice HO388.out
            subst eo24
            try go_wp2_with (first | ((with_reducible refine gate_dst (N := 40) rfl ?_); (try (refine gate_guard (by rfl) ?_; dsimp only)); refine Kd.R_lit (Kd.int .i64) _ 3 ?hg (N := 40) ?hd (xs := ([] : List Int)) (inner := []) (ok := fun _ => True) (okp := fun _ => True) ?hr ?hp (fun _ hk => hk) trivial (Below.refl _ _) (Nat.le_refl _) (by simp) ?_; (case hd => rfl); (case hg => rfl); (case hr => first | (go_simp; done) | (go_simp; rfl)); (case hp => exact (Reps.none _ _)); intro v390 w25 ho26 hb hg_ hnew_; clear hg_ hnew_; (first | rw [← Ny389.out] at ho26 | (simp only [Int.reduceToNat] at ho26; rw [← Ny389.out] at ho26)); have n0_ := Aside0.mk (Kd.R_elder' (by (with_reducible repeat (first | apply Kd.R_alloc | apply Kd.R_drewN | apply Kd.R_drew)); exact HO388.out) (Kd.R_base ho26) hb); have n1_ := Aside0.mk (Kd.R_lower (Kd.R_new' ho26 (Kd.R_lt (by (with_reducible repeat (first | apply Kd.R_alloc | apply Kd.R_drewN | apply Kd.R_drew)); exact HO388.out))) (below_size (by repeat (first | (with_reducible first | exact HB.out | apply below_alloc | apply pw_below_drewN | apply below_drew1 | refine below_set ?_ GE378.out) | exact HB.out)))); have n2_ := Aside0.mk (blk_below (g := gb378) (o := .cells #[.slice (some ad385) l0_0.length c0_0] 28 (0, 0)) (by (with_reducible repeat (first | refine blk_drewN ?_ _ | refine blk_drew ?_ | refine blk_alloc ?_ _)); exact BK378.out) hb); have n3_ := Aside0.mk (below_step (by repeat (first | (with_reducible first | exact HB.out | apply below_alloc | apply pw_below_drewN | apply below_drew1 | refine below_set ?_ GE378.out) | exact HB.out)) hb); clear HO388; clear BK378; clear HB; have HO388 := n0_; have HO391 := n1_; have BK378 := n2_; have HB := n3_; clear n0_ n1_ n2_ n3_; clear hb ho26))
            go_ret2
            exact ⟨_, by first | rfl | (simp [errW_none, errW_some] <;> rfl) | (simp [*, errW_none, errW_some] <;> rfl), by (with_reducible repeat (first | apply Kd.R_alloc | apply Kd.R_drewN | apply Kd.R_drew)); exact Kd.R_mono HO391.out (fun _ hk => trivial), by repeat (first | (with_reducible first | exact HB.out | apply below_alloc | apply pw_below_drewN | apply below_drew1 | refine below_set ?_ GE378.out) | exact HB.out)⟩
           ·rw [if_neg c21] at H
            have c21b0 : decide (400 < (y386.length : Int)) = false := decide_eq_false c21
            have c21b1 : decide (400 < y386.length) = false := decide_eq_false (by omega)
            clear c21
            have H' := Aside0.mk H
            clear H
            try go_wp2
            have n0_ := Aside0.mk (Kd.R_drew HO_6.out)
            have n1_ := Aside0.mk (blk_drew BK378.out)
            have n2_ := Aside0.mk (below_drew1 HB.out)
            clear HO_6
            clear BK378
            clear HB
            have HO_6 := n0_
            have BK378 := n1_
            have HB := n2_
            clear n0_ n1_ n2_
            have p384 : 0 ≤ (x7_2 : Int) := of_decide_eq_true (by first | (with_reducible assumption) | assumption)
            have q384 : x7_2 < (l1.length : Int) := of_decide_eq_true (by first | (with_reducible assumption) | assumption)
            obtain ⟨ad384, e384, hx384_0⟩ := Kd.at_int HR1.out x7_2 p384 q384
            have hw384_0 := hx384_0
            cases e384
            replace hx384_0 := (HB.out.cell (World.block_lt_of_cell? w _ hx384_0)).trans hx384_0
            replace p384 := eq_true p384
            replace q384 := eq_true q384
            have p385 : 0 ≤ ((rd l1 x7_2) : Int) := of_decide_eq_true (by first | (with_reducible assumption) | assumption)
            have q385 : (rd l1 x7_2) < (l0_0.length : Int) := of_decide_eq_true (by first | (with_reducible assumption) | assumption)
            obtain ⟨ad385, A385_0, c385_0, e385, hx385_0, hl385_0, hi385_0⟩ := at_L1 HR0_0.out (rd l1 x7_2) p385 q385
            have hw385_0 := hx385_0
            cases e385
            replace hx385_0 := (HB.out.cell (World.block_lt_of_cell? w _ hx385_0)).trans hx385_0
            have HR385_0 := Aside0.mk hi385_0
            have HC385_0 := Aside0.mk hl385_0
            clear hi385_0 hl385_0
            replace p385 := eq_true p385
            replace q385 := eq_true q385
            refine start_ (n := 11) (S := fun w' => w'.cell? ⟨gb378, 0, none⟩ = some (.slice (some ad385) l0_0.length c0_0) ∧ w'.cell? (ad384.add (x7_2).toNat) = some (.int .i64 (rd l1 x7_2)) ∧ w'.cell? (ad385.add ((rd l1 x7_2)).toNat) = some (.slice A385_0 (rd_L1 l0_0 (rd l1 x7_2)).length c385_0)) (ds := []) #[false, false, false, false, false, false, false, false, false, false, false] (by kernel_rfl) rfl rfl ⟨(blk_cell BK378.out 0).trans rfl, ((HB.out.cell (World.block_lt_of_cell? w _ hw384_0)).trans hw384_0), ((HB.out.cell (World.block_lt_of_cell? w _ hw385_0)).trans hw385_0)⟩ (fun hHeld => ?_); refine with_tabW spec_ApplyMorphism.tab7 spec_ApplyMorphism.bits7 (fun HT_ HW_ => ?_)
            generalize wr.drew = w27 at HO_6 BK378 HB HR385_0 hx384_0 hx385_0 hHeld ⊢
            refine pure_ (i := 0) (N := some 27) (v := ?_) (a' := ?_) #[true, false, false, false, false, false, false, false, false, false, false] rfl rfl (any_of HT_.out (by kernel_rfl)) (fun _ _ _ h => h) (Or.inl ⟨by rfl, ?_⟩) ?_ ?_
            rotate_left
            ·intro w'
             go_simp
             with_reducible rfl
            rotate_left
            ·simp only [Act.put, List.setIfInBounds_toArray, List.set_cons_zero, List.set_cons_succ, i64_w, i32_w]
             rfl
            refine pure_ (i := 1) (N := some 28) (v := ?_) (a' := ?_) #[true, true, false, false, false, false, false, false, false, false, false] rfl rfl (any_of HT_.out (by kernel_rfl)) (fun _ _ _ h => h) (Or.inl ⟨by rfl, ?_⟩) ?_ ?_
            rotate_left
            ·intro w'
             go_simp
             with_reducible rfl
            rotate_left
            ·simp only [Act.put, List.setIfInBounds_toArray, List.set_cons_zero, List.set_cons_succ, i64_w, i32_w]
             rfl
            refine pure_ (i := 3) (N := some 30) (v := ?_) (a' := ?_) #[true, true, false, true, false, false, false, false, false, false, false] rfl rfl (any_of HT_.out (by kernel_rfl)) (fun _ _ _ h => h) (Or.inl ⟨by rfl, ?_⟩) ?_ ?_
            rotate_left
            ·intro w'
             go_simp
             with_reducible rfl
            rotate_left
            ·simp only [Act.put, List.setIfInBounds_toArray, List.set_cons_zero, List.set_cons_succ, i64_w, i32_w]
             rfl
            refine pure_ (i := 4) (N := some 31) (v := ?_) (a' := ?_) #[true, true, false, true, true, false, false, false, false, false, false] rfl rfl (any_of HT_.out (by kernel_rfl)) (fun _ _ _ h => h) (Or.inl ⟨by rfl, ?_⟩) ?_ ?_
            rotate_left
            ·intro w'
             go_simp
             with_reducible rfl
            rotate_left
            ·simp only [Act.put, List.setIfInBounds_toArray, List.set_cons_zero, List.set_cons_succ, i64_w, i32_w]
             rfl
            refine pure_ (i := 5) (N := some 32) (v := ?_) (a' := ?_) #[true, true, false, true, true, true, false, false, false, false, false] rfl rfl (any_of HT_.out (by kernel_rfl)) (fun _ _ _ h => h) (Or.inl ⟨by rfl, ?_⟩) ?_ ?_
            rotate_left
            ·intro w'
             go_simp
             with_reducible rfl
            rotate_left
            ·simp only [Act.put, List.setIfInBounds_toArray, List.set_cons_zero, List.set_cons_succ, i64_w, i32_w]
             rfl
            refine take_ (i := 2) (N := some 29) (v := ?_) (a' := ?_) #[true, true, true, true, true, true, false, false, false, false, false] rfl rfl (take_ofW HT_.out HW_.out (by kernel_rfl)) (fun _ _ _ h => h) (Or.inl ⟨by rfl, ?_⟩) hHeld ?_ ?_
            rotate_left
            ·rintro w' ⟨s0, s1, s2⟩
             go_simp
             with_reducible rfl
            rotate_left
            ·simp only [Act.put, List.setIfInBounds_toArray, List.set_cons_zero, List.set_cons_succ, i64_w, i32_w]
             rfl
            refine take_ (i := 6) (N := some 33) (v := ?_) (a' := ?_) #[true, true, true, true, true, true, true, false, false, false, false] rfl rfl (take_ofW HT_.out HW_.out (by kernel_rfl)) (fun _ _ _ h => h) (Or.inl ⟨by rfl, ?_⟩) hHeld ?_ ?_
            rotate_left
            ·rintro w' ⟨s0, s1, s2⟩
             go_simp
             with_reducible rfl
            rotate_left
            ·simp only [Act.put, List.setIfInBounds_toArray, List.set_cons_zero, List.set_cons_succ, i64_w, i32_w]
             rfl
            refine pure_ (i := 7) (N := some 34) (v := ?_) (a' := ?_) #[true, true, true, true, true, true, true, true, false, false, false] rfl rfl (any_of HT_.out (by kernel_rfl)) (fun _ _ _ h => h) (Or.inl ⟨by rfl, ?_⟩) ?_ ?_
            rotate_left
            ·intro w'
             go_simp
             with_reducible rfl
            rotate_left
            ·simp only [Act.put, List.setIfInBounds_toArray, List.set_cons_zero, List.set_cons_succ, i64_w, i32_w]
             rfl
            refine take_ (i := 8) (N := some 35) (v := ?_) (a' := ?_) #[true, true, true, true, true, true, true, true, true, false, false] rfl rfl (take_ofW HT_.out HW_.out (by kernel_rfl)) (fun _ _ _ h => h) (Or.inl ⟨by rfl, ?_⟩) hHeld ?_ ?_
            rotate_left
            ·rintro w' ⟨s0, s1, s2⟩
             go_simp
             with_reducible rfl
            rotate_left
            ·simp only [Act.put, List.setIfInBounds_toArray, List.set_cons_zero, List.set_cons_succ, i64_w, i32_w]
             rfl
            refine one_ (i := 9) (N := some 36) #[true, true, true, true, true, true, true, true, true, true, false] rfl rfl (one_of HT_.out (by kernel_rfl)) (by decide) (fun K hK => ?_)
            refine Kd.R_append_rows_step (Kd.int .i64) (w0 := w) w.heap.size (by rfl) (.tmp 27) (.tmp 35) 36 3 (.int .i64 0) 8 rfl Try.underlying36 info3 rfl (by decide) (by omega) u6 x6_2 (rd_L1 l0_0 (rd l1 x7_2)) _ _ _ (fun _ => True) (fun _ => False) rfl rfl ?aO ?aR (fun _ _ h => h) (fun _ h => h.elim) ?aF ?aB ?aS ?aL ?_
            (case aR => repeat (first | exact (Kd.C_below HR385_0.out HB.out) | (with_reducible refine Kd.C_alloc ?_ _) | (with_reducible refine Kd.C_drewN ?_ _) | (with_reducible refine Kd.C_drew ?_)))
            (case aB => exact (by repeat (first | (with_reducible first | exact HB.out | apply below_alloc | apply pw_below_drewN | apply below_drew1 | refine below_set ?_ GE378.out) | exact HB.out)))
            (case aF => exact (fun _ _ => trivial))
            (case aO => exact (by (with_reducible repeat (first | apply Kd.R_alloc | apply Kd.R_drewN | apply Kd.R_drew)); exact HO_6.out))
            (case aS => exact (below_size (by repeat (first | (with_reducible first | exact HB.out | apply below_alloc | apply pw_below_drewN | apply below_drew1 | refine below_set ?_ GE378.out) | exact HB.out))))
            (case aL => have := LMc20.out; omega)
            intro v387 w28 ho hb hg hat
            rw [← Ny386.out] at ho
            have n0_ := Aside0.mk (blk_grown (g := gb378) (o := .cells #[.slice (some ad385) l0_0.length c0_0] 28 (0, 0)) (by (with_reducible repeat (first | refine blk_drewN ?_ _ | refine blk_drew ?_ | refine blk_alloc ?_ _)); exact BK378.out) hg (Kd.R_ne HO_6.out BK378.out (by decide)))
            have n1_ := Aside0.mk (hb)
            have n2_ := Aside0.mk (ho)
            clear BK378
            clear HB
            clear HO_6
            have BK378 := n0_
            have HB := n1_
            have HO388 := n2_
            clear n0_ n1_ n2_
            clear ho hb hg hat
            refine hK.out _ _ ⟨(blk_cell BK378.out 0).trans rfl, ((HB.out.cell (World.block_lt_of_cell? w _ hw384_0)).trans hw384_0), ((HB.out.cell (World.block_lt_of_cell? w _ hw385_0)).trans hw385_0)⟩ (fun hHeld => ?_)
            clear hK K
            refine norm_ (a' := ?_) ?_ ?_
            rotate_left
            ·show Act.put _ (some 36) _ = _
             simp only [Act.put, List.setIfInBounds_toArray, List.set_cons_zero, List.set_cons_succ, i64_w, i32_w]
             rfl
            refine pure_ (i := 10) (N := some 6) (v := ?_) (a' := ?_) #[true, true, true, true, true, true, true, true, true, true, true] rfl rfl (any_of HT_.out (by kernel_rfl)) (fun _ _ _ h => h) (Or.inl ⟨by rfl, ?_⟩) ?_ ?_
            rotate_left
            ·intro w'
             go_simp
             with_reducible rfl
            rotate_left
            ·simp only [Act.put, List.setIfInBounds_toArray, List.set_cons_zero, List.set_cons_succ, i64_w, i32_w]
             rfl
            refine done_ (done_of HT_.out (by kernel_rfl)) ?_
            obtain ⟨Ao29, co29, eo29⟩ := Kd.R_slice HO388.out
            subst eo29
            try go_wp2
            go_roundg k2
            case measure => have := HJ2.out; have := HK2.out; omega
            case rel => exact ⟨(y386), (wrap64 (x7_2 + 1)), (by first | rfl | (simp; done) | (simp [*]; done)), H', ⟨by have := HJ2.out; have := HK2.out; omega⟩, ⟨by (with_reducible repeat (first | apply Kd.R_alloc | apply Kd.R_drewN | apply Kd.R_drew)); exact HO388.out⟩, ⟨by (with_reducible repeat (first | refine blk_drewN ?_ _ | refine blk_drew ?_ | refine blk_alloc ?_ _)); exact BK378.out⟩, ⟨by repeat (first | (with_reducible first | exact HB.out | apply below_alloc | apply pw_below_drewN | apply below_drew1 | refine below_set ?_ GE378.out) | exact HB.out)⟩⟩
          ·rw [if_neg c20] at H
           exact absurd H (by simp)
         ·rw [if_neg c19] at H
          exact absurd H (by simp)
        ·rw [if_neg c18] at H
         exact absurd H (by simp)
       ·rw [if_neg c17] at H
        exact absurd H (by simp)
      ·rw [if_neg c16] at H
       have c16b0 : decide (x7_2 < (l1.length : Int)) = false := decide_eq_false c16
       clear c16
       simp only [Option.some.injEq, Prod.mk.injEq] at H
       obtain ⟨rfl, rfl⟩ := H
       go_wp2
       go_ret2
       exact ⟨_, by first | rfl | (simp [errW_none, errW_some] <;> rfl) | (simp [*, errW_none, errW_some] <;> rfl), by (with_reducible repeat (first | apply Kd.R_alloc | apply Kd.R_drewN | apply Kd.R_drew)); exact HO_6.out, by repeat (first | (with_reducible first | exact HB.out | apply below_alloc | apply pw_below_drewN | apply below_drew1 | refine below_set ?_ GE378.out) | exact HB.out)⟩

end Go.Proofs.Ytooamcjgejajeaa.M
/- Walks for this claim, written by a program of mine over the kit's print. No condition of mine. -/
namespace Go.Proofs.Ytooamcjgejajeaa.M
open Go.RowKit Go.Proofs.Ytooamcjgejajeaa.KW Go.Proofs.YtooamcjgejajeaaW.PrintWords Go.Proofs.YtooamcjgejajeaaW.PrintLast Go.Proofs.YtooamcjgejajeaaW.PrintMore
attribute [local go_sem] max2_int min2_int max_two min_two max_three min_three max_four min_four   -- for this text's walks alone
set_option linter.unusedVariables false
set_option linter.unusedSimpArgs false

/-! ### impl_IsWord: function 155 -/
def impl_IsWord.f (k : Nat) (l0 : List Int) (a1 : Int) : Option (Bool) := if a1 ≥ 1 then (if a1 ≤ 16 then (if (l0.length : Int) ≤ 400 then ((impl_areLetters.f k l0 a1).bind fun t441 => (some t441)) else (some false)) else (some false)) else (some false)
theorem impl_IsWord.mono : ∀ a0 a1 k, LeO (impl_IsWord.f k a0 a1) (impl_IsWord.f (k + 1) a0 a1) := by
 intro a0 a1 k
 unfold impl_IsWord.f
 repeat' first
   | (with_reducible exact impl_areLetters.mono _ _ _)
   | (with_reducible exact LeO.refl _)
   | (with_reducible exact LeO.none _)
   | (with_reducible refine LeO.ite ?_ ?_)
   | (with_reducible refine LeO.bind ?_ (fun _ => ?_))
   | exact impl_areLetters.mono _ _ _
   | exact LeO.none _
   | refine LeO.ite ?_ ?_
   | refine LeO.bind ?_ (fun _ => ?_)
set_option maxHeartbeats 8000000 in
set_option maxRecDepth 100000 in
theorem impl_IsWord.calls (k : Nat) (A0 : Option Addr) (c0 : Nat) (l0 : List Int) (a1 : Int) (r : Bool) (w : World) (hr0 : Kd.C (Kd.int .i64) w A0 l0.length l0) (hc0 : l0.length ≤ c0) (h : impl_IsWord.f k l0 a1 = some r) :
  Calls Try.prog 155 #[.slice A0 l0.length c0, .int .i64 a1] w fun e w' => e = .returned (.bool r) ∧ Drawn0 w w' := by
 have HR0 := Aside0.mk hr0
 have HC0 := Aside0.mk hc0
 clear hr0 hc0
 have H : (if a1 ≥ 1 then (if a1 ≤ 16 then (if (l0.length : Int) ≤ 400 then ((impl_areLetters.f k l0 a1).bind fun t441 => (some t441)) else (some false)) else (some false)) else (some false)) = some r := h
 clear h
 by_cases c3 : a1 ≥ 1
 ·rw [if_pos c3] at H
  have c3b0 : decide (1 ≤ a1) = true := decide_eq_true c3
  clear c3
  by_cases c4 : a1 ≤ 16
  ·rw [if_pos c4] at H
   have c4b0 : decide (a1 ≤ 16) = true := decide_eq_true c4
   clear c4
   by_cases c5 : (l0.length : Int) ≤ 400
   ·rw [if_pos c5] at H
    have c5b0 : decide ((l0.length : Int) ≤ 400) = true := decide_eq_true c5
    have c5b1 : decide (l0.length ≤ 400) = true := decide_eq_true (by omega)
    clear c5
    replace H := Option.bind_eq_some_iff.mp H
    obtain ⟨t441, A60, H⟩ := H
    replace H : (some t441) = some r := H
    have A6 := Aside0.mk A60
    clear A60
    obtain rfl := Option.some.inj H
    go_enter Try.func155, Try.ntmps155
    go_wp2_with (first | (go_at_call 159; (with_reducible refine (impl_areLetters.calls k _ _ l0 a1 t441 _ ?side1 ?side2 A6.out).mono ?_); (case side1 => repeat (first | exact HR0.out | (with_reducible refine Kd.C_alloc ?_ _) | (with_reducible refine Kd.C_drewN ?_ _) | (with_reducible refine Kd.C_drew ?_))); (case side2 => exact HC0.out); rintro e w' ⟨rfl, ⟨nd, rfl⟩⟩))
    go_ret
    exact ⟨by first | rfl | (simp; done) | (simp [*]; done), by repeat (first | exact Drawn0.refl _ | apply Drawn0.step)⟩
   ·rw [if_neg c5] at H
    have c5b0 : decide ((l0.length : Int) ≤ 400) = false := decide_eq_false c5
    have c5b1 : decide (l0.length ≤ 400) = false := decide_eq_false (by omega)
    clear c5
    obtain rfl := Option.some.inj H
    go_enter Try.func155, Try.ntmps155
    go_wp2
    go_ret
    exact ⟨by first | rfl | (simp; done) | (simp [*]; done), by repeat (first | exact Drawn0.refl _ | apply Drawn0.step)⟩
  ·rw [if_neg c4] at H
   have c4b0 : decide (a1 ≤ 16) = false := decide_eq_false c4
   clear c4
   obtain rfl := Option.some.inj H
   go_enter Try.func155, Try.ntmps155
   go_wp2
   go_ret
   exact ⟨by first | rfl | (simp; done) | (simp [*]; done), by repeat (first | exact Drawn0.refl _ | apply Drawn0.step)⟩
 ·rw [if_neg c3] at H
  have c3b0 : decide (1 ≤ a1) = false := decide_eq_false c3
  clear c3
  obtain rfl := Option.some.inj H
  go_enter Try.func155, Try.ntmps155
  go_wp2
  go_ret
  exact ⟨by first | rfl | (simp; done) | (simp [*]; done), by repeat (first | exact Drawn0.refl _ | apply Drawn0.step)⟩

end Go.Proofs.Ytooamcjgejajeaa.M
/- Walks for this claim, written by a program of mine over the kit's print. No condition of mine. -/
namespace Go.Proofs.Ytooamcjgejajeaa.M
open Go.RowKit Go.Proofs.Ytooamcjgejajeaa.KW Go.Proofs.YtooamcjgejajeaaW.PrintWords Go.Proofs.YtooamcjgejajeaaW.PrintLast Go.Proofs.YtooamcjgejajeaaW.PrintMore
attribute [local go_sem] max2_int min2_int max_two min_two max_three min_three max_four min_four   -- for this text's walks alone
set_option linter.unusedVariables false
set_option linter.unusedSimpArgs false

/-! ### impl_ApplyMorphism: function 100 -/
mutual
def impl_ApplyMorphism.j0 : Nat → List Int → Bool → List (List Int) → Option (List Int × Bool)
 | 0, _, _, _ => none
 | k + 1, x1, x19, x443000 => if x19 = true then (some ((([] : List Int)), false)) else (impl_ApplyMorphism.l0 k (([] : List Int)) x1 (x1.length : Int) 0 x443000)
def impl_ApplyMorphism.l0 : Nat → List Int → List Int → Int → Int → List (List Int) → Option (List Int × Bool)
 | 0, _, _, _, _, _ => none
 | k + 1, x6, x22, x23, x24, x443000 => if x24 < x23 then (if 0 ≤ x24 then (if x24 < (x22.length : Int) then (if 0 ≤ (rd x22 x24) then (if (rd x22 x24) < (x443000.length : Int) then (if x6.length + (rd_L1 x443000 (rd x22 x24)).length < 17592186044416 then (impl_ApplyMorphism.l0 k (x6 ++ (rd_L1 x443000 (rd x22 x24))) x22 x23 (wrap64 (x24 + 1)) x443000) else (none)) else (none)) else (none)) else (none)) else (none)) else (if (x6.length : Int) > 400 then (some ((([] : List Int)), false)) else (some (x6, true)))
end
def impl_ApplyMorphism.f (k : Nat) (l0_0 : List (List Int)) (l1 : List Int) : Option (List Int × Bool) := (impl_IsMorphism.f k l0_0).bind fun t443 => (if t443 = true then ((impl_IsWord.f k l1 (l0_0.length : Int)).bind fun t444 => (impl_ApplyMorphism.j0 k l1 (!t444) l0_0)) else (impl_ApplyMorphism.j0 k l1 true l0_0))
theorem impl_ApplyMorphism.mono_l : ∀ k, (∀ y0 y1 y2, LeO (impl_ApplyMorphism.j0 k y0 y1 y2) (impl_ApplyMorphism.j0 (k + 1) y0 y1 y2)) ∧ (∀ y0 y1 y2 y3 y4, LeO (impl_ApplyMorphism.l0 k y0 y1 y2 y3 y4) (impl_ApplyMorphism.l0 (k + 1) y0 y1 y2 y3 y4))
 | 0 => ⟨fun _ _ _ r h => by simp [impl_ApplyMorphism.j0] at h, fun _ _ _ _ _ r h => by simp [impl_ApplyMorphism.l0] at h⟩
 | k + 1 => by
  obtain ⟨ih0, ih1⟩ := impl_ApplyMorphism.mono_l k
  refine ⟨?_, ?_⟩
  ·intro y0 y1 y2
   unfold impl_ApplyMorphism.j0
   repeat' first
   | (with_reducible exact ih0 _ _ _)
   | (with_reducible exact ih1 _ _ _ _ _)
   | (with_reducible exact impl_IsMorphism.mono _ _)
   | (with_reducible exact impl_IsWord.mono _ _ _)
   | (with_reducible exact LeO.refl _)
   | (with_reducible exact LeO.none _)
   | (with_reducible refine LeO.ite ?_ ?_)
   | (with_reducible refine LeO.bind ?_ (fun _ => ?_))
   | exact ih0 _ _ _
   | exact ih1 _ _ _ _ _
   | exact impl_IsMorphism.mono _ _
   | exact impl_IsWord.mono _ _ _
   | exact LeO.none _
   | refine LeO.ite ?_ ?_
   | refine LeO.bind ?_ (fun _ => ?_)
  ·intro y0 y1 y2 y3 y4
   unfold impl_ApplyMorphism.l0
   repeat' first
   | (with_reducible exact ih0 _ _ _)
   | (with_reducible exact ih1 _ _ _ _ _)
   | (with_reducible exact impl_IsMorphism.mono _ _)
   | (with_reducible exact impl_IsWord.mono _ _ _)
   | (with_reducible exact LeO.refl _)
   | (with_reducible exact LeO.none _)
   | (with_reducible refine LeO.ite ?_ ?_)
   | (with_reducible refine LeO.bind ?_ (fun _ => ?_))
   | exact ih0 _ _ _
   | exact ih1 _ _ _ _ _
   | exact impl_IsMorphism.mono _ _
   | exact impl_IsWord.mono _ _ _
   | exact LeO.none _
   | refine LeO.ite ?_ ?_
   | refine LeO.bind ?_ (fun _ => ?_)
theorem impl_ApplyMorphism.mono : ∀ a0 a1 k, LeO (impl_ApplyMorphism.f k a0 a1) (impl_ApplyMorphism.f (k + 1) a0 a1) := by
 intro a0 a1 k
 obtain ⟨ih0, ih1⟩ := impl_ApplyMorphism.mono_l k
 unfold impl_ApplyMorphism.f
 repeat' first
   | (with_reducible exact ih0 _ _ _)
   | (with_reducible exact ih1 _ _ _ _ _)
   | (with_reducible exact impl_IsMorphism.mono _ _)
   | (with_reducible exact impl_IsWord.mono _ _ _)
   | (with_reducible exact LeO.refl _)
   | (with_reducible exact LeO.none _)
   | (with_reducible refine LeO.ite ?_ ?_)
   | (with_reducible refine LeO.bind ?_ (fun _ => ?_))
   | exact ih0 _ _ _
   | exact ih1 _ _ _ _ _
   | exact impl_IsMorphism.mono _ _
   | exact impl_IsWord.mono _ _ _
   | exact LeO.none _
   | refine LeO.ite ?_ ?_
   | refine LeO.bind ?_ (fun _ => ?_)
set_option maxHeartbeats 8000000 in
set_option maxRecDepth 100000 in
theorem impl_ApplyMorphism.calls (k : Nat) (A0_0 : Option Addr) (c0_0 : Nat) (l0_0 : List (List Int)) (A1 : Option Addr) (c1 : Nat) (l1 : List Int) (r1 : List Int) (r2 : Bool) (w : World) (hr0_0 : Kd.C (Kd.slice 3 (Kd.int .i64)) w A0_0 l0_0.length l0_0) (hc0_0 : l0_0.length ≤ c0_0) (hr1 : Kd.C (Kd.int .i64) w A1 l1.length l1) (hc1 : l1.length ≤ c1) (h : impl_ApplyMorphism.f k l0_0 l1 = some (r1, r2)) :
  Calls Try.prog 100 #[.agg #[.slice A0_0 l0_0.length c0_0], .slice A1 l1.length c1] w fun e w' => ∃ v0_ : Value, e = .returned (.tuple #[v0_, .bool r2]) ∧ Kd.R (Kd.int .i64) 3 w' w.heap.size (fun _ => True) v0_ r1 ∧ Below w.heap.size w w' := by
 have hu28 := Try.underlying28
 have HR0_0 := Aside0.mk hr0_0
 have HC0_0 := Aside0.mk hc0_0
 clear hr0_0 hc0_0
 have HR1 := Aside0.mk hr1
 have HC1 := Aside0.mk hc1
 clear hr1 hc1
 have HB := Aside0.mk (Below.refl w.heap.size w)
 have H : ((impl_IsMorphism.f k l0_0).bind fun t443 => (if t443 = true then ((impl_IsWord.f k l1 (l0_0.length : Int)).bind fun t444 => (impl_ApplyMorphism.j0 k l1 (!t444) l0_0)) else (impl_ApplyMorphism.j0 k l1 true l0_0))) = some (r1, r2) := h
 clear h
 have HC3 := Aside0.mk H
 clear H
 go_enter Try.func100, Try.ntmps100
 go_upto_region 1 with (first | ((with_reducible refine gate_dst (N := 2) rfl ?_); (try (refine gate_guard (by rfl) ?_; dsimp only)); refine box_event ?hg (N := 2) ?hd (cs := #[.slice A0_0 l0_0.length c0_0]) (t := 28) ?hr ?_; (case hd => rfl); (case hg => rfl); (case hr => first | (go_simp; done) | (go_simp; rfl)); intro gb442 hg w4 hbox hb; have n0_ := Aside0.mk (below_step (by repeat (first | (with_reducible first | exact HB.out | apply below_alloc | apply pw_below_drewN | apply below_drew1) | exact HB.out)) hb); have n1_ := Aside0.mk (hbox); have n2_ := Aside0.mk ((by rw [hg]; exact (below_size (by repeat (first | (with_reducible first | exact HB.out | apply below_alloc | apply pw_below_drewN | apply below_drew1) | exact HB.out))) : w.heap.size ≤ gb442)); have n3_ := Aside0.mk ((by rw [hg]; exact (below_size (by repeat (first | (with_reducible first | exact HB.out | apply below_alloc | apply pw_below_drewN | apply below_drew1) | exact HB.out))) : w.heap.size ≤ gb442)); clear HB; have HB := n0_; have BK442 := n1_; have GW442 := n2_; have GE442 := n3_; clear n0_ n1_ n2_ n3_; clear hb hbox hg))
 (try simp only [Act.put, List.setIfInBounds_toArray, List.set_cons_zero, List.set_cons_succ])
 go_cut [19] (fun v19 wc => ∃ (kq : Nat) (x19_2 : Bool), v19 = .bool x19_2 ∧ Aside0 (impl_ApplyMorphism.j0 kq l1 x19_2 l0_0 = some (r1, r2)) ∧ Aside0 (kq ≤ k) ∧ Aside0 (wc.heap[gb442]? = some (.cells #[(.slice A0_0 l0_0.length c0_0)] 28 (0, 0))) ∧ Aside0 (Below w.heap.size w wc))
 case first =>
  have H := HC3.out
  clear HC3
  replace H := Option.bind_eq_some_iff.mp H
  obtain ⟨t443, A50, H⟩ := H
  replace H : (if t443 = true then ((impl_IsWord.f k l1 (l0_0.length : Int)).bind fun t444 => (impl_ApplyMorphism.j0 k l1 (!t444) l0_0)) else (impl_ApplyMorphism.j0 k l1 true l0_0)) = some (r1, r2) := H
  have A5 := Aside0.mk A50
  clear A50
  by_cases c6 : t443 = true
  ·subst c6
   have H1 : ((impl_IsWord.f k l1 (l0_0.length : Int)).bind fun t444 => (impl_ApplyMorphism.j0 k l1 (!t444) l0_0)) = some (r1, r2) := by rw [if_pos rfl] at H; exact H
   clear H
   have H := H1
   clear H1
   replace H := Option.bind_eq_some_iff.mp H
   obtain ⟨t444, A70, H⟩ := H
   replace H : (impl_ApplyMorphism.j0 k l1 (!t444) l0_0) = some (r1, r2) := H
   have A7 := Aside0.mk A70
   clear A70
   have H' := Aside0.mk H
   clear H
   have hcz8_0 : w4.cell? ⟨gb442, 0, none⟩ = some (.slice A0_0 l0_0.length c0_0) := (blk_cell BK442.out 0).trans rfl
   have hfz8_0 := blk_frozen BK442.out 0
   go_wp2_with (first | ((with_reducible refine gate_callee (f := 108) rfl ?_); refine goesL_ (some 10) rfl rfl Try.func108 (by kernel_rfl) rfl #[.agg #[.slice A0_0 l0_0.length c0_0]] rfl (by (try simp only [List.map_toArray, List.map_cons, List.map_nil]); first | done | rfl | (simp only [List.length_drop, List.length_take]; rfl)) ?_; (with_reducible refine (impl_IsMorphism.calls k _ _ l0_0 true _ ?side1 ?side2 A5.out).mono ?_); (case side1 => repeat (first | exact (Kd.C_below HR0_0.out HB.out) | (with_reducible refine Kd.C_alloc ?_ _) | (with_reducible refine Kd.C_drewN ?_ _) | (with_reducible refine Kd.C_drew ?_))); (case side2 => exact HC0_0.out); rintro e w9 ⟨rfl, hb⟩; refine ⟨_, rfl, ?_⟩; have n0_ := Aside0.mk (blk_below (g := gb442) (o := .cells #[.slice A0_0 l0_0.length c0_0] 28 (0, 0)) (by (with_reducible repeat (first | refine blk_drewN ?_ _ | refine blk_drew ?_ | refine blk_alloc ?_ _)); exact BK442.out) hb); have n1_ := Aside0.mk (below_step (by repeat (first | (with_reducible first | exact HB.out | apply below_alloc | apply pw_below_drewN | apply below_drew1 | refine below_set ?_ GE442.out) | exact HB.out)) hb); clear BK442; clear HB; have BK442 := n0_; have HB := n1_; clear n0_ n1_; (try clear hb); (try clear hb2); (try clear hk); (try clear hi); have hcz10_0 : w9.cell? ⟨gb442, 0, none⟩ = some (.slice A0_0 l0_0.length c0_0) := (blk_cell BK442.out 0).trans rfl; have hfz10_0 := blk_frozen BK442.out 0) | (go_at_call 155; (with_reducible refine (impl_IsWord.calls k _ _ l1 (l0_0.length : Int) t444 _ ?side1 ?side2 A7.out).mono ?_); (case side1 => repeat (first | exact (Kd.C_below HR1.out HB.out) | (with_reducible refine Kd.C_alloc ?_ _) | (with_reducible refine Kd.C_drewN ?_ _) | (with_reducible refine Kd.C_drew ?_))); (case side2 => exact HC1.out); rintro e w' ⟨rfl, ⟨nd, rfl⟩⟩))
   go_meet
   case rel => exact ⟨_, (!t444), (by first | rfl | (simp; done) | (simp [*]; done)), H', ⟨by first | omega | exact Nat.le_refl _⟩, ⟨by (with_reducible repeat (first | refine blk_drewN ?_ _ | refine blk_drew ?_ | refine blk_alloc ?_ _)); exact BK442.out⟩, ⟨by repeat (first | (with_reducible first | exact HB.out | apply below_alloc | apply pw_below_drewN | apply below_drew1 | refine below_set ?_ GE442.out) | exact HB.out)⟩⟩
  ·replace c6 := Bool.eq_false_iff.mpr c6
   subst c6
   have H1 : (impl_ApplyMorphism.j0 k l1 true l0_0) = some (r1, r2) := by rw [if_neg (show ¬ (false = true) by decide)] at H; exact H
   clear H
   have H := H1
   clear H1
   have H' := Aside0.mk H
   clear H
   have hcz11_0 : w4.cell? ⟨gb442, 0, none⟩ = some (.slice A0_0 l0_0.length c0_0) := (blk_cell BK442.out 0).trans rfl
   have hfz11_0 := blk_frozen BK442.out 0
   go_wp2_with (first | ((with_reducible refine gate_callee (f := 108) rfl ?_); refine goesL_ (some 10) rfl rfl Try.func108 (by kernel_rfl) rfl #[.agg #[.slice A0_0 l0_0.length c0_0]] rfl (by (try simp only [List.map_toArray, List.map_cons, List.map_nil]); first | done | rfl | (simp only [List.length_drop, List.length_take]; rfl)) ?_; (with_reducible refine (impl_IsMorphism.calls k _ _ l0_0 false _ ?side1 ?side2 A5.out).mono ?_); (case side1 => repeat (first | exact (Kd.C_below HR0_0.out HB.out) | (with_reducible refine Kd.C_alloc ?_ _) | (with_reducible refine Kd.C_drewN ?_ _) | (with_reducible refine Kd.C_drew ?_))); (case side2 => exact HC0_0.out); rintro e w12 ⟨rfl, hb⟩; refine ⟨_, rfl, ?_⟩; have n0_ := Aside0.mk (blk_below (g := gb442) (o := .cells #[.slice A0_0 l0_0.length c0_0] 28 (0, 0)) (by (with_reducible repeat (first | refine blk_drewN ?_ _ | refine blk_drew ?_ | refine blk_alloc ?_ _)); exact BK442.out) hb); have n1_ := Aside0.mk (below_step (by repeat (first | (with_reducible first | exact HB.out | apply below_alloc | apply pw_below_drewN | apply below_drew1 | refine below_set ?_ GE442.out) | exact HB.out)) hb); clear BK442; clear HB; have BK442 := n0_; have HB := n1_; clear n0_ n1_; (try clear hb); (try clear hb2); (try clear hk); (try clear hi)))
   go_meet
   case rel => exact ⟨_, (true), (by first | rfl | (simp; done) | (simp [*]; done)), H', ⟨by first | omega | exact Nat.le_refl _⟩, ⟨by (with_reducible repeat (first | refine blk_drewN ?_ _ | refine blk_drew ?_ | refine blk_alloc ?_ _)); exact BK442.out⟩, ⟨by repeat (first | (with_reducible first | exact HB.out | apply below_alloc | apply pw_below_drewN | apply below_drew1 | refine below_set ?_ GE442.out) | exact HB.out)⟩⟩
 case rest =>
  clear HC3
  try clear c1
  try clear p2
  try clear c6
  try clear c10
  try clear hcz10_0
  try clear hcz11_0
  try clear hcz8_0
  try clear hfz10_0
  try clear hfz11_0
  try clear hfz8_0
  obtain ⟨kq, x19_2, rfl, HA, HJ2, BK442, HB⟩ := hcut
  cases kq with
  | zero => exact absurd HA.out (by simp [impl_ApplyMorphism.j0])
  | succ kj2 =>
   have H := HA.out
   clear HA
   simp only [impl_ApplyMorphism.j0] at H
   by_cases c13 : x19_2 = true
   ·subst c13
    have H1 : (some ((([] : List Int)), false)) = some (r1, r2) := by rw [if_pos rfl] at H; exact H
    clear H
    have H := H1
    clear H1
    obtain ⟨y445, hy445⟩ : ∃ y_ : List Int, y_ = (([] : List Int)) := ⟨_, rfl⟩
    replace H : (some (y445, false)) = some (r1, r2) := by first | (rw [hy445]; with_reducible exact H) | (have H2_ := (Option.bind_some _ _).symm.trans H; rw [hy445]; with_reducible exact H2_) | (have H2_ := (Option.bind_some _ _).symm.trans H; with_reducible exact H2_) | with_reducible exact H | (rw [hy445]; exact H) | exact H
    have Ny445 := Aside0.mk hy445
    clear hy445
    simp only [Option.some.injEq, Prod.mk.injEq] at H
    obtain ⟨rfl, rfl⟩ := H
    go_wp2_with (first | ((with_reducible refine gate_dst (N := 20) rfl ?_); (try (refine gate_guard (by rfl) ?_; dsimp only)); refine Kd.R_lit (Kd.int .i64) _ 3 ?hg (N := 20) ?hd (xs := ([] : List Int)) (inner := []) (ok := fun _ => True) (okp := fun _ => True) ?hr ?hp (fun _ hk => hk) trivial (Below.refl _ _) (Nat.le_refl _) (by simp) ?_; (case hd => rfl); (case hg => rfl); (case hr => first | (go_simp; done) | (go_simp; rfl)); (case hp => exact (Reps.none _ _)); intro v446 w14 ho15 hb hg_ hnew_; clear hg_ hnew_; (first | rw [← Ny445.out] at ho15 | (simp only [Int.reduceToNat] at ho15; rw [← Ny445.out] at ho15)); have n0_ := Aside0.mk (Kd.R_lower ho15 (below_size (by repeat (first | (with_reducible first | exact HB.out | apply below_alloc | apply pw_below_drewN | apply below_drew1 | refine below_set ?_ GE442.out) | exact HB.out)))); have n1_ := Aside0.mk (blk_below (g := gb442) (o := .cells #[.slice A0_0 l0_0.length c0_0] 28 (0, 0)) (by (with_reducible repeat (first | refine blk_drewN ?_ _ | refine blk_drew ?_ | refine blk_alloc ?_ _)); exact BK442.out) hb); have n2_ := Aside0.mk (below_step (by repeat (first | (with_reducible first | exact HB.out | apply below_alloc | apply pw_below_drewN | apply below_drew1 | refine below_set ?_ GE442.out) | exact HB.out)) hb); clear BK442; clear HB; have HO447 := n0_; have BK442 := n1_; have HB := n2_; clear n0_ n1_ n2_; clear hb ho15))
    go_ret2
    exact ⟨_, by first | rfl | (simp [errW_none, errW_some] <;> rfl) | (simp [*, errW_none, errW_some] <;> rfl), by (with_reducible repeat (first | apply Kd.R_alloc | apply Kd.R_drewN | apply Kd.R_drew)); exact HO447.out, by repeat (first | (with_reducible first | exact HB.out | apply below_alloc | apply pw_below_drewN | apply below_drew1 | refine below_set ?_ GE442.out) | exact HB.out)⟩
   ·replace c13 := Bool.eq_false_iff.mpr c13
    subst c13
    have H1 : (impl_ApplyMorphism.l0 kj2 (([] : List Int)) l1 (l1.length : Int) 0 l0_0) = some (r1, r2) := by rw [if_neg (show ¬ (false = true) by decide)] at H; exact H
    clear H
    have H := H1
    clear H1
    obtain ⟨y448, hy448⟩ : ∃ y_ : List Int, y_ = (([] : List Int)) := ⟨_, rfl⟩
    replace H : (impl_ApplyMorphism.l0 kj2 y448 l1 (l1.length : Int) 0 l0_0) = some (r1, r2) := by first | (rw [hy448]; with_reducible exact H) | (have H2_ := (Option.bind_some _ _).symm.trans H; rw [hy448]; with_reducible exact H2_) | (have H2_ := (Option.bind_some _ _).symm.trans H; with_reducible exact H2_) | with_reducible exact H | (rw [hy448]; exact H) | exact H
    have Ny448 := Aside0.mk hy448
    clear hy448
    have H' := Aside0.mk H
    clear H
    go_wp2_with (first | ((with_reducible refine gate_dst (N := 21) rfl ?_); (try (refine gate_guard (by rfl) ?_; dsimp only)); refine Kd.R_lit (Kd.int .i64) _ 3 ?hg (N := 21) ?hd (xs := ([] : List Int)) (inner := []) (ok := fun _ => True) (okp := fun _ => True) ?hr ?hp (fun _ hk => hk) trivial (Below.refl _ _) (Nat.le_refl _) (by simp) ?_; (case hd => rfl); (case hg => rfl); (case hr => first | (go_simp; done) | (go_simp; rfl)); (case hp => exact (Reps.none _ _)); intro v449 w16 ho17 hb hg_ hnew_; clear hg_ hnew_; (first | rw [← Ny448.out] at ho17 | (simp only [Int.reduceToNat] at ho17; rw [← Ny448.out] at ho17)); have n0_ := Aside0.mk (Kd.R_lower ho17 (below_size (by repeat (first | (with_reducible first | exact HB.out | apply below_alloc | apply pw_below_drewN | apply below_drew1 | refine below_set ?_ GE442.out) | exact HB.out)))); have n1_ := Aside0.mk (blk_below (g := gb442) (o := .cells #[.slice A0_0 l0_0.length c0_0] 28 (0, 0)) (by (with_reducible repeat (first | refine blk_drewN ?_ _ | refine blk_drew ?_ | refine blk_alloc ?_ _)); exact BK442.out) hb); have n2_ := Aside0.mk (below_step (by repeat (first | (with_reducible first | exact HB.out | apply below_alloc | apply pw_below_drewN | apply below_drew1 | refine below_set ?_ GE442.out) | exact HB.out)) hb); clear BK442; clear HB; have HO450 := n0_; have BK442 := n1_; have HB := n2_; clear n0_ n1_ n2_; clear hb ho17))
    go_loopg [6, 24] kj2 (fun kq v6 v24 w' => ∃ (x6_2 : List Int) (x24_2 : Int), v24 = .int .i64 x24_2 ∧ Aside0 (impl_ApplyMorphism.l0 kq x6_2 l1 (l1.length : Int) x24_2 l0_0 = some (r1, r2)) ∧ Aside0 (kq ≤ kj2) ∧ Aside0 (Kd.R (Kd.int .i64) 3 w' w.heap.size (fun _ => True) v6 x6_2) ∧ Aside0 (w'.heap[gb442]? = some (.cells #[(.slice A0_0 l0_0.length c0_0)] 28 (0, 0))) ∧ Aside0 (Below w.heap.size w w'))
    case atStart => exact ⟨(y448), (0), (by first | rfl | (simp; done) | (simp [*]; done)), H', ⟨Nat.le_refl _⟩, ⟨by (with_reducible repeat (first | apply Kd.R_alloc | apply Kd.R_drewN | apply Kd.R_drew)); exact HO450.out⟩, ⟨by (with_reducible repeat (first | refine blk_drewN ?_ _ | refine blk_drew ?_ | refine blk_alloc ?_ _)); exact BK442.out⟩, ⟨by repeat (first | (with_reducible first | exact HB.out | apply below_alloc | apply pw_below_drewN | apply below_drew1 | refine below_set ?_ GE442.out) | exact HB.out)⟩⟩
    case round =>
     clear H'
     try clear c1
     try clear p2
     try clear c6
     try clear c10
     try clear c13
     try clear hcz10_0
     try clear hcz11_0
     try clear hcz8_0
     try clear hfz10_0
     try clear hfz11_0
     try clear hfz8_0
     try clear p2
     obtain ⟨x6_2, x24_2, rfl, HA, HK2, HO_6, BK442, HB⟩ := hrel
     cases gk with
     | zero => exact absurd HA.out (by simp [impl_ApplyMorphism.l0])
     | succ k2 =>
      have H := HA.out
      clear HA
      simp only [impl_ApplyMorphism.l0] at H
      by_cases c18 : x24_2 < (l1.length : Int)
      ·rw [if_pos c18] at H
       have c18b0 : decide (x24_2 < (l1.length : Int)) = true := decide_eq_true c18
       clear c18
       by_cases c19 : 0 ≤ x24_2
       ·rw [if_pos c19] at H
        have c19b0 : decide (0 ≤ x24_2) = true := decide_eq_true c19
        clear c19
        by_cases c20 : x24_2 < (l1.length : Int)
        ·rw [if_pos c20] at H
         have c20b0 : decide (x24_2 < (l1.length : Int)) = true := decide_eq_true c20
         clear c20
         by_cases c21 : 0 ≤ (rd l1 x24_2)
         ·rw [if_pos c21] at H
          have c21b0 : decide (0 ≤ (rd l1 x24_2)) = true := decide_eq_true c21
          clear c21
          by_cases c22 : (rd l1 x24_2) < (l0_0.length : Int)
          ·rw [if_pos c22] at H
           have c22b0 : decide ((rd l1 x24_2) < (l0_0.length : Int)) = true := decide_eq_true c22
           clear c22
           by_cases c23 : x6_2.length + (rd_L1 l0_0 (rd l1 x24_2)).length < 17592186044416
           ·rw [if_pos c23] at H
            have LMc23 := Aside0.mk c23
            clear c23
            obtain ⟨y453, hy453⟩ : ∃ y_ : List Int, y_ = (x6_2 ++ (rd_L1 l0_0 (rd l1 x24_2))) := ⟨_, rfl⟩
            replace H : (impl_ApplyMorphism.l0 k2 y453 l1 (l1.length : Int) (wrap64 (x24_2 + 1)) l0_0) = some (r1, r2) := by first | (rw [hy453]; with_reducible exact H) | (have H2_ := (Option.bind_some _ _).symm.trans H; rw [hy453]; with_reducible exact H2_) | (have H2_ := (Option.bind_some _ _).symm.trans H; with_reducible exact H2_) | with_reducible exact H | (rw [hy453]; exact H) | exact H
            have Ny453 := Aside0.mk hy453
            clear hy453
            have H' := Aside0.mk H
            clear H
            have p451 : 0 ≤ (x24_2 : Int) := of_decide_eq_true (by first | (with_reducible assumption) | assumption)
            have q451 : x24_2 < (l1.length : Int) := of_decide_eq_true (by first | (with_reducible assumption) | assumption)
            obtain ⟨ad451, e451, hx451_0⟩ := Kd.at_int HR1.out x24_2 p451 q451
            cases e451
            replace hx451_0 := (HB.out.cell (World.block_lt_of_cell? w _ hx451_0)).trans hx451_0
            replace p451 := eq_true p451
            replace q451 := eq_true q451
            have hcz24_0 : wr.cell? ⟨gb442, 0, none⟩ = some (.slice A0_0 l0_0.length c0_0) := (blk_cell BK442.out 0).trans rfl
            have hfz24_0 := blk_frozen BK442.out 0
            have p452 : 0 ≤ ((rd l1 x24_2) : Int) := of_decide_eq_true (by first | (with_reducible assumption) | assumption)
            have q452 : (rd l1 x24_2) < (l0_0.length : Int) := of_decide_eq_true (by first | (with_reducible assumption) | assumption)
            obtain ⟨ad452, A452_0, c452_0, e452, hx452_0, hl452_0, hi452_0⟩ := at_L1 HR0_0.out (rd l1 x24_2) p452 q452
            cases e452
            replace hx452_0 := (HB.out.cell (World.block_lt_of_cell? w _ hx452_0)).trans hx452_0
            have HR452_0 := Aside0.mk hi452_0
            have HC452_0 := Aside0.mk hl452_0
            clear hi452_0 hl452_0
            replace p452 := eq_true p452
            replace q452 := eq_true q452
            go_wp2_with (first | ((with_reducible refine gate_builtin (b := .append) (xs := #[.tmp 28, .tmp 33]) rfl ?_); (try (refine gate_guard (by rfl) ?_; dsimp only)); at_builtin; refine Kd.R_append_rows (Kd.int .i64) (w0 := w) w.heap.size rfl (.tmp 28) (.tmp 33) 36 3 (.int .i64 0) 8 rfl Try.underlying36 info3 rfl (by decide) (by omega) u6 x6_2 (rd_L1 l0_0 (rd l1 x24_2)) _ _ _ (fun _ => True) (fun _ => False) rfl rfl ?aO ?aR (fun _ _ h => h) (fun _ h => h.elim) ?aF ?aB ?aS ?aL ?_; (case aR => repeat (first | exact (Kd.C_below HR452_0.out HB.out) | (with_reducible refine Kd.C_alloc ?_ _) | (with_reducible refine Kd.C_drewN ?_ _) | (with_reducible refine Kd.C_drew ?_))); (case aB => exact (by repeat (first | (with_reducible first | exact HB.out | apply below_alloc | apply pw_below_drewN | apply below_drew1 | refine below_set ?_ GE442.out) | exact HB.out))); (case aF => exact (fun _ _ => trivial)); (case aO => exact (by (with_reducible repeat (first | apply Kd.R_alloc | apply Kd.R_drewN | apply Kd.R_drew)); exact HO_6.out)); (case aS => exact (below_size (by repeat (first | (with_reducible first | exact HB.out | apply below_alloc | apply pw_below_drewN | apply below_drew1 | refine below_set ?_ GE442.out) | exact HB.out)))); (case aL => have := LMc23.out; omega); intro v454 w25 ho hb hg hat; rw [← Ny453.out] at ho; have n0_ := Aside0.mk (blk_grown (g := gb442) (o := .cells #[.slice (some ad452) l0_0.length c0_0] 28 (0, 0)) (by (with_reducible repeat (first | refine blk_drewN ?_ _ | refine blk_drew ?_ | refine blk_alloc ?_ _)); exact BK442.out) hg (Kd.R_ne HO_6.out BK442.out (by decide))); have n1_ := Aside0.mk (hb); have n2_ := Aside0.mk (ho); clear BK442; clear HB; clear HO_6; have BK442 := n0_; have HB := n1_; have HO455 := n2_; clear n0_ n1_ n2_; clear ho hb hg hat))
            go_roundg k2
            case measure => have := HJ2.out; have := HK2.out; omega
            case rel => exact ⟨(y453), (wrap64 (x24_2 + 1)), (by first | rfl | (simp; done) | (simp [*]; done)), H', ⟨by have := HJ2.out; have := HK2.out; omega⟩, ⟨by (with_reducible repeat (first | apply Kd.R_alloc | apply Kd.R_drewN | apply Kd.R_drew)); exact HO455.out⟩, ⟨by (with_reducible repeat (first | refine blk_drewN ?_ _ | refine blk_drew ?_ | refine blk_alloc ?_ _)); exact BK442.out⟩, ⟨by repeat (first | (with_reducible first | exact HB.out | apply below_alloc | apply pw_below_drewN | apply below_drew1 | refine below_set ?_ GE442.out) | exact HB.out)⟩⟩
           ·rw [if_neg c23] at H
            exact absurd H (by simp)
          ·rw [if_neg c22] at H
           exact absurd H (by simp)
         ·rw [if_neg c21] at H
          exact absurd H (by simp)
        ·rw [if_neg c20] at H
         exact absurd H (by simp)
       ·rw [if_neg c19] at H
        exact absurd H (by simp)
      ·rw [if_neg c18] at H
       have c18b0 : decide (x24_2 < (l1.length : Int)) = false := decide_eq_false c18
       clear c18
       by_cases c26 : (x6_2.length : Int) > 400
       ·rw [if_pos c26] at H
        have c26b0 : decide (400 < (x6_2.length : Int)) = true := decide_eq_true c26
        have c26b1 : decide (400 < x6_2.length) = true := decide_eq_true (by omega)
        clear c26
        obtain ⟨y456, hy456⟩ : ∃ y_ : List Int, y_ = (([] : List Int)) := ⟨_, rfl⟩
        replace H : (some (y456, false)) = some (r1, r2) := by first | (rw [hy456]; with_reducible exact H) | (have H2_ := (Option.bind_some _ _).symm.trans H; rw [hy456]; with_reducible exact H2_) | (have H2_ := (Option.bind_some _ _).symm.trans H; with_reducible exact H2_) | with_reducible exact H | (rw [hy456]; exact H) | exact H
        have Ny456 := Aside0.mk hy456
        clear hy456
        simp only [Option.some.injEq, Prod.mk.injEq] at H
        obtain ⟨rfl, rfl⟩ := H
        obtain ⟨Ao27, co27, eo27⟩ := Kd.R_slice HO_6.out
        subst eo27
        go_wp2_with (first | ((with_reducible refine gate_dst (N := 39) rfl ?_); (try (refine gate_guard (by rfl) ?_; dsimp only)); refine Kd.R_lit (Kd.int .i64) _ 3 ?hg (N := 39) ?hd (xs := ([] : List Int)) (inner := []) (ok := fun _ => True) (okp := fun _ => True) ?hr ?hp (fun _ hk => hk) trivial (Below.refl _ _) (Nat.le_refl _) (by simp) ?_; (case hd => rfl); (case hg => rfl); (case hr => first | (go_simp; done) | (go_simp; rfl)); (case hp => exact (Reps.none _ _)); intro v457 w28 ho29 hb hg_ hnew_; clear hg_ hnew_; (first | rw [← Ny456.out] at ho29 | (simp only [Int.reduceToNat] at ho29; rw [← Ny456.out] at ho29)); have n0_ := Aside0.mk (Kd.R_elder' (by (with_reducible repeat (first | apply Kd.R_alloc | apply Kd.R_drewN | apply Kd.R_drew)); exact HO_6.out) (Kd.R_base ho29) hb); have n1_ := Aside0.mk (Kd.R_lower (Kd.R_new' ho29 (Kd.R_lt (by (with_reducible repeat (first | apply Kd.R_alloc | apply Kd.R_drewN | apply Kd.R_drew)); exact HO_6.out))) (below_size (by repeat (first | (with_reducible first | exact HB.out | apply below_alloc | apply pw_below_drewN | apply below_drew1 | refine below_set ?_ GE442.out) | exact HB.out)))); have n2_ := Aside0.mk (blk_below (g := gb442) (o := .cells #[.slice A0_0 l0_0.length c0_0] 28 (0, 0)) (by (with_reducible repeat (first | refine blk_drewN ?_ _ | refine blk_drew ?_ | refine blk_alloc ?_ _)); exact BK442.out) hb); have n3_ := Aside0.mk (below_step (by repeat (first | (with_reducible first | exact HB.out | apply below_alloc | apply pw_below_drewN | apply below_drew1 | refine below_set ?_ GE442.out) | exact HB.out)) hb); clear HO_6; clear BK442; clear HB; have HO_6 := n0_; have HO458 := n1_; have BK442 := n2_; have HB := n3_; clear n0_ n1_ n2_ n3_; clear hb ho29))
        go_ret2
        exact ⟨_, by first | rfl | (simp [errW_none, errW_some] <;> rfl) | (simp [*, errW_none, errW_some] <;> rfl), by (with_reducible repeat (first | apply Kd.R_alloc | apply Kd.R_drewN | apply Kd.R_drew)); exact Kd.R_mono HO458.out (fun _ hk => trivial), by repeat (first | (with_reducible first | exact HB.out | apply below_alloc | apply pw_below_drewN | apply below_drew1 | refine below_set ?_ GE442.out) | exact HB.out)⟩
       ·rw [if_neg c26] at H
        have c26b0 : decide (400 < (x6_2.length : Int)) = false := decide_eq_false c26
        have c26b1 : decide (400 < x6_2.length) = false := decide_eq_false (by omega)
        clear c26
        simp only [Option.some.injEq, Prod.mk.injEq] at H
        obtain ⟨rfl, rfl⟩ := H
        obtain ⟨Ao30, co30, eo30⟩ := Kd.R_slice HO_6.out
        subst eo30
        go_wp2
        go_ret2
        exact ⟨_, by first | rfl | (simp [errW_none, errW_some] <;> rfl) | (simp [*, errW_none, errW_some] <;> rfl), by (with_reducible repeat (first | apply Kd.R_alloc | apply Kd.R_drewN | apply Kd.R_drew)); exact HO_6.out, by repeat (first | (with_reducible first | exact HB.out | apply below_alloc | apply pw_below_drewN | apply below_drew1 | refine below_set ?_ GE442.out) | exact HB.out)⟩

end Go.Proofs.Ytooamcjgejajeaa.M
/- Morphisms and words: program and reference tell the same and make the same images. No condition but lengths that fit. -/
namespace Go.Proofs.Ytooamcjgejajeaa.M
open Go.RowKit Go.Proofs.YtooamcjgejajeaaW.PrintWords Go.Proofs.Ytooamcjgejajeaa.K
set_option linter.unusedVariables false

def isL (w : List Int) (n : Nat) : Bool := w.all fun x => decide (0 ≤ x ∧ x < (n : Int))
theorem isL_cons (x : Int) (w : List Int) (n : Nat) : isL (x :: w) n = (decide (0 ≤ x ∧ x < (n : Int)) && isL w n) := by simp [isL]
def iw (w : List Int) (n : Nat) : Bool := isL w n && (decide (1 ≤ n ∧ n ≤ 16) && decide (w.length ≤ 400))
def mo (ms : List (List Int)) : Bool := decide (1 ≤ ms.length ∧ ms.length ≤ 16) && ms.all fun im => decide (im.length ≤ 8) && isL im ms.length

theorem specIsWord_ev (w : List Int) (n : Nat) (hw : w.length ≤ 1048576) : Ev (fun k => spec_IsWord.f k w (n : Int)) (iw w n) := by
  have key : ∀ i, i ≤ w.length → Ev (fun k => spec_IsWord.l0 k w (n : Int) (i : Int)) (isL (w.drop i) n && (decide (1 ≤ n ∧ n ≤ 16) && decide (w.length ≤ 400))) := by
    refine down w.length ?_ ?_
    · refine Ev.step (fun k => by simp only [spec_IsWord.l0]; rw [_root_.if_neg (by omega)]) ?_
      refine Ev.bind (Ev.val (l1In_val _ _ _)) ?_
      rw [List.drop_length]
      by_cases q : 1 ≤ n ∧ n ≤ 16
      · rw [decide_eq_true (show 1 ≤ (n : Int) ∧ (n : Int) ≤ 16 by omega)]
        refine Ev.if_pos rfl (Ev.same (Ev.some _) ?_)
        rw [decide_eq_true q]; simp [isL]; omega
      · rw [decide_eq_false (show ¬ (1 ≤ (n : Int) ∧ (n : Int) ≤ 16) by omega)]
        refine Ev.if_neg (by simp) (Ev.same (Ev.some _) ?_)
        rw [decide_eq_false q]; simp
    · intro i hi ih
      rw [drop_eq w i hi, isL_cons]
      refine Ev.step (fun k => by simp only [spec_IsWord.l0]; rw [_root_.if_pos (by omega), _root_.if_pos (by omega), wsucc (by omega), rd_get w i hi]) ?_
      refine Ev.ite (fun q => ?_) (fun q => ?_)
      · rw [decide_eq_false (by omega)]; exact Ev.some _
      · refine Ev.ite (fun q2 => ?_) (fun q2 => ?_)
        · rw [decide_eq_false (by omega)]; exact Ev.some _
        · rw [decide_eq_true (by omega), Bool.true_and]; exact ih
  exact key 0 (by omega)
theorem areLetters_ev (w : List Int) (n : Nat) (hw : w.length ≤ 1048576) : Ev (fun k => impl_areLetters.f k w (n : Int)) (isL w n) := by
  have key : ∀ i, i ≤ w.length → Ev (fun k => impl_areLetters.l0 k (n : Int) w (w.length : Int) (i : Int)) (isL (w.drop i) n) := by
    refine down w.length ?_ ?_
    · refine Ev.step (fun k => by simp only [impl_areLetters.l0]; rw [_root_.if_neg (by omega)]) ?_
      rw [List.drop_length]; exact Ev.some _
    · intro i hi ih
      rw [drop_eq w i hi, isL_cons]
      refine Ev.step (fun k => by simp only [impl_areLetters.l0]; rw [_root_.if_pos (by omega), _root_.if_pos (by omega), _root_.if_pos (by omega), wsucc (by omega), rd_get w i hi]) ?_
      refine Ev.ite (fun q => ?_) (fun q => ?_)
      · rw [decide_eq_false (by omega)]; exact Ev.some _
      · refine Ev.ite (fun q2 => ?_) (fun q2 => ?_)
        · rw [decide_eq_false (by omega)]; exact Ev.some _
        · rw [decide_eq_true (by omega), Bool.true_and]; exact ih
  unfold impl_areLetters.f
  exact key 0 (by omega)
theorem implIsWord_ev (w : List Int) (n : Nat) (hw : w.length ≤ 1048576) : Ev (fun k => impl_IsWord.f k w (n : Int)) (iw w n) := by
  unfold impl_IsWord.f iw
  refine Ev.ite (fun q => ?_) (fun q => ?_)
  · refine Ev.ite (fun q2 => ?_) (fun q2 => ?_)
    · refine Ev.ite (fun q3 => ?_) (fun q3 => ?_)
      · refine Ev.bind (areLetters_ev w n hw) (Ev.same (Ev.some _) ?_)
        rw [decide_eq_true (show 1 ≤ n ∧ n ≤ 16 by omega), decide_eq_true (show w.length ≤ 400 by omega)]; simp
      · refine Ev.same (Ev.some _) ?_
        rw [decide_eq_false (show ¬ w.length ≤ 400 by omega)]; simp
    · refine Ev.same (Ev.some _) ?_
      rw [decide_eq_false (show ¬ (1 ≤ n ∧ n ≤ 16) by omega)]; simp
  · refine Ev.same (Ev.some _) ?_
    rw [decide_eq_false (show ¬ (1 ≤ n ∧ n ≤ 16) by omega)]; simp

theorem implIsMorphism_ev (ms : List (List Int)) (h : ms.length ≤ 1048576) (ht : total ms ≤ 1048576) : Ev (fun k => impl_IsMorphism.f k ms) (mo ms) := by
  have key : ∀ i, i ≤ ms.length → Ev (fun k => impl_IsMorphism.l0 k (ms.length : Int) ms (ms.length : Int) (i : Int)) ((ms.drop i).all fun im => decide (im.length ≤ 8) && isL im ms.length) := by
    refine down ms.length ?_ ?_
    · refine Ev.step (fun k => by simp only [impl_IsMorphism.l0]; rw [_root_.if_neg (by omega)]) ?_
      rw [List.drop_length]; exact Ev.some _
    · intro i hi ih
      rw [drop_eq ms i hi, List.all_cons]
      refine Ev.step (fun k => by simp only [impl_IsMorphism.l0]; rw [_root_.if_pos (by omega), _root_.if_pos (by omega), _root_.if_pos (by omega), wsucc (by omega), rdLL ms i hi]) ?_
      refine Ev.ite (fun q => ?_) (fun q => ?_)
      · rw [decide_eq_false (by omega), Bool.false_and, Bool.false_and]; exact Ev.some _
      · rw [decide_eq_true (by omega), Bool.true_and]
        refine Ev.bind (areLetters_ev _ _ (by have := total_at ms i hi; omega)) ?_
        refine Ev.ite (fun q2 => ?_) (fun q2 => ?_)
        · rw [q2, Bool.true_and]; exact ih
        · rw [Bool.eq_false_iff.2 q2, Bool.false_and]; exact Ev.some _
  have big : ∀ b : Bool, b = !decide (1 ≤ ms.length ∧ ms.length ≤ 16) → Ev (fun k => impl_IsMorphism.j0 k (ms.length : Int) b ms) (mo ms) := by
    intro b hb
    subst hb
    unfold mo
    by_cases q : 1 ≤ ms.length ∧ ms.length ≤ 16
    · rw [decide_eq_true q]
      refine Ev.step (fun k => by simp only [impl_IsMorphism.j0]; rw [_root_.if_neg (by simp)]) ?_
      rw [Bool.true_and]
      exact key 0 (by omega)
    · rw [decide_eq_false q]
      refine Ev.step (fun k => by simp only [impl_IsMorphism.j0]; rw [_root_.if_pos (by simp)]) ?_
      exact Ev.some _
  unfold impl_IsMorphism.f
  refine Ev.ite (fun q => ?_) (fun q => ?_)
  · exact big true (by rw [decide_eq_false (by omega)]; rfl)
  · refine big _ ?_
    by_cases q2 : (ms.length : Int) > 16
    · rw [decide_eq_true q2, decide_eq_false (by omega)]; rfl
    · rw [decide_eq_false q2, decide_eq_true (by omega)]; rfl

theorem specIsMorphism_ev (ms : List (List Int)) (h : ms.length ≤ 1048576) (ht : total ms ≤ 1048576) : Ev (fun k => spec_IsMorphism.f k ms) (mo ms) := by
  have key : ∀ i, i ≤ ms.length → Ev (fun k => spec_IsMorphism.l0 k (i : Int) ms) (decide (1 ≤ ms.length ∧ ms.length ≤ 16) && (ms.drop i).all fun im => decide (im.length ≤ 8) && isL im ms.length) := by
    refine down ms.length ?_ ?_
    · refine Ev.step (fun k => by simp only [spec_IsMorphism.l0]; rw [_root_.if_neg (by omega)]) ?_
      refine Ev.bind (Ev.val (l1In_val _ _ _)) (Ev.same (Ev.some _) ?_)
      rw [List.drop_length]; rw [List.all_nil, Bool.and_true, decide_eq_decide]; omega
    · intro i hi ih
      rw [drop_eq ms i hi, List.all_cons]
      refine Ev.step (fun k => by simp only [spec_IsMorphism.l0]; rw [_root_.if_pos (by omega), _root_.if_pos (by omega), wsucc (by omega), rdLL ms i hi]) ?_
      refine Ev.bind (specIsWord_ev _ _ (by have := total_at ms i hi; omega)) ?_
      unfold iw
      by_cases q0 : 1 ≤ ms.length ∧ ms.length ≤ 16
      · rw [decide_eq_true q0] at ih ⊢
        rw [Bool.true_and] at ih ⊢
        rw [Bool.true_and]
        by_cases q1 : isL ms[i] ms.length = true
        · rw [q1, Bool.true_and, Bool.and_true]
          by_cases q2 : ms[i].length ≤ 400
          · rw [decide_eq_true q2]
            refine Ev.if_pos rfl (Ev.ite (fun q => ?_) (fun q => ?_))
            · rw [decide_eq_false (show ¬ ms[i].length ≤ 8 by omega), Bool.false_and]; exact Ev.some _
            · rw [decide_eq_true (show ms[i].length ≤ 8 by omega), Bool.true_and]; exact ih
          · rw [decide_eq_false q2, decide_eq_false (show ¬ ms[i].length ≤ 8 by omega), Bool.false_and]
            exact Ev.if_neg (by simp) (Ev.some _)
        · rw [Bool.eq_false_iff.2 q1, Bool.false_and, Bool.and_false, Bool.false_and]
          exact Ev.if_neg (by simp) (Ev.some _)
      · rw [decide_eq_false q0, Bool.false_and, Bool.false_and, Bool.and_false]
        exact Ev.if_neg (by simp) (Ev.some _)
  exact key 0 (by omega)

def img (ms : List (List Int)) (w : List Int) : List Int := w.flatMap fun x => rd_L1 ms x
noncomputable def am (ms : List (List Int)) (w : List Int) : List Int × Bool := if mo ms = true ∧ iw w ms.length = true then (if (img ms w).length > 400 then ([], false) else (img ms w, true)) else ([], false)
theorem am_len (ms : List (List Int)) (w : List Int) : (am ms w).1.length ≤ 400 := by
  unfold am; split <;> (try split) <;> simp; omega
theorem img_take (ms : List (List Int)) (w : List Int) (i : Nat) (h : i < w.length) : img ms (w.take (i + 1)) = img ms (w.take i) ++ rd_L1 ms w[i] := by
  unfold img; rw [take_succ w i h, List.flatMap_append]; simp
theorem img_le (ms : List (List Int)) (w : List Int) (i : Nat) : (img ms (w.take i)).length ≤ (img ms w).length := by
  have : img ms w = img ms (w.take i) ++ img ms (w.drop i) := by unfold img; rw [← List.flatMap_append, List.take_append_drop]
  rw [this, List.length_append]; omega
theorem mo_at {ms : List (List Int)} (h : mo ms = true) (i : Nat) (hi : i < ms.length) : ms[i].length ≤ 8 := by
  unfold mo at h
  rw [Bool.and_eq_true, List.all_eq_true] at h
  have := h.2 _ (List.getElem_mem hi)
  rw [Bool.and_eq_true] at this
  exact of_decide_eq_true this.1
theorem iw_at {w : List Int} {n : Nat} (h : iw w n = true) (i : Nat) (hi : i < w.length) : 0 ≤ w[i] ∧ w[i] < (n : Int) := by
  unfold iw isL at h
  rw [Bool.and_eq_true, List.all_eq_true] at h
  exact of_decide_eq_true (h.1 _ (List.getElem_mem hi))
theorem iw_len {w : List Int} {n : Nat} (h : iw w n = true) : w.length ≤ 400 := by
  unfold iw at h
  rw [Bool.and_eq_true, Bool.and_eq_true] at h
  exact of_decide_eq_true h.2.2
theorem rd_image {ms : List (List Int)} (h : mo ms = true) (x : Int) (h0 : 0 ≤ x) (h1 : x < (ms.length : Int)) : (rd_L1 ms x).length ≤ 8 := by
  obtain ⟨n, rfl⟩ : ∃ n : Nat, x = (n : Int) := ⟨x.toNat, by omega⟩
  rw [rdLL ms n (by omega)]
  exact mo_at h n (by omega)
theorem img_small {ms : List (List Int)} {w : List Int} (h : mo ms = true) (hw : iw w ms.length = true) : ∀ i, i ≤ w.length → (img ms (w.take i)).length ≤ 8 * i := by
  intro i
  induction i with
  | zero => intro _; simp [img]
  | succ i ih =>
    intro hi
    have h1 := iw_at hw i (by omega)
    have h2 := rd_image h w[i] h1.1 h1.2
    have h3 := ih (by omega)
    rw [img_take ms w i (by omega), List.length_append]; omega

theorem specApply_ev (ms : List (List Int)) (w : List Int) (h : ms.length ≤ 1048576) (ht : total ms ≤ 1048576) (hw : w.length ≤ 1048576) : Ev (fun k => spec_ApplyMorphism.f k ms w) (am ms w) := by
  have key : mo ms = true → iw w ms.length = true → ∀ i, i ≤ w.length → (img ms (w.take i)).length ≤ 400 → Ev (fun k => spec_ApplyMorphism.l0 k w (img ms (w.take i)) (i : Int) ms) (am ms w) := by
    intro hm hi0
    have e : am ms w = (if (img ms w).length > 400 then ([], false) else (img ms w, true)) := by unfold am; rw [_root_.if_pos ⟨hm, hi0⟩]
    rw [e]
    refine down w.length ?_ ?_
    · intro h1
      refine Ev.step (fun k => by simp only [spec_ApplyMorphism.l0]; rw [_root_.if_neg (by omega)]) ?_
      rw [List.take_length] at h1 ⊢
      rw [_root_.if_neg (by omega)]; exact Ev.some _
    · intro i hi ih h1
      have h2 := iw_at hi0 i hi
      have h3 := rd_image hm w[i] h2.1 h2.2
      refine Ev.step (fun k => by simp only [spec_ApplyMorphism.l0]; rw [_root_.if_pos (by omega), _root_.if_pos (by omega), wsucc (by omega), rd_get w i hi, _root_.if_pos h2.1, _root_.if_pos h2.2, _root_.if_pos (by omega), ← img_take ms w i hi]) ?_
      refine Ev.bind (Ev.some _) ?_
      refine Ev.ite (fun q => ?_) (fun q => ?_)
      · have := img_le ms w (i + 1)
        rw [_root_.if_pos (by omega)]; exact Ev.some _
      · exact ih (by omega)
  unfold spec_ApplyMorphism.f
  refine Ev.bind (Ev.some _) ?_
  refine Ev.bind (specIsMorphism_ev ms h ht) ?_
  by_cases q : mo ms = true
  · refine Ev.if_pos q (Ev.bind (specIsWord_ev _ _ hw) ?_)
    by_cases q2 : iw w ms.length = true
    · rw [q2]
      refine Ev.step (fun k => by simp only [spec_ApplyMorphism.j0]; rw [_root_.if_neg (by simp)]) ?_
      exact key q q2 0 (by omega) (by simp [img])
    · rw [Bool.eq_false_iff.2 q2]
      refine Ev.step (fun k => by simp only [spec_ApplyMorphism.j0]; rw [_root_.if_pos (by simp)]) ?_
      unfold am; rw [_root_.if_neg (fun h => q2 h.2)]; exact Ev.some _
  · refine Ev.if_neg q ?_
    refine Ev.step (fun k => by simp only [spec_ApplyMorphism.j0]; rw [_root_.if_pos trivial]) ?_
    unfold am; rw [_root_.if_neg (fun h => q h.1)]; exact Ev.some _

theorem implApply_ev (ms : List (List Int)) (w : List Int) (h : ms.length ≤ 1048576) (ht : total ms ≤ 1048576) (hw : w.length ≤ 1048576) : Ev (fun k => impl_ApplyMorphism.f k ms w) (am ms w) := by
  have key : mo ms = true → iw w ms.length = true → ∀ i, i ≤ w.length → Ev (fun k => impl_ApplyMorphism.l0 k (img ms (w.take i)) w (w.length : Int) (i : Int) ms) (am ms w) := by
    intro hm hi0
    have e : am ms w = (if (img ms w).length > 400 then ([], false) else (img ms w, true)) := by unfold am; rw [_root_.if_pos ⟨hm, hi0⟩]
    rw [e]
    refine down w.length ?_ ?_
    · refine Ev.step (fun k => by simp only [impl_ApplyMorphism.l0]; rw [_root_.if_neg (by omega)]) ?_
      rw [List.take_length]
      refine Ev.ite (fun q => ?_) (fun q => ?_)
      · rw [_root_.if_pos (by omega)]; exact Ev.some _
      · rw [_root_.if_neg (by omega)]; exact Ev.some _
    · intro i hi ih
      have h2 := iw_at hi0 i hi
      have h3 := rd_image hm w[i] h2.1 h2.2
      have h4 := img_small hm hi0 i (by omega)
      have h5 := iw_len hi0
      exact Ev.step (fun k => by simp only [impl_ApplyMorphism.l0]; rw [_root_.if_pos (by omega), _root_.if_pos (by omega), _root_.if_pos (by omega), wsucc (by omega), rd_get w i hi, _root_.if_pos h2.1, _root_.if_pos h2.2, _root_.if_pos (by omega), ← img_take ms w i hi]) ih
  unfold impl_ApplyMorphism.f
  refine Ev.bind (implIsMorphism_ev ms h ht) ?_
  by_cases q : mo ms = true
  · refine Ev.if_pos q (Ev.bind (implIsWord_ev _ _ hw) ?_)
    by_cases q2 : iw w ms.length = true
    · rw [q2]
      refine Ev.step (fun k => by simp only [impl_ApplyMorphism.j0]; rw [_root_.if_neg (by simp)]) ?_
      exact key q q2 0 (by omega)
    · rw [Bool.eq_false_iff.2 q2]
      refine Ev.step (fun k => by simp only [impl_ApplyMorphism.j0]; rw [_root_.if_pos (by simp)]) ?_
      unfold am; rw [_root_.if_neg (fun h => q2 h.2)]; exact Ev.some _
  · refine Ev.if_neg q ?_
    refine Ev.step (fun k => by simp only [impl_ApplyMorphism.j0]; rw [_root_.if_pos trivial]) ?_
    unfold am; rw [_root_.if_neg (fun h => q h.1)]; exact Ev.some _

theorem szMorphism_ev (l : List (List Int)) (h : l.length ≤ maxLen) (hx : ∀ x ∈ l, x.length ≤ maxLen) :
    Ev (fun k => laws_szMorphism.f k l 1048576) (if (1048576 : Int) < l.length + total l then -1 else 1048576 - l.length - total l) := by
  unfold laws_szMorphism.f
  refine Ev.bind (szIntSS_ev l 1048576 (by omega) (by omega) h hx) ?_
  by_cases q : (1048576 : Int) < l.length + total l
  · rw [_root_.if_pos q]; exact Ev.if_pos (by omega) (Ev.some _)
  · rw [_root_.if_neg q]; exact Ev.if_neg (by omega) (Ev.some _)
theorem toMorphism_ev (l : List (List Int)) (h : l.length ≤ 1048576) (ht : total l ≤ 1048576) : Ev (fun k => laws_toMorphism.f k l) l := by
  unfold laws_toMorphism.f
  exact Ev.bind (toIntSS_ev l h ht) (Ev.some _)
theorem eqMorphism_ev (l : List (List Int)) (h : l.length ≤ 1048576) (ht : total l ≤ 1048576) : Ev (fun k => laws_eqMorphism.f k l l) true := by
  unfold laws_eqMorphism.f
  refine Ev.bind (eqIntSS_ev l l (by omega) (fun x hx => by have := total_mem l x hx; omega)) ?_
  exact Ev.if_pos (by simp) (Ev.some _)
end Go.Proofs.Ytooamcjgejajeaa.M
/- The incidence of a morphism: program and reference count the same. No condition but lengths that fit. -/
namespace Go.Proofs.Ytooamcjgejajeaa.M
open Go.RowKit Go.Proofs.YtooamcjgejajeaaW.PrintWords Go.Proofs.Ytooamcjgejajeaa.K
set_option linter.unusedVariables false
def cnt (w : List Int) (b : Int) : Nat := w.countP fun x => decide (x = b)
theorem cnt_take (w : List Int) (b : Int) (i : Nat) (h : i < w.length) : cnt (w.take (i + 1)) b = cnt (w.take i) b + (if w[i] = b then 1 else 0) := by
  unfold cnt; rw [take_succ w i h, List.countP_append]
  simp [List.countP_cons]
theorem cnt_le (w : List Int) (b : Int) : cnt w b ≤ w.length := List.countP_le_length
def incRow (w : List Int) (n : Nat) : List Int := row n fun b => (cnt w (b : Int) : Int)
def inc (ms : List (List Int)) : List (List Int) := if mo ms = true then ms.map fun w => incRow w ms.length else []
theorem specCount_ev (w : List Int) (b : Int) (hw : w.length ≤ 1048576) : Ev (fun k => spec_CountLetters.f k w b) (cnt w b : Int) := by
  have key : ∀ i, i ≤ w.length → Ev (fun k => spec_CountLetters.l0 k w b (cnt (w.take i) b : Int) (i : Int)) (cnt w b : Int) := by
    refine down w.length ?_ ?_
    · refine Ev.step (fun k => by simp only [spec_CountLetters.l0]; rw [_root_.if_neg (by omega)]) ?_
      rw [List.take_length]; exact Ev.some _
    · intro i hi ih
      have h1 := cnt_le (w.take i) b
      rw [List.length_take] at h1
      rw [cnt_take w b i hi] at ih
      refine Ev.step (fun k => by simp only [spec_CountLetters.l0]; rw [_root_.if_pos (by omega), _root_.if_pos (by omega), wsucc (i := i) (by omega), rd_get w i hi]) ?_
      refine Ev.ite (fun q => ?_) (fun q => ?_)
      · rw [_root_.if_pos q] at ih
        refine Ev.congr (fun k => by rw [wsucc (by omega)]) ih
      · rw [_root_.if_neg q] at ih; exact ih
  unfold spec_CountLetters.f
  exact key 0 (by omega)

theorem specInc_ev (ms : List (List Int)) (h : ms.length ≤ 1048576) (ht : total ms ≤ 1048576) : Ev (fun k => spec_IncidenceOf.f k ms) (inc ms, mo ms) := by
  have hmo := specIsMorphism_ev ms h ht
  unfold spec_IncidenceOf.f
  by_cases q : mo ms = true
  · unfold inc
    rw [_root_.if_pos q]
    rw [q] at hmo ⊢
    have l1 : ∀ i, i < ms.length → Ev (fun k => spec_IncidenceOf.l0 k ((ms.take (i + 1)).map fun w => incRow w ms.length) ((i + 1 : Nat) : Int) ms) (ms.map (fun w => incRow w ms.length), true) →
        ∀ b, b ≤ ms.length → Ev (fun k => spec_IncidenceOf.l1 k ((ms.take i).map fun w => incRow w ms.length) (i : Int) (row b fun b => (cnt (rd_L1 ms (i : Int)) (b : Int) : Int)) (b : Int) ms) (ms.map (fun w => incRow w ms.length), true) := by
      intro i hi ih0
      refine down ms.length ?_ ?_
      · refine Ev.step (fun k => by simp only [spec_IncidenceOf.l1]; rw [_root_.if_neg (by omega), _root_.if_pos (by rw [List.length_map, List.length_take]; omega), wsucc (by omega)]) ?_
        rw [take_succ ms i hi, List.map_append, List.map_cons, List.map_nil] at ih0
        rw [rdLL ms i hi]; exact ih0
      · intro b hb ih
        refine Ev.step (fun k => by simp only [spec_IncidenceOf.l1]; rw [_root_.if_pos (by omega), _root_.if_pos (by omega), _root_.if_pos (by omega), wsucc (by omega), rdLL ms i hi]) ?_
        refine Ev.bind (specCount_ev _ _ (by have := total_at ms i hi; omega)) ?_
        refine Ev.if_pos (by rw [row_length]; omega) ?_
        rw [row_succ, rdLL ms i hi] at ih; exact ih
    have key : ∀ i, i ≤ ms.length → Ev (fun k => spec_IncidenceOf.l0 k ((ms.take i).map fun w => incRow w ms.length) (i : Int) ms) (ms.map (fun w => incRow w ms.length), true) := by
      refine down ms.length ?_ ?_
      · refine Ev.step (fun k => by simp only [spec_IncidenceOf.l0]; rw [_root_.if_neg (by omega)]) ?_
        refine Ev.step (fun k => by simp only [spec_IncidenceOf.j1]; rw [_root_.if_neg (by simp)]) ?_
        rw [List.take_length]; exact Ev.bind hmo (Ev.some _)
      · intro i hi ih
        refine Ev.step (fun k => by simp only [spec_IncidenceOf.l0]; rw [_root_.if_pos (by omega)]) ?_
        refine Ev.bind hmo ?_
        refine Ev.step (fun k => by simp only [spec_IncidenceOf.j1]; rw [_root_.if_pos trivial]) ?_
        exact l1 i hi ih 0 (by omega)
    exact key 0 (by omega)
  · unfold inc
    rw [_root_.if_neg q]
    rw [Bool.eq_false_iff.2 q] at hmo ⊢
    have fin : Ev (fun k => spec_IncidenceOf.j1 k [] 0 false ms) ([], false) := by
      refine Ev.step (fun k => by simp only [spec_IncidenceOf.j1]; rw [_root_.if_neg (by simp)]) ?_
      exact Ev.bind hmo (Ev.some _)
    refine Ev.step (fun k => by simp only [spec_IncidenceOf.l0]; rfl) ?_
    refine Ev.ite (fun _ => ?_) (fun _ => ?_)
    · exact Ev.bind hmo fin
    · exact fin

theorem mo_letters {ms : List (List Int)} (h : mo ms = true) (i : Nat) (hi : i < ms.length) (j : Nat) (hj : j < ms[i].length) : 0 ≤ ms[i][j] ∧ ms[i][j] < (ms.length : Int) := by
  unfold mo isL at h
  rw [Bool.and_eq_true, List.all_eq_true] at h
  have := h.2 _ (List.getElem_mem hi)
  rw [Bool.and_eq_true, List.all_eq_true] at this
  exact of_decide_eq_true (this.2 _ (List.getElem_mem hj))

theorem implInc_ev (ms : List (List Int)) (h : ms.length ≤ 1048576) (ht : total ms ≤ 1048576) : Ev (fun k => impl_IncidenceOf.f k ms) (inc ms, mo ms) := by
  unfold impl_IncidenceOf.f
  refine Ev.bind (Ev.some _) (Ev.bind (implIsMorphism_ev ms h ht) ?_)
  by_cases q : mo ms = true
  · unfold inc
    rw [_root_.if_pos q]
    refine Ev.if_pos q ?_
    rw [q]
    have l1 : ∀ i, i < ms.length → ∀ (w : List Int), w = rd_L1 ms (i : Int) → w.length ≤ 8 → (∀ j, (hj : j < w.length) → 0 ≤ w[j] ∧ w[j] < (ms.length : Int)) → Ev (fun k => impl_IncidenceOf.l0 k (((ms.take i).map fun w => incRow w ms.length) ++ [incRow w ms.length]) ms (ms.length : Int) ((i + 1 : Nat) : Int) ms) (ms.map (fun w => incRow w ms.length), true) →
        ∀ j, j ≤ w.length → Ev (fun k => impl_IncidenceOf.l1 k ((ms.take i).map fun w => incRow w ms.length) (incRow (w.take j) ms.length) ms (ms.length : Int) (i : Int) w (w.length : Int) (j : Int) ms) (ms.map (fun w => incRow w ms.length), true) := by
      intro i hi w hwe hw8 hl ih0
      refine down w.length ?_ ?_
      · refine Ev.step (fun k => by simp only [impl_IncidenceOf.l1]; rw [_root_.if_neg (by omega), _root_.if_pos (by rw [List.length_map, List.length_take]; omega), wsucc (by omega)]) ?_
        rw [List.take_length]; exact ih0
      · intro j hj ih
        have h1 := hl j hj
        obtain ⟨x, hx⟩ : ∃ x : Nat, w[j] = (x : Int) := ⟨w[j].toNat, by omega⟩
        have h2 := cnt_le (w.take j) (x : Int)
        rw [List.length_take] at h2
        have e : (incRow (w.take j) ms.length).set ((w[j]) : Int).toNat (wrap64 (rd (incRow (w.take j) ms.length) w[j] + 1)) = incRow (w.take (j + 1)) ms.length := by
          rw [hx, Int.toNat_natCast]
          unfold incRow
          rw [rd_row _ _ _ (by omega), row_set]
          refine row_congr _ _ _ (fun b hb => ?_)
          rw [cnt_take w _ j hj, hx]
          by_cases e : b = x
          · rw [_root_.if_pos e, e, _root_.if_pos rfl, w_id (by omega) (by omega)]; omega
          · rw [_root_.if_neg e, _root_.if_neg (by omega)]; rfl
        refine Ev.step (fun k => by simp only [impl_IncidenceOf.l1]; rw [_root_.if_pos (by omega), _root_.if_pos (by omega), _root_.if_pos (by omega), wsucc (by omega), rd_get w j hj, _root_.if_pos h1.1, _root_.if_pos (by unfold incRow; rw [row_length]; exact h1.2), e]) ih
    have key : ∀ i, i ≤ ms.length → Ev (fun k => impl_IncidenceOf.l0 k ((ms.take i).map fun w => incRow w ms.length) ms (ms.length : Int) (i : Int) ms) (ms.map (fun w => incRow w ms.length), true) := by
      refine down ms.length ?_ ?_
      · refine Ev.step (fun k => by simp only [impl_IncidenceOf.l0]; rw [_root_.if_neg (by omega)]) ?_
        rw [List.take_length]; exact Ev.some _
      · intro i hi ih
        rw [take_succ ms i hi, List.map_append, List.map_cons, List.map_nil] at ih
        refine Ev.step (fun k => by simp only [impl_IncidenceOf.l0]; rw [_root_.if_pos (by omega), _root_.if_pos (by omega), _root_.if_pos (by omega), _root_.if_pos (by omega), _root_.if_pos (by omega), Int.toNat_natCast]) ?_
        have hr := rdLL ms i hi
        have := l1 i hi (rd_L1 ms (i : Int)) rfl (by rw [hr]; exact mo_at q i hi) (fun j hj => by simp only [hr] at hj ⊢; exact mo_letters q i hi j hj) (by rw [hr]; exact ih) 0 (by omega)
        have e : incRow ((rd_L1 ms (i : Int)).take 0) ms.length = List.replicate ms.length 0 := by
          rw [row_replicate]; unfold incRow; exact row_congr _ _ _ (fun b _ => by simp [cnt])
        rw [e] at this
        exact this
    exact key 0 (by omega)
  · unfold inc
    rw [_root_.if_neg q]
    refine Ev.if_neg q ?_
    rw [Bool.eq_false_iff.2 q]; exact Ev.some _
theorem inc_len (ms : List (List Int)) : (inc ms).length ≤ 16 ∧ ∀ r ∈ inc ms, r.length = ms.length ∧ r.length ≤ 16 := by
  unfold inc
  split
  · rename_i q
    have : ms.length ≤ 16 := by unfold mo at q; rw [Bool.and_eq_true] at q; exact (of_decide_eq_true q.1).2
    refine ⟨by rw [List.length_map]; exact this, fun r hr => ?_⟩
    obtain ⟨w, _, rfl⟩ := List.mem_map.1 hr
    unfold incRow; rw [row_length]; exact ⟨rfl, this⟩
  · simp
theorem total_le (xs : List (List Int)) (c : Nat) (h : ∀ r ∈ xs, r.length ≤ c) : total xs ≤ c * xs.length := by
  induction xs with
  | nil => simp [total]
  | cons x xs ih =>
    have h1 := ih (fun r hr => h r (List.mem_cons_of_mem _ hr))
    have h2 := h x (List.mem_cons_self ..)
    simp only [total, List.length_cons, Nat.mul_succ]; omega
end Go.Proofs.Ytooamcjgejajeaa.M
/- Walks for this claim, written by a program of mine over the kit's print. No condition of mine. -/
namespace Go.Proofs.Ytooamcjgejajeaa.M
open Go.RowKit Go.Proofs.Ytooamcjgejajeaa.KW Go.Proofs.YtooamcjgejajeaaW.PrintWords Go.Proofs.YtooamcjgejajeaaW.PrintLast Go.Proofs.YtooamcjgejajeaaW.PrintMore
attribute [local go_sem] max2_int min2_int max_two min_two max_three min_three max_four min_four   -- for this text's walks alone
set_option linter.unusedVariables false
set_option linter.unusedSimpArgs false

/-! ### impl_LettersAfter: function 27 -/
mutual
def impl_LettersAfter.j0 : Nat → Int → Int → List (List Int) → Bool → Option (List Int × Bool)
 | 0, _, _, _, _ => none
 | k + 1, x1, x2, x8, x40 => if x40 = true then (some ((([] : List Int)), false)) else (if 0 ≤ (x8.length : Int) then (if ((x8.length : Int) : Int).toNat ≤ 35184372088832 then ((some (List.replicate ((x8.length : Int) : Int).toNat 0 : List Int)).bind fun y285 => (if 0 ≤ x1 then (if x1 < (y285.length : Int) then (impl_LettersAfter.l0 k x8 (y285.set (x1 : Int).toNat 1) x2 0) else (none)) else (none))) else (none)) else (none))
def impl_LettersAfter.l0 : Nat → List (List Int) → List Int → Int → Int → Option (List Int × Bool)
 | 0, _, _, _, _ => none
 | k + 1, x8, x10, x48, x49 => if x49 < x48 then (if 0 ≤ (x10.length : Int) then (if ((x10.length : Int) : Int).toNat ≤ 35184372088832 then (impl_LettersAfter.l1 k x8 (List.replicate ((x10.length : Int) : Int).toNat 0) x48 x49 x10 (x10.length : Int) 0) else (none)) else (none)) else (some (x10, true))
def impl_LettersAfter.l1 : Nat → List (List Int) → List Int → Int → Int → List Int → Int → Int → Option (List Int × Bool)
 | 0, _, _, _, _, _, _, _ => none
 | k + 1, x8, x11, x48, x49, x54, x55, x56 => if x56 < x55 then (if 0 ≤ x56 then (if x56 < (x54.length : Int) then (if x56 < (x8.length : Int) then (impl_LettersAfter.l2 k x8 x11 (rd x54 x56) x48 x49 x54 x55 x56 (rd_L1 x8 x56) ((rd_L1 x8 x56).length : Int) 0) else (none)) else (none)) else (none)) else (impl_LettersAfter.l0 k x8 x11 x48 (wrap64 (x49 + 1)))
def impl_LettersAfter.l2 : Nat → List (List Int) → List Int → Int → Int → Int → List Int → Int → Int → List Int → Int → Int → Option (List Int × Bool)
 | 0, _, _, _, _, _, _, _, _, _, _, _ => none
 | k + 1, x8, x11, x13, x48, x49, x54, x55, x56, x64, x65, x66 => if x66 < x65 then (if 0 ≤ x66 then (if x66 < (x64.length : Int) then (if x66 < (x11.length : Int) then (impl_LettersAfter.l2 k x8 (x11.set (x66 : Int).toNat (wrap64 ((rd x11 x66) + (wrap64 (x13 * (rd x64 x66)))))) x13 x48 x49 x54 x55 x56 x64 x65 (wrap64 (x66 + 1))) else (none)) else (none)) else (none)) else (impl_LettersAfter.l1 k x8 x11 x48 x49 x54 x55 (wrap64 (x56 + 1)))
end
def impl_LettersAfter.f (k : Nat) (l0_0 : List (List Int)) (a1 : Int) (a2 : Int) : Option (List Int × Bool) := (impl_IncidenceOf.f k l0_0).bind fun bt278 => (if bt278.2 = true then (if a1 < 0 then (impl_LettersAfter.j0 k a1 a2 bt278.1 true) else (if a1 ≥ (bt278.1.length : Int) then (impl_LettersAfter.j0 k a1 a2 bt278.1 true) else (if a2 < 0 then (impl_LettersAfter.j0 k a1 a2 bt278.1 true) else (impl_LettersAfter.j0 k a1 a2 bt278.1 (decide (a2 > 12)))))) else (impl_LettersAfter.j0 k a1 a2 bt278.1 true))
theorem impl_LettersAfter.mono_l : ∀ k, (∀ y0 y1 y2 y3, LeO (impl_LettersAfter.j0 k y0 y1 y2 y3) (impl_LettersAfter.j0 (k + 1) y0 y1 y2 y3)) ∧ (∀ y0 y1 y2 y3, LeO (impl_LettersAfter.l0 k y0 y1 y2 y3) (impl_LettersAfter.l0 (k + 1) y0 y1 y2 y3)) ∧ (∀ y0 y1 y2 y3 y4 y5 y6, LeO (impl_LettersAfter.l1 k y0 y1 y2 y3 y4 y5 y6) (impl_LettersAfter.l1 (k + 1) y0 y1 y2 y3 y4 y5 y6)) ∧ (∀ y0 y1 y2 y3 y4 y5 y6 y7 y8 y9 y10, LeO (impl_LettersAfter.l2 k y0 y1 y2 y3 y4 y5 y6 y7 y8 y9 y10) (impl_LettersAfter.l2 (k + 1) y0 y1 y2 y3 y4 y5 y6 y7 y8 y9 y10))
 | 0 => ⟨fun _ _ _ _ r h => by simp [impl_LettersAfter.j0] at h, fun _ _ _ _ r h => by simp [impl_LettersAfter.l0] at h, fun _ _ _ _ _ _ _ r h => by simp [impl_LettersAfter.l1] at h, fun _ _ _ _ _ _ _ _ _ _ _ r h => by simp [impl_LettersAfter.l2] at h⟩
 | k + 1 => by
  obtain ⟨ih0, ih1, ih2, ih3⟩ := impl_LettersAfter.mono_l k
  refine ⟨?_, ?_, ?_, ?_⟩
  ·intro y0 y1 y2 y3
   unfold impl_LettersAfter.j0
   repeat' first
   | (with_reducible exact ih0 _ _ _ _)
   | (with_reducible exact ih1 _ _ _ _)
   | (with_reducible exact ih2 _ _ _ _ _ _ _)
   | (with_reducible exact ih3 _ _ _ _ _ _ _ _ _ _ _)
   | (with_reducible exact impl_IncidenceOf.mono _ _)
   | (with_reducible exact LeO.refl _)
   | (with_reducible exact LeO.none _)
   | (with_reducible refine LeO.ite ?_ ?_)
   | (with_reducible refine LeO.bind ?_ (fun _ => ?_))
   | exact ih0 _ _ _ _
   | exact ih1 _ _ _ _
   | exact ih2 _ _ _ _ _ _ _
   | exact ih3 _ _ _ _ _ _ _ _ _ _ _
   | exact impl_IncidenceOf.mono _ _
   | exact LeO.none _
   | refine LeO.ite ?_ ?_
   | refine LeO.bind ?_ (fun _ => ?_)
  ·intro y0 y1 y2 y3
   unfold impl_LettersAfter.l0
   repeat' first
   | (with_reducible exact ih0 _ _ _ _)
   | (with_reducible exact ih1 _ _ _ _)
   | (with_reducible exact ih2 _ _ _ _ _ _ _)
   | (with_reducible exact ih3 _ _ _ _ _ _ _ _ _ _ _)
   | (with_reducible exact impl_IncidenceOf.mono _ _)
   | (with_reducible exact LeO.refl _)
   | (with_reducible exact LeO.none _)
   | (with_reducible refine LeO.ite ?_ ?_)
   | (with_reducible refine LeO.bind ?_ (fun _ => ?_))
   | exact ih0 _ _ _ _
   | exact ih1 _ _ _ _
   | exact ih2 _ _ _ _ _ _ _
   | exact ih3 _ _ _ _ _ _ _ _ _ _ _
   | exact impl_IncidenceOf.mono _ _
   | exact LeO.none _
   | refine LeO.ite ?_ ?_
   | refine LeO.bind ?_ (fun _ => ?_)
  ·intro y0 y1 y2 y3 y4 y5 y6
   unfold impl_LettersAfter.l1
   repeat' first
   | (with_reducible exact ih0 _ _ _ _)
   | (with_reducible exact ih1 _ _ _ _)
   | (with_reducible exact ih2 _ _ _ _ _ _ _)
   | (with_reducible exact ih3 _ _ _ _ _ _ _ _ _ _ _)
   | (with_reducible exact impl_IncidenceOf.mono _ _)
   | (with_reducible exact LeO.refl _)
   | (with_reducible exact LeO.none _)
   | (with_reducible refine LeO.ite ?_ ?_)
   | (with_reducible refine LeO.bind ?_ (fun _ => ?_))
   | exact ih0 _ _ _ _
   | exact ih1 _ _ _ _
   | exact ih2 _ _ _ _ _ _ _
   | exact ih3 _ _ _ _ _ _ _ _ _ _ _
   | exact impl_IncidenceOf.mono _ _
   | exact LeO.none _
   | refine LeO.ite ?_ ?_
   | refine LeO.bind ?_ (fun _ => ?_)
  ·intro y0 y1 y2 y3 y4 y5 y6 y7 y8 y9 y10
   unfold impl_LettersAfter.l2
   repeat' first
   | (with_reducible exact ih0 _ _ _ _)
   | (with_reducible exact ih1 _ _ _ _)
   | (with_reducible exact ih2 _ _ _ _ _ _ _)
   | (with_reducible exact ih3 _ _ _ _ _ _ _ _ _ _ _)
   | (with_reducible exact impl_IncidenceOf.mono _ _)
   | (with_reducible exact LeO.refl _)
   | (with_reducible exact LeO.none _)
   | (with_reducible refine LeO.ite ?_ ?_)
   | (with_reducible refine LeO.bind ?_ (fun _ => ?_))
   | exact ih0 _ _ _ _
   | exact ih1 _ _ _ _
   | exact ih2 _ _ _ _ _ _ _
   | exact ih3 _ _ _ _ _ _ _ _ _ _ _
   | exact impl_IncidenceOf.mono _ _
   | exact LeO.none _
   | refine LeO.ite ?_ ?_
   | refine LeO.bind ?_ (fun _ => ?_)
theorem impl_LettersAfter.mono : ∀ a0 a1 a2 k, LeO (impl_LettersAfter.f k a0 a1 a2) (impl_LettersAfter.f (k + 1) a0 a1 a2) := by
 intro a0 a1 a2 k
 obtain ⟨ih0, ih1, ih2, ih3⟩ := impl_LettersAfter.mono_l k
 unfold impl_LettersAfter.f
 repeat' first
   | (with_reducible exact ih0 _ _ _ _)
   | (with_reducible exact ih1 _ _ _ _)
   | (with_reducible exact ih2 _ _ _ _ _ _ _)
   | (with_reducible exact ih3 _ _ _ _ _ _ _ _ _ _ _)
   | (with_reducible exact impl_IncidenceOf.mono _ _)
   | (with_reducible exact LeO.refl _)
   | (with_reducible exact LeO.none _)
   | (with_reducible refine LeO.ite ?_ ?_)
   | (with_reducible refine LeO.bind ?_ (fun _ => ?_))
   | exact ih0 _ _ _ _
   | exact ih1 _ _ _ _
   | exact ih2 _ _ _ _ _ _ _
   | exact ih3 _ _ _ _ _ _ _ _ _ _ _
   | exact impl_IncidenceOf.mono _ _
   | exact LeO.none _
   | refine LeO.ite ?_ ?_
   | refine LeO.bind ?_ (fun _ => ?_)
set_option maxHeartbeats 8000000 in
set_option maxRecDepth 100000 in
theorem impl_LettersAfter.calls (k : Nat) (A0_0 : Option Addr) (c0_0 : Nat) (l0_0 : List (List Int)) (a1 : Int) (a2 : Int) (r1 : List Int) (r2 : Bool) (w : World) (hr0_0 : Kd.C (Kd.slice 3 (Kd.int .i64)) w A0_0 l0_0.length l0_0) (hc0_0 : l0_0.length ≤ c0_0) (h : impl_LettersAfter.f k l0_0 a1 a2 = some (r1, r2)) :
  Calls Try.prog 27 #[.agg #[.slice A0_0 l0_0.length c0_0], .int .i64 a1, .int .i64 a2] w fun e w' => ∃ v0_ : Value, e = .returned (.tuple #[v0_, .bool r2]) ∧ Kd.R (Kd.int .i64) 3 w' w.heap.size (fun _ => True) v0_ r1 ∧ Below w.heap.size w w' := by
 have hu28 := Try.underlying28
 have HR0_0 := Aside0.mk hr0_0
 have HC0_0 := Aside0.mk hc0_0
 clear hr0_0 hc0_0
 have HB := Aside0.mk (Below.refl w.heap.size w)
 have H : ((impl_IncidenceOf.f k l0_0).bind fun bt278 => (if bt278.2 = true then (if a1 < 0 then (impl_LettersAfter.j0 k a1 a2 bt278.1 true) else (if a1 ≥ (bt278.1.length : Int) then (impl_LettersAfter.j0 k a1 a2 bt278.1 true) else (if a2 < 0 then (impl_LettersAfter.j0 k a1 a2 bt278.1 true) else (impl_LettersAfter.j0 k a1 a2 bt278.1 (decide (a2 > 12)))))) else (impl_LettersAfter.j0 k a1 a2 bt278.1 true))) = some (r1, r2) := h
 clear h
 replace H := Option.bind_eq_some_iff.mp H
 obtain ⟨⟨t278, t281⟩, A40, H⟩ := H
 replace H : (if t281 = true then (if a1 < 0 then (impl_LettersAfter.j0 k a1 a2 t278 true) else (if a1 ≥ (t278.length : Int) then (impl_LettersAfter.j0 k a1 a2 t278 true) else (if a2 < 0 then (impl_LettersAfter.j0 k a1 a2 t278 true) else (impl_LettersAfter.j0 k a1 a2 t278 (decide (a2 > 12)))))) else (impl_LettersAfter.j0 k a1 a2 t278 true)) = some (r1, r2) := H
 have A4 := Aside0.mk A40
 clear A40
 have HC5 := Aside0.mk H
 clear H
 go_enter Try.func27, Try.ntmps27
 go_upto_region 2 with (first | ((with_reducible refine gate_dst (N := 3) rfl ?_); (try (refine gate_guard (by rfl) ?_; dsimp only)); refine box_event ?hg (N := 3) ?hd (cs := #[.slice A0_0 l0_0.length c0_0]) (t := 28) ?hr ?_; (case hd => rfl); (case hg => rfl); (case hr => first | (go_simp; done) | (go_simp; rfl)); intro gb277 hg w6 hbox hb; have n0_ := Aside0.mk (below_step (by repeat (first | (with_reducible first | exact HB.out | apply below_alloc | apply pw_below_drewN | apply below_drew1) | exact HB.out)) hb); have n1_ := Aside0.mk (hbox); have n2_ := Aside0.mk ((by rw [hg]; exact (below_size (by repeat (first | (with_reducible first | exact HB.out | apply below_alloc | apply pw_below_drewN | apply below_drew1) | exact HB.out))) : w.heap.size ≤ gb277)); have n3_ := Aside0.mk ((by rw [hg]; exact (below_size (by repeat (first | (with_reducible first | exact HB.out | apply below_alloc | apply pw_below_drewN | apply below_drew1) | exact HB.out))) : w.heap.size ≤ gb277)); clear HB; have HB := n0_; have BK277 := n1_; have GW277 := n2_; have GE277 := n3_; clear n0_ n1_ n2_ n3_; clear hb hbox hg; have hcz7_0 : w6.cell? ⟨gb277, 0, none⟩ = some (.slice A0_0 l0_0.length c0_0) := (blk_cell BK277.out 0).trans rfl; have hfz7_0 := blk_frozen BK277.out 0) | ((with_reducible refine gate_callee (f := 18) rfl ?_); refine goesL_ (some 18) rfl rfl Try.func18 (by kernel_rfl) rfl #[.agg #[.slice A0_0 l0_0.length c0_0]] rfl (by (try simp only [List.map_toArray, List.map_cons, List.map_nil]); first | done | rfl | (simp only [List.length_drop, List.length_take]; rfl)) ?_; (with_reducible refine (impl_IncidenceOf.calls k _ _ l0_0 t278 t281 _ ?side1 ?side2 A4.out).mono ?_); (case side1 => repeat (first | exact (Kd.C_below HR0_0.out HB.out) | (with_reducible refine Kd.C_alloc ?_ _) | (with_reducible refine Kd.C_drewN ?_ _) | (with_reducible refine Kd.C_drew ?_))); (case side2 => exact HC0_0.out); rintro e w8 ⟨v279, rfl, ho0, hb⟩; refine ⟨_, rfl, ?_⟩; have n0_ := Aside0.mk (Kd.S_lower ho0 (below_size (by repeat (first | (with_reducible first | exact HB.out | apply below_alloc | apply pw_below_drewN | apply below_drew1 | refine below_set ?_ GE277.out) | exact HB.out)))); have n1_ := Aside0.mk (blk_below (g := gb277) (o := .cells #[.slice A0_0 l0_0.length c0_0] 28 (0, 0)) (by (with_reducible repeat (first | refine blk_drewN ?_ _ | refine blk_drew ?_ | refine blk_alloc ?_ _)); exact BK277.out) hb); have n2_ := Aside0.mk (below_step (by repeat (first | (with_reducible first | exact HB.out | apply below_alloc | apply pw_below_drewN | apply below_drew1 | refine below_set ?_ GE277.out) | exact HB.out)) hb); clear BK277; clear HB; have HO280 := n0_; have BK277 := n1_; have HB := n2_; clear n0_ n1_ n2_; (try clear hb); (try clear hb2); (try clear hk); (try clear hi); (try clear ho0)))
 (try simp only [Act.put, List.setIfInBounds_toArray, List.set_cons_zero, List.set_cons_succ])
 go_cut [40] (fun v40 wc => ∃ (kq : Nat) (x40_4 : Bool), v40 = .bool x40_4 ∧ Aside0 (impl_LettersAfter.j0 kq a1 a2 t278 x40_4 = some (r1, r2)) ∧ Aside0 (kq ≤ k) ∧ Aside0 (Kd.S (Kd.slice 3 (Kd.int .i64)) 36 wc w.heap.size (fun _ => True) v279 t278) ∧ Aside0 (wc.heap[gb277]? = some (.cells #[(.slice A0_0 l0_0.length c0_0)] 28 (0, 0))) ∧ Aside0 (Below w.heap.size w wc))
 case first =>
  have H := HC5.out
  clear HC5
  by_cases c9 : t281 = true
  ·subst c9
   have H1 : (if a1 < 0 then (impl_LettersAfter.j0 k a1 a2 t278 true) else (if a1 ≥ (t278.length : Int) then (impl_LettersAfter.j0 k a1 a2 t278 true) else (if a2 < 0 then (impl_LettersAfter.j0 k a1 a2 t278 true) else (impl_LettersAfter.j0 k a1 a2 t278 (decide (a2 > 12)))))) = some (r1, r2) := by rw [if_pos rfl] at H; exact H
   clear H
   have H := H1
   clear H1
   by_cases c10 : a1 < 0
   ·rw [if_pos c10] at H
    have c10b0 : decide (a1 < 0) = true := decide_eq_true c10
    clear c10
    (first | rw [c10b0] | (simp only [i64_w, i32_w]; rw [c10b0]) | skip)
    have H' := Aside0.mk H
    clear H
    go_wp2
    go_meet
    case rel => exact ⟨_, (true), (by first | rfl | (simp; done) | (simp [*]; done)), H', ⟨by first | omega | exact Nat.le_refl _⟩, ⟨by (with_reducible repeat (first | apply Kd.S_alloc | apply Kd.S_drewN | apply Kd.S_drew)); exact HO280.out⟩, ⟨by (with_reducible repeat (first | refine blk_drewN ?_ _ | refine blk_drew ?_ | refine blk_alloc ?_ _)); exact BK277.out⟩, ⟨by repeat (first | (with_reducible first | exact HB.out | apply below_alloc | apply pw_below_drewN | apply below_drew1 | refine below_set ?_ GE277.out) | exact HB.out)⟩⟩
   ·rw [if_neg c10] at H
    have c10b0 : decide (a1 < 0) = false := decide_eq_false c10
    clear c10
    (first | rw [c10b0] | (simp only [i64_w, i32_w]; rw [c10b0]) | skip)
    by_cases c11 : a1 ≥ (t278.length : Int)
    ·rw [if_pos c11] at H
     have c11b0 : decide ((t278.length : Int) ≤ a1) = true := decide_eq_true c11
     clear c11
     have H' := Aside0.mk H
     clear H
     obtain ⟨Ao12, co12, eo12⟩ := Kd.S_slice HO280.out
     subst eo12
     go_wp2
     go_meet
     case rel => exact ⟨_, (true), (by first | rfl | (simp; done) | (simp [*]; done)), H', ⟨by first | omega | exact Nat.le_refl _⟩, ⟨by (with_reducible repeat (first | apply Kd.S_alloc | apply Kd.S_drewN | apply Kd.S_drew)); exact HO280.out⟩, ⟨by (with_reducible repeat (first | refine blk_drewN ?_ _ | refine blk_drew ?_ | refine blk_alloc ?_ _)); exact BK277.out⟩, ⟨by repeat (first | (with_reducible first | exact HB.out | apply below_alloc | apply pw_below_drewN | apply below_drew1 | refine below_set ?_ GE277.out) | exact HB.out)⟩⟩
    ·rw [if_neg c11] at H
     have c11b0 : decide ((t278.length : Int) ≤ a1) = false := decide_eq_false c11
     clear c11
     by_cases c13 : a2 < 0
     ·rw [if_pos c13] at H
      have c13b0 : decide (a2 < 0) = true := decide_eq_true c13
      clear c13
      have H' := Aside0.mk H
      clear H
      obtain ⟨Ao14, co14, eo14⟩ := Kd.S_slice HO280.out
      subst eo14
      go_wp2
      go_meet
      case rel => exact ⟨_, (true), (by first | rfl | (simp; done) | (simp [*]; done)), H', ⟨by first | omega | exact Nat.le_refl _⟩, ⟨by (with_reducible repeat (first | apply Kd.S_alloc | apply Kd.S_drewN | apply Kd.S_drew)); exact HO280.out⟩, ⟨by (with_reducible repeat (first | refine blk_drewN ?_ _ | refine blk_drew ?_ | refine blk_alloc ?_ _)); exact BK277.out⟩, ⟨by repeat (first | (with_reducible first | exact HB.out | apply below_alloc | apply pw_below_drewN | apply below_drew1 | refine below_set ?_ GE277.out) | exact HB.out)⟩⟩
     ·rw [if_neg c13] at H
      have c13b0 : decide (a2 < 0) = false := decide_eq_false c13
      clear c13
      have H' := Aside0.mk H
      clear H
      obtain ⟨Ao15, co15, eo15⟩ := Kd.S_slice HO280.out
      subst eo15
      go_wp2
      go_meet
      case rel => exact ⟨_, (decide (a2 > 12)), (by first | rfl | (simp; done) | (simp [*]; done)), H', ⟨by first | omega | exact Nat.le_refl _⟩, ⟨by (with_reducible repeat (first | apply Kd.S_alloc | apply Kd.S_drewN | apply Kd.S_drew)); exact HO280.out⟩, ⟨by (with_reducible repeat (first | refine blk_drewN ?_ _ | refine blk_drew ?_ | refine blk_alloc ?_ _)); exact BK277.out⟩, ⟨by repeat (first | (with_reducible first | exact HB.out | apply below_alloc | apply pw_below_drewN | apply below_drew1 | refine below_set ?_ GE277.out) | exact HB.out)⟩⟩
  ·replace c9 := Bool.eq_false_iff.mpr c9
   subst c9
   have H1 : (impl_LettersAfter.j0 k a1 a2 t278 true) = some (r1, r2) := by rw [if_neg (show ¬ (false = true) by decide)] at H; exact H
   clear H
   have H := H1
   clear H1
   have H' := Aside0.mk H
   clear H
   go_wp2
   go_meet
   case rel => exact ⟨_, (true), (by first | rfl | (simp; done) | (simp [*]; done)), H', ⟨by first | omega | exact Nat.le_refl _⟩, ⟨by (with_reducible repeat (first | apply Kd.S_alloc | apply Kd.S_drewN | apply Kd.S_drew)); exact HO280.out⟩, ⟨by (with_reducible repeat (first | refine blk_drewN ?_ _ | refine blk_drew ?_ | refine blk_alloc ?_ _)); exact BK277.out⟩, ⟨by repeat (first | (with_reducible first | exact HB.out | apply below_alloc | apply pw_below_drewN | apply below_drew1 | refine below_set ?_ GE277.out) | exact HB.out)⟩⟩
 case rest =>
  clear HC5
  try clear c1
  try clear c2
  try clear p2
  try clear c9
  try clear c10
  try clear c10b0
  try clear c11
  try clear c11b0
  try clear c13
  try clear c13b0
  try clear hcz7_0
  try clear hfz7_0
  obtain ⟨kq, x40_4, rfl, HA, HJ4, HO_8, BK277, HB⟩ := hcut
  cases kq with
  | zero => exact absurd HA.out (by simp [impl_LettersAfter.j0])
  | succ kj4 =>
   have H := HA.out
   clear HA
   simp only [impl_LettersAfter.j0] at H
   by_cases c16 : x40_4 = true
   ·subst c16
    have H1 : (some ((([] : List Int)), false)) = some (r1, r2) := by rw [if_pos rfl] at H; exact H
    clear H
    have H := H1
    clear H1
    obtain ⟨y282, hy282⟩ : ∃ y_ : List Int, y_ = (([] : List Int)) := ⟨_, rfl⟩
    replace H : (some (y282, false)) = some (r1, r2) := by first | (rw [hy282]; with_reducible exact H) | (have H2_ := (Option.bind_some _ _).symm.trans H; rw [hy282]; with_reducible exact H2_) | (have H2_ := (Option.bind_some _ _).symm.trans H; with_reducible exact H2_) | with_reducible exact H | (rw [hy282]; exact H) | exact H
    have Ny282 := Aside0.mk hy282
    clear hy282
    simp only [Option.some.injEq, Prod.mk.injEq] at H
    obtain ⟨rfl, rfl⟩ := H
    go_wp2_with (first | ((with_reducible refine gate_dst (N := 41) rfl ?_); (try (refine gate_guard (by rfl) ?_; dsimp only)); refine Kd.R_lit (Kd.int .i64) _ 3 ?hg (N := 41) ?hd (xs := ([] : List Int)) (inner := []) (ok := fun _ => True) (okp := fun _ => True) ?hr ?hp (fun _ hk => hk) trivial (Below.refl _ _) (Nat.le_refl _) (by simp) ?_; (case hd => rfl); (case hg => rfl); (case hr => first | (go_simp; done) | (go_simp; rfl)); (case hp => exact (Reps.none _ _)); intro v283 w17 ho18 hb hg_ hnew_; clear hg_ hnew_; (first | rw [← Ny282.out] at ho18 | (simp only [Int.reduceToNat] at ho18; rw [← Ny282.out] at ho18)); have n0_ := Aside0.mk (Kd.S_elder' (by (with_reducible repeat (first | apply Kd.S_alloc | apply Kd.S_drewN | apply Kd.S_drew)); exact HO_8.out) (Kd.R_base ho18) hb); have n1_ := Aside0.mk (Kd.R_lower ho18 (below_size (by repeat (first | (with_reducible first | exact HB.out | apply below_alloc | apply pw_below_drewN | apply below_drew1 | refine below_set ?_ GE277.out) | exact HB.out)))); have n2_ := Aside0.mk (blk_below (g := gb277) (o := .cells #[.slice A0_0 l0_0.length c0_0] 28 (0, 0)) (by (with_reducible repeat (first | refine blk_drewN ?_ _ | refine blk_drew ?_ | refine blk_alloc ?_ _)); exact BK277.out) hb); have n3_ := Aside0.mk (below_step (by repeat (first | (with_reducible first | exact HB.out | apply below_alloc | apply pw_below_drewN | apply below_drew1 | refine below_set ?_ GE277.out) | exact HB.out)) hb); clear HO_8; clear BK277; clear HB; have HO_8 := n0_; have HO284 := n1_; have BK277 := n2_; have HB := n3_; clear n0_ n1_ n2_ n3_; clear hb ho18))
    go_ret2
    exact ⟨_, by first | rfl | (simp [errW_none, errW_some] <;> rfl) | (simp [*, errW_none, errW_some] <;> rfl), by (with_reducible repeat (first | apply Kd.R_alloc | apply Kd.R_drewN | apply Kd.R_drew)); exact HO284.out, by repeat (first | (with_reducible first | exact HB.out | apply below_alloc | apply pw_below_drewN | apply below_drew1 | refine below_set ?_ GE277.out) | exact HB.out)⟩
   ·replace c16 := Bool.eq_false_iff.mpr c16
    subst c16
    have H1 : (if 0 ≤ (t278.length : Int) then (if ((t278.length : Int) : Int).toNat ≤ 35184372088832 then ((some (List.replicate ((t278.length : Int) : Int).toNat 0 : List Int)).bind fun y285 => (if 0 ≤ a1 then (if a1 < (y285.length : Int) then (impl_LettersAfter.l0 kj4 t278 (y285.set (a1 : Int).toNat 1) a2 0) else (none)) else (none))) else (none)) else (none)) = some (r1, r2) := by rw [if_neg (show ¬ (false = true) by decide)] at H; exact H
    clear H
    have H := H1
    clear H1
    by_cases c19 : 0 ≤ (t278.length : Int)
    ·rw [if_pos c19] at H
     have c19b0 := eq_true c19
     have c19b1 : decide (0 ≤ (t278.length : Int)) = true := decide_eq_true c19
     clear c19
     by_cases c20 : ((t278.length : Int) : Int).toNat ≤ 35184372088832
     ·rw [if_pos c20] at H
      have c20b0 := eq_true c20
      have c20b1 : decide (((t278.length : Int) : Int).toNat ≤ 35184372088832) = true := decide_eq_true c20
      clear c20
      obtain ⟨y285, hy285⟩ : ∃ y_ : List Int, y_ = (List.replicate ((t278.length : Int) : Int).toNat 0) := ⟨_, rfl⟩
      replace H : (if 0 ≤ a1 then (if a1 < (y285.length : Int) then (impl_LettersAfter.l0 kj4 t278 (y285.set (a1 : Int).toNat 1) a2 0) else (none)) else (none)) = some (r1, r2) := by first | (rw [hy285]; with_reducible exact H) | (have H2_ := (Option.bind_some _ _).symm.trans H; rw [hy285]; with_reducible exact H2_) | (have H2_ := (Option.bind_some _ _).symm.trans H; with_reducible exact H2_) | with_reducible exact H | (rw [hy285]; exact H) | exact H
      have Ny285 := Aside0.mk hy285
      clear hy285
      by_cases c21 : 0 ≤ a1
      ·rw [if_pos c21] at H
       have c21b0 : decide (0 ≤ a1) = true := decide_eq_true c21
       clear c21
       by_cases c22 : a1 < (y285.length : Int)
       ·rw [if_pos c22] at H
        have c22b0 : decide (a1 < (y285.length : Int)) = true := decide_eq_true c22
        clear c22
        obtain ⟨y288, hy288⟩ : ∃ y_ : List Int, y_ = (y285.set (a1 : Int).toNat 1) := ⟨_, rfl⟩
        replace H : (impl_LettersAfter.l0 kj4 t278 y288 a2 0) = some (r1, r2) := by first | (rw [hy288]; with_reducible exact H) | (have H2_ := (Option.bind_some _ _).symm.trans H; rw [hy288]; with_reducible exact H2_) | (have H2_ := (Option.bind_some _ _).symm.trans H; with_reducible exact H2_) | with_reducible exact H | (rw [hy288]; exact H) | exact H
        have Ny288 := Aside0.mk hy288
        clear hy288
        have H' := Aside0.mk H
        clear H
        obtain ⟨Ao24, co24, eo24⟩ := Kd.S_slice HO_8.out
        subst eo24
        go_wp2_with (first | ((with_reducible refine gate_dst (N := 44) rfl ?_); (try (refine gate_guard (by rfl) ?_; dsimp only)); refine Kd.R_make (Kd.int .i64) _ 3 rfl (N := 44) rfl 36 _ _ rfl (t278.length : Int) rfl rfl Try.underlying36 (.int .i64 0) 8 info3 rfl (by decide) (by omega) 0 (ok := fun _ => True) (okp := fun _ => True) rfl (fun _ hk => hk) trivial (of_decide_eq_true (by first | (with_reducible assumption) | assumption)) (Nat.le_trans (Nat.mul_le_mul_right _ (of_decide_eq_true (by first | (with_reducible assumption) | assumption) : (t278.length : Int).toNat ≤ 35184372088832)) (by omega)) (Below.refl _ _) (Nat.le_refl _) ?_; intro v286 w25 ho26 hb hg_ hnew_; clear hg_ hnew_; (first | rw [← Ny285.out] at ho26 | (simp only [Int.reduceToNat] at ho26; rw [← Ny285.out] at ho26)); have n0_ := Aside0.mk (Kd.S_elder' (by (with_reducible repeat (first | apply Kd.S_alloc | apply Kd.S_drewN | apply Kd.S_drew)); exact HO_8.out) (Kd.R_base ho26) hb); have n1_ := Aside0.mk (Kd.R_lower ho26 (below_size (by repeat (first | (with_reducible first | exact HB.out | apply below_alloc | apply pw_below_drewN | apply below_drew1 | refine below_set ?_ GE277.out) | exact HB.out)))); have n2_ := Aside0.mk (blk_below (g := gb277) (o := .cells #[.slice A0_0 l0_0.length c0_0] 28 (0, 0)) (by (with_reducible repeat (first | refine blk_drewN ?_ _ | refine blk_drew ?_ | refine blk_alloc ?_ _)); exact BK277.out) hb); have n3_ := Aside0.mk (below_step (by repeat (first | (with_reducible first | exact HB.out | apply below_alloc | apply pw_below_drewN | apply below_drew1 | refine below_set ?_ GE277.out) | exact HB.out)) hb); clear HO_8; clear BK277; clear HB; have HO_8 := n0_; have HO287 := n1_; have BK277 := n2_; have HB := n3_; clear n0_ n1_ n2_ n3_; clear hb ho26; have p23 : 0 ≤ (a1 : Int) := of_decide_eq_true (by first | (with_reducible assumption) | assumption); have q23 : (a1 : Int) < ((y285.length : Int) : Int) := of_decide_eq_true (by first | (with_reducible assumption) | assumption); obtain ⟨go23, co23, eo23, gb23, gl23, cl23, HG23⟩ := Kd.R_form HO287.out (by omega); (first | cases eo23 | (injection eo23 with ea_ en_ ec_; (first | subst ea_ | (injection ea_ with ea_; subst ea_)); subst ec_; clear en_)); have GB23 := Aside0.mk gb23; have GG23 := Aside0.mk HG23; clear gb23 gl23 HG23; obtain ⟨hx23_0, hf23_0⟩ := Kd.R_celln 0 HO287.out (a1 : Int) p23 q23; replace p23 := eq_true p23; replace q23 := eq_true q23; obtain ⟨hy27_, hz27_⟩ := Kd.R_celln 0 HO287.out (a1 : Int) (of_decide_eq_true (by first | (with_reducible assumption) | assumption)) (of_decide_eq_true (by first | (with_reducible assumption) | assumption)); have HP27 := Kd.R_putg HO287.out (a1 : Int) 1) | ((with_reducible refine gate_store (t := 3) (p := 47) rfl ?_); refine store_event (t := 3) (p := 47) (v := ?vo_w28) (w1 := (w25.setCell ⟨go23, (a1 : Int).toNat, none⟩ (.int .i64 1))) ?hg ?ho ?hn ?hr ?_; (case ho => rfl); (case hg => rfl); (case hn => rfl); (case hr => first | (go_simp; done) | (go_simp; rfl)); intro w28 hw; have hg : w25.grownBy w28 (some go23) := (by rw [hw]; exact HP27.2); have hp_ : Kd.R (Kd.int .i64) 3 w28 w.heap.size (fun _ => True) (.slice (some ⟨go23, 0, none⟩) y285.length co23) y288 := (by rw [hw, Ny288.out]; exact HP27.1); clear HP27; have n0_ := Aside0.mk (Kd.S_after (v := (.slice (some ⟨go23, 0, none⟩) y285.length co23)) (v1 := (.slice (some ⟨go23, 0, none⟩) y285.length co23)) (ok := (fun _ => True)) (by (with_reducible repeat (first | apply Kd.S_alloc | apply Kd.S_drewN | apply Kd.S_drew)); exact HO_8.out) hg (.inl rfl)); have n1_ := Aside0.mk (blk_grown (g := gb277) (o := .cells #[.slice A0_0 l0_0.length c0_0] 28 (0, 0)) (by (with_reducible repeat (first | refine blk_drewN ?_ _ | refine blk_drew ?_ | refine blk_alloc ?_ _)); exact BK277.out) hg (Kd.R_ne HO287.out BK277.out (by decide))); have n2_ := Aside0.mk (hp_); have n3_ := Aside0.mk ((by rw [hw]; exact below_set (HB.out) GB23.out : Below w.heap.size w w28)); clear HO_8; clear BK277; clear HO287; clear HB; have HO_8 := n0_; have BK277 := n1_; have HO287 := n2_; have HB := n3_; clear n0_ n1_ n2_ n3_; clear hg hw hp_))
        go_loopg [10, 49] kj4 (fun kq v10 v49 w' => ∃ (x10_2 : List Int) (x49_2 : Int), v49 = .int .i64 x49_2 ∧ Aside0 (impl_LettersAfter.l0 kq t278 x10_2 a2 x49_2 = some (r1, r2)) ∧ Aside0 (kq ≤ kj4) ∧ Aside0 (Kd.S (Kd.slice 3 (Kd.int .i64)) 36 w' w.heap.size (fun k_ => some k_ ≠ (v10 : Value).ownBlock) (.slice Ao24 t278.length co24) t278) ∧ Aside0 (Kd.R (Kd.int .i64) 3 w' w.heap.size (fun _ => True) v10 x10_2) ∧ Aside0 (w'.heap[gb277]? = some (.cells #[(.slice A0_0 l0_0.length c0_0)] 28 (0, 0))) ∧ Aside0 (Below w.heap.size w w'))
        case atStart => exact ⟨(y288), (0), (by first | rfl | (simp; done) | (simp [*]; done)), H', ⟨Nat.le_refl _⟩, ⟨by (with_reducible repeat (first | apply Kd.S_alloc | apply Kd.S_drewN | apply Kd.S_drew)); exact Kd.S_mono HO_8.out (fun _ hk => hk.2)⟩, ⟨by (with_reducible repeat (first | apply Kd.R_alloc | apply Kd.R_drewN | apply Kd.R_drew)); exact HO287.out⟩, ⟨by (with_reducible repeat (first | refine blk_drewN ?_ _ | refine blk_drew ?_ | refine blk_alloc ?_ _)); exact BK277.out⟩, ⟨by repeat (first | (with_reducible first | exact HB.out | apply below_alloc | apply pw_below_drewN | apply below_drew1 | refine below_set ?_ GE277.out) | exact HB.out)⟩⟩
        case round =>
         clear H'
         try clear c1
         try clear c2
         try clear p2
         try clear q2
         try clear hx2
         try clear c9
         try clear c10
         try clear c10b0
         try clear c11
         try clear c11b0
         try clear c13
         try clear c13b0
         try clear c16
         try clear c18
         try clear c19
         try clear c19b0
         try clear c19b1
         try clear c20
         try clear c20b0
         try clear c20b1
         try clear c21
         try clear c21b0
         try clear c22
         try clear c22b0
         try clear p23
         try clear q23
         try clear hx23
         try clear hf23
         try clear c27
         try clear hcz7_0
         try clear hfz7_0
         try clear hx23_0
         try clear p2
         try clear p23
         try clear q23
         obtain ⟨x10_2, x49_2, rfl, HA, HK2, HO_8, HO_10, BK277, HB⟩ := hrel
         cases gk with
         | zero => exact absurd HA.out (by simp [impl_LettersAfter.l0])
         | succ k2 =>
          have H := HA.out
          clear HA
          simp only [impl_LettersAfter.l0] at H
          by_cases c29 : x49_2 < a2
          ·rw [if_pos c29] at H
           have c29b0 : decide (x49_2 < a2) = true := decide_eq_true c29
           clear c29
           by_cases c30 : 0 ≤ (x10_2.length : Int)
           ·rw [if_pos c30] at H
            have c30b0 := eq_true c30
            have c30b1 : decide (0 ≤ (x10_2.length : Int)) = true := decide_eq_true c30
            clear c30
            by_cases c31 : ((x10_2.length : Int) : Int).toNat ≤ 35184372088832
            ·rw [if_pos c31] at H
             have c31b0 := eq_true c31
             have c31b1 : decide (((x10_2.length : Int) : Int).toNat ≤ 35184372088832) = true := decide_eq_true c31
             clear c31
             obtain ⟨y289, hy289⟩ : ∃ y_ : List Int, y_ = (List.replicate ((x10_2.length : Int) : Int).toNat 0) := ⟨_, rfl⟩
             replace H : (impl_LettersAfter.l1 k2 t278 y289 a2 x49_2 x10_2 (x10_2.length : Int) 0) = some (r1, r2) := by first | (rw [hy289]; with_reducible exact H) | (have H2_ := (Option.bind_some _ _).symm.trans H; rw [hy289]; with_reducible exact H2_) | (have H2_ := (Option.bind_some _ _).symm.trans H; with_reducible exact H2_) | with_reducible exact H | (rw [hy289]; exact H) | exact H
             have Ny289 := Aside0.mk hy289
             clear hy289
             have H' := Aside0.mk H
             clear H
             obtain ⟨Ao32, co32, eo32⟩ := Kd.R_slice HO_10.out
             subst eo32
             go_wp2_with (first | ((with_reducible refine gate_dst (N := 53) rfl ?_); (try (refine gate_guard (by rfl) ?_; dsimp only)); refine Kd.R_make (Kd.int .i64) _ 3 rfl (N := 53) rfl 36 _ _ rfl (x10_2.length : Int) rfl rfl Try.underlying36 (.int .i64 0) 8 info3 rfl (by decide) (by omega) 0 (ok := fun _ => True) (okp := fun _ => True) rfl (fun _ hk => hk) trivial (of_decide_eq_true (by first | (with_reducible assumption) | assumption)) (Nat.le_trans (Nat.mul_le_mul_right _ (of_decide_eq_true (by first | (with_reducible assumption) | assumption) : (x10_2.length : Int).toNat ≤ 35184372088832)) (by omega)) (Below.refl _ _) (Nat.le_refl _) ?_; intro v290 w33 ho34 hb hg_ hnew_; clear hg_ hnew_; (first | rw [← Ny289.out] at ho34 | (simp only [Int.reduceToNat] at ho34; rw [← Ny289.out] at ho34)); have n0_ := Aside0.mk (Kd.S_elder' (by (with_reducible repeat (first | apply Kd.S_alloc | apply Kd.S_drewN | apply Kd.S_drew)); exact HO_8.out) (Kd.R_base ho34) hb); have n1_ := Aside0.mk (Kd.R_elder' (by (with_reducible repeat (first | apply Kd.R_alloc | apply Kd.R_drewN | apply Kd.R_drew)); exact HO_10.out) (Kd.R_base ho34) hb); have n2_ := Aside0.mk (Kd.R_lower (Kd.R_new' ho34 (Kd.R_lt (by (with_reducible repeat (first | apply Kd.R_alloc | apply Kd.R_drewN | apply Kd.R_drew)); exact HO_10.out))) (below_size (by repeat (first | (with_reducible first | exact HB.out | apply below_alloc | apply pw_below_drewN | apply below_drew1 | refine below_set ?_ GE277.out) | exact HB.out)))); have n3_ := Aside0.mk (blk_below (g := gb277) (o := .cells #[.slice A0_0 l0_0.length c0_0] 28 (0, 0)) (by (with_reducible repeat (first | refine blk_drewN ?_ _ | refine blk_drew ?_ | refine blk_alloc ?_ _)); exact BK277.out) hb); have n4_ := Aside0.mk (below_step (by repeat (first | (with_reducible first | exact HB.out | apply below_alloc | apply pw_below_drewN | apply below_drew1 | refine below_set ?_ GE277.out) | exact HB.out)) hb); clear HO_8; clear HO_10; clear BK277; clear HB; have HO_8 := n0_; have HO_10 := n1_; have HO291 := n2_; have BK277 := n3_; have HB := n4_; clear n0_ n1_ n2_ n3_ n4_; clear hb ho34))
             go_loopg [56] k2 (fun kq v56 w' => ∃ (x11_3 : List Int) (x56_3 : Int), v56 = .int .i64 x56_3 ∧ Aside0 (impl_LettersAfter.l1 kq t278 x11_3 a2 x49_2 x10_2 (x10_2.length : Int) x56_3 = some (r1, r2)) ∧ Aside0 (kq ≤ k2) ∧ Aside0 (Kd.S (Kd.slice 3 (Kd.int .i64)) 36 w' w.heap.size (fun k_ => some k_ ≠ (v290 : Value).ownBlock ∧ some k_ ≠ ((.slice Ao32 x10_2.length co32) : Value).ownBlock) (.slice Ao24 t278.length co24) t278) ∧ Aside0 (Kd.R (Kd.int .i64) 3 w' w.heap.size (fun k_ => some k_ ≠ ((.slice Ao32 x10_2.length co32) : Value).ownBlock) v290 x11_3) ∧ Aside0 (Kd.R (Kd.int .i64) 3 w' w.heap.size (fun k_ => some k_ ≠ (v290 : Value).ownBlock) (.slice Ao32 x10_2.length co32) x10_2) ∧ Aside0 (w'.heap[gb277]? = some (.cells #[(.slice A0_0 l0_0.length c0_0)] 28 (0, 0))) ∧ Aside0 (Below w.heap.size w w'))
             case atStart => exact ⟨(y289), (0), (by first | rfl | (simp; done) | (simp [*]; done)), H', ⟨Nat.le_refl _⟩, ⟨by (with_reducible repeat (first | apply Kd.S_alloc | apply Kd.S_drewN | apply Kd.S_drew)); exact Kd.S_mono HO_8.out (fun _ hk => ⟨hk.2, hk.1⟩)⟩, ⟨by (with_reducible repeat (first | apply Kd.R_alloc | apply Kd.R_drewN | apply Kd.R_drew)); exact Kd.R_mono HO291.out (fun _ hk => hk.2)⟩, ⟨by (with_reducible repeat (first | apply Kd.R_alloc | apply Kd.R_drewN | apply Kd.R_drew)); exact Kd.R_mono HO_10.out (fun _ hk => hk.2)⟩, ⟨by (with_reducible repeat (first | refine blk_drewN ?_ _ | refine blk_drew ?_ | refine blk_alloc ?_ _)); exact BK277.out⟩, ⟨by repeat (first | (with_reducible first | exact HB.out | apply below_alloc | apply pw_below_drewN | apply below_drew1 | refine below_set ?_ GE277.out) | exact HB.out)⟩⟩
             case round =>
              clear H'
              try clear c1
              try clear c2
              try clear p2
              try clear q2
              try clear hx2
              try clear c3
              try clear c9
              try clear c10
              try clear c10b0
              try clear c11
              try clear c11b0
              try clear c13
              try clear c13b0
              try clear c16
              try clear c18
              try clear c19
              try clear c19b0
              try clear c19b1
              try clear c20
              try clear c20b0
              try clear c20b1
              try clear c21
              try clear c21b0
              try clear c22
              try clear c22b0
              try clear p23
              try clear q23
              try clear hx23
              try clear hf23
              try clear c27
              try clear c29
              try clear c29b0
              try clear c30
              try clear c30b0
              try clear c30b1
              try clear c31
              try clear c31b0
              try clear c31b1
              try clear hcz7_0
              try clear hfz7_0
              try clear hx23_0
              try clear p2
              try clear p23
              try clear q2
              try clear q23
              obtain ⟨x11_3, x56_3, rfl, HA, HK3, HO_8, HO_11, HO_54, BK277, HB⟩ := hrel
              cases gk with
              | zero => exact absurd HA.out (by simp [impl_LettersAfter.l1])
              | succ k3 =>
               have H := HA.out
               clear HA
               simp only [impl_LettersAfter.l1] at H
               by_cases c35 : x56_3 < (x10_2.length : Int)
               ·rw [if_pos c35] at H
                have c35b0 : decide (x56_3 < (x10_2.length : Int)) = true := decide_eq_true c35
                clear c35
                by_cases c36 : 0 ≤ x56_3
                ·rw [if_pos c36] at H
                 have c36b0 : decide (0 ≤ x56_3) = true := decide_eq_true c36
                 clear c36
                 by_cases c37 : x56_3 < (x10_2.length : Int)
                 ·rw [if_pos c37] at H
                  have c37b0 : decide (x56_3 < (x10_2.length : Int)) = true := decide_eq_true c37
                  clear c37
                  by_cases c38 : x56_3 < (t278.length : Int)
                  ·rw [if_pos c38] at H
                   have c38b0 : decide (x56_3 < (t278.length : Int)) = true := decide_eq_true c38
                   clear c38
                   have H' := Aside0.mk H
                   clear H
                   have p292 : 0 ≤ (x56_3 : Int) := of_decide_eq_true (by first | (with_reducible assumption) | assumption)
                   have q292 : x56_3 < (x10_2.length : Int) := of_decide_eq_true (by first | (with_reducible assumption) | assumption)
                   obtain ⟨ad292, e292, hx292_0⟩ := Kd.at_int (Kd.R_reads' HO_54.out).2.2 x56_3 p292 q292
                   cases e292
                   replace p292 := eq_true p292
                   replace q292 := eq_true q292
                   have p293 : 0 ≤ (x56_3 : Int) := of_decide_eq_true (by first | (with_reducible assumption) | assumption)
                   have q293 : x56_3 < (t278.length : Int) := of_decide_eq_true (by first | (with_reducible assumption) | assumption)
                   obtain ⟨ad293, A293_0, c293_0, e293, hx293_0, hl293_0, hi293_0⟩ := at_L1 (Kd.S_reads' HO_8.out).2.2 x56_3 p293 q293
                   cases e293
                   obtain ⟨ce293, hce293, hMe293, hcc293⟩ := Kd.S_get HO_8.out [] x56_3 p293 (by first | exact q293 | exact of_decide_eq_true (by first | (with_reducible assumption) | assumption) | (have e_ := (Kd.S_reads' HO_8.out).1; omega))
                   obtain ⟨ve293_0, rfl, ge293_0⟩ := hMe293
                   have hv293_0 := hcc293 0 _ rfl
                   rw [Nat.add_zero, show ((Kd.slice 3 (Kd.int .i64))).sz = 1 from rfl, Nat.mul_one] at hv293_0
                   replace hv293_0 := Option.some.inj (hv293_0.symm.trans hx293_0)
                   rw [hv293_0] at ge293_0
                   have HL293_0 := Aside0.mk (show Kd.R (Kd.int .i64) 3 _ _ _ _ (rd_L1 t278 x56_3) from ge293_0)
                   clear hv293_0 ge293_0
                   clear hcc293 hce293
                   have HR293_0 := Aside0.mk hi293_0
                   have HC293_0 := Aside0.mk hl293_0
                   clear hi293_0 hl293_0
                   replace p293 := eq_true p293
                   replace q293 := eq_true q293
                   go_wp2
                   go_loopg [66] k3 (fun kq v66 w' => ∃ (x11_4 : List Int) (x66_4 : Int), v66 = .int .i64 x66_4 ∧ Aside0 (impl_LettersAfter.l2 kq t278 x11_4 (rd x10_2 x56_3) a2 x49_2 x10_2 (x10_2.length : Int) x56_3 (rd_L1 t278 x56_3) ((rd_L1 t278 x56_3).length : Int) x66_4 = some (r1, r2)) ∧ Aside0 (kq ≤ k3) ∧ Aside0 (Kd.S (Kd.slice 3 (Kd.int .i64)) 36 w' w.heap.size (fun k_ => some k_ ≠ (v290 : Value).ownBlock ∧ some k_ ≠ ((.slice (some ad292) x10_2.length co32) : Value).ownBlock) (.slice (some ad293) t278.length co24) t278) ∧ Aside0 (Kd.R (Kd.int .i64) 3 w' w.heap.size (fun k_ => some k_ ≠ ((.slice (some ad292) x10_2.length co32) : Value).ownBlock) v290 x11_4) ∧ Aside0 (Kd.R (Kd.int .i64) 3 w' w.heap.size (fun k_ => some k_ ≠ (v290 : Value).ownBlock) (.slice (some ad292) x10_2.length co32) x10_2) ∧ Aside0 (Kd.R (Kd.int .i64) 3 w' w.heap.size (fun k_ => some k_ ≠ (v290 : Value).ownBlock) (.slice A293_0 (rd_L1 t278 x56_3).length c293_0) (rd_L1 t278 x56_3)) ∧ Aside0 (w'.heap[gb277]? = some (.cells #[(.slice A0_0 l0_0.length c0_0)] 28 (0, 0))) ∧ Aside0 (Below w.heap.size w w'))
                   case atStart => exact ⟨(x11_3), (0), (by first | rfl | (simp; done) | (simp [*]; done)), H', ⟨Nat.le_refl _⟩, ⟨by (with_reducible repeat (first | apply Kd.S_alloc | apply Kd.S_drewN | apply Kd.S_drew)); exact HO_8.out⟩, ⟨by (with_reducible repeat (first | apply Kd.R_alloc | apply Kd.R_drewN | apply Kd.R_drew)); exact HO_11.out⟩, ⟨by (with_reducible repeat (first | apply Kd.R_alloc | apply Kd.R_drewN | apply Kd.R_drew)); exact HO_54.out⟩, ⟨by (with_reducible repeat (first | apply Kd.R_alloc | apply Kd.R_drewN | apply Kd.R_drew)); exact Kd.R_mono HL293_0.out (fun _ hk => hk.1.1)⟩, ⟨by (with_reducible repeat (first | refine blk_drewN ?_ _ | refine blk_drew ?_ | refine blk_alloc ?_ _)); exact BK277.out⟩, ⟨by repeat (first | (with_reducible first | exact HB.out | apply below_alloc | apply pw_below_drewN | apply below_drew1 | refine below_set ?_ GE277.out) | exact HB.out)⟩⟩
                   case round =>
                    clear H'
                    try clear c1
                    try clear c2
                    try clear p2
                    try clear q2
                    try clear hx2
                    try clear c3
                    try clear c9
                    try clear c10
                    try clear c10b0
                    try clear c11
                    try clear c11b0
                    try clear c13
                    try clear c13b0
                    try clear c16
                    try clear c18
                    try clear c19
                    try clear c19b0
                    try clear c19b1
                    try clear c20
                    try clear c20b0
                    try clear c20b1
                    try clear c21
                    try clear c21b0
                    try clear c22
                    try clear c22b0
                    try clear p23
                    try clear q23
                    try clear hx23
                    try clear hf23
                    try clear c27
                    try clear c29
                    try clear c29b0
                    try clear p29
                    try clear q29
                    try clear hx29
                    try clear c30
                    try clear c30b0
                    try clear c30b1
                    try clear c31
                    try clear c31b0
                    try clear c31b1
                    try clear c35
                    try clear c35b0
                    try clear c36
                    try clear c36b0
                    try clear c37
                    try clear c37b0
                    try clear c38
                    try clear c38b0
                    try clear hcz7_0
                    try clear hfz7_0
                    try clear hx23_0
                    try clear hx292_0
                    try clear hx293_0
                    try clear p2
                    try clear p23
                    try clear p292
                    try clear p293
                    try clear q2
                    try clear q23
                    try clear q292
                    try clear q293
                    obtain ⟨x11_4, x66_4, rfl, HA, HK4, HO_8, HO_11, HO_54, HO_R, BK277, HB⟩ := hrel
                    cases gk with
                    | zero => exact absurd HA.out (by simp [impl_LettersAfter.l2])
                    | succ k4 =>
                     have H := HA.out
                     clear HA
                     simp only [impl_LettersAfter.l2] at H
                     by_cases c39 : x66_4 < ((rd_L1 t278 x56_3).length : Int)
                     ·rw [if_pos c39] at H
                      have c39b0 : decide (x66_4 < ((rd_L1 t278 x56_3).length : Int)) = true := decide_eq_true c39
                      clear c39
                      by_cases c40 : 0 ≤ x66_4
                      ·rw [if_pos c40] at H
                       have c40b0 : decide (0 ≤ x66_4) = true := decide_eq_true c40
                       clear c40
                       by_cases c41 : x66_4 < ((rd_L1 t278 x56_3).length : Int)
                       ·rw [if_pos c41] at H
                        have c41b0 : decide (x66_4 < ((rd_L1 t278 x56_3).length : Int)) = true := decide_eq_true c41
                        clear c41
                        by_cases c42 : x66_4 < (x11_4.length : Int)
                        ·rw [if_pos c42] at H
                         have c42b0 : decide (x66_4 < (x11_4.length : Int)) = true := decide_eq_true c42
                         clear c42
                         obtain ⟨y296, hy296⟩ : ∃ y_ : List Int, y_ = (x11_4.set (x66_4 : Int).toNat (wrap64 ((rd x11_4 x66_4) + (wrap64 ((rd x10_2 x56_3) * (rd (rd_L1 t278 x56_3) x66_4)))))) := ⟨_, rfl⟩
                         replace H : (impl_LettersAfter.l2 k4 t278 y296 (rd x10_2 x56_3) a2 x49_2 x10_2 (x10_2.length : Int) x56_3 (rd_L1 t278 x56_3) ((rd_L1 t278 x56_3).length : Int) (wrap64 (x66_4 + 1))) = some (r1, r2) := by first | (rw [hy296]; with_reducible exact H) | (have H2_ := (Option.bind_some _ _).symm.trans H; rw [hy296]; with_reducible exact H2_) | (have H2_ := (Option.bind_some _ _).symm.trans H; with_reducible exact H2_) | with_reducible exact H | (rw [hy296]; exact H) | exact H
                         have Ny296 := Aside0.mk hy296
                         clear hy296
                         have H' := Aside0.mk H
                         clear H
                         have p294 : 0 ≤ (x66_4 : Int) := of_decide_eq_true (by first | (with_reducible assumption) | assumption)
                         have q294 : x66_4 < ((rd_L1 t278 x56_3).length : Int) := of_decide_eq_true (by first | (with_reducible assumption) | assumption)
                         obtain ⟨ad294, e294, hx294_0⟩ := Kd.at_int (Kd.R_reads' HO_R.out).2.2 x66_4 p294 q294
                         cases e294
                         skip
                         replace p294 := eq_true p294
                         replace q294 := eq_true q294
                         obtain ⟨Ao44, co44, eo44⟩ := Kd.R_slice HO_11.out
                         subst eo44
                         have p295 : 0 ≤ (x66_4 : Int) := of_decide_eq_true (by first | (with_reducible assumption) | assumption)
                         have q295 : x66_4 < (x11_4.length : Int) := of_decide_eq_true (by first | (with_reducible assumption) | assumption)
                         obtain ⟨ad295, e295, hx295_0⟩ := Kd.at_int (Kd.R_reads' HO_11.out).2.2 x66_4 p295 q295
                         cases e295
                         replace p295 := eq_true p295
                         replace q295 := eq_true q295
                         have p43 : 0 ≤ (x66_4 : Int) := of_decide_eq_true (by first | (with_reducible assumption) | assumption)
                         have q43 : (x66_4 : Int) < ((x11_4.length : Int) : Int) := of_decide_eq_true (by first | (with_reducible assumption) | assumption)
                         obtain ⟨go43, co43, eo43, gb43, gl43, cl43, HG43⟩ := Kd.R_form HO_11.out (by omega)
                         (first | cases eo43 | (injection eo43 with ea_ en_ ec_; (first | subst ea_ | (injection ea_ with ea_; subst ea_)); subst ec_; clear en_))
                         have GB43 := Aside0.mk gb43
                         have GG43 := Aside0.mk HG43
                         clear gb43 gl43 HG43
                         (first | simp only [add_plain] at hx295_0 | skip)
                         obtain ⟨hx43_0, hf43_0⟩ := Kd.R_celln 0 HO_11.out (x66_4 : Int) p43 q43
                         replace p43 := eq_true p43
                         replace q43 := eq_true q43
                         have HP45 := Kd.R_putg HO_11.out (x66_4 : Int) (wrap64 ((rd x11_4 x66_4) + (wrap64 ((rd x10_2 x56_3) * (rd (rd_L1 t278 x56_3) x66_4)))))
                         go_wp2_with (first | ((with_reducible refine gate_store (t := 3) (p := 79) rfl ?_); refine store_event (t := 3) (p := 79) (v := ?vo_w46) (w1 := (wr.setCell ⟨go43, (x66_4 : Int).toNat, none⟩ (.int .i64 (wrap64 ((rd x11_4 x66_4) + (wrap64 ((rd x10_2 x56_3) * (rd (rd_L1 t278 x56_3) x66_4)))))))) ?hg ?ho ?hn ?hr ?_; (case ho => rfl); (case hg => rfl); (case hn => rfl); (case hr => first | (go_simp; done) | (go_simp; rfl)); intro w46 hw; have hg : wr.grownBy w46 (some go43) := (by rw [hw]; exact HP45.2); have hp_ : Kd.R (Kd.int .i64) 3 w46 w.heap.size (fun k_ => some k_ ≠ (.slice (some ad292) x10_2.length co32 : Value).ownBlock) (.slice (some ⟨go43, 0, none⟩) x11_4.length co44) y296 := (by rw [hw, Ny296.out]; exact HP45.1); clear HP45; have n0_ := Aside0.mk (Kd.S_after (v := (.slice (some ⟨go43, 0, none⟩) x11_4.length co44)) (v1 := (.slice (some ⟨go43, 0, none⟩) x11_4.length co44)) (ok := (fun k_ => some k_ ≠ (.slice (some ad292) x10_2.length co32 : Value).ownBlock)) (by (with_reducible repeat (first | apply Kd.S_alloc | apply Kd.S_drewN | apply Kd.S_drew)); exact Kd.S_mono HO_8.out (fun _ hk => ⟨hk.2, hk.1⟩)) hg (.inl rfl)); have n1_ := Aside0.mk (hp_); have nR_ := Aside0.mk (Kd.R_after (v := (.slice (some ⟨go43, 0, none⟩) x11_4.length co44)) (v1 := (.slice (some ⟨go43, 0, none⟩) x11_4.length co44)) (ok := (fun _ => True)) (by (with_reducible repeat (first | apply Kd.R_alloc | apply Kd.R_drewN | apply Kd.R_drew)); exact Kd.R_mono HO_R.out (fun _ hk => ⟨trivial, hk⟩)) hg (.inl rfl)); have n2_ := Aside0.mk (Kd.R_after (v := (.slice (some ⟨go43, 0, none⟩) x11_4.length co44)) (v1 := (.slice (some ⟨go43, 0, none⟩) x11_4.length co44)) (ok := (fun _ => True)) (by (with_reducible repeat (first | apply Kd.R_alloc | apply Kd.R_drewN | apply Kd.R_drew)); exact Kd.R_mono HO_54.out (fun _ hk => ⟨trivial, hk⟩)) hg (.inl rfl)); have n3_ := Aside0.mk (blk_grown (g := gb277) (o := .cells #[.slice A0_0 l0_0.length c0_0] 28 (0, 0)) (by (with_reducible repeat (first | refine blk_drewN ?_ _ | refine blk_drew ?_ | refine blk_alloc ?_ _)); exact BK277.out) hg (Kd.R_ne HO_11.out BK277.out (by decide))); have n4_ := Aside0.mk ((by rw [hw]; exact below_set (HB.out) GB43.out : Below w.heap.size w w46)); clear HO_8; clear HO_11; clear HO_54; clear HO_R; clear BK277; clear HB; have HO_8 := n0_; have HO_11 := n1_; have HO_R := nR_; have HO_54 := n2_; have BK277 := n3_; have HB := n4_; clear nR_ n0_ n1_ n2_ n3_ n4_; clear hg hw hp_))
                         go_roundg k4
                         case measure => have := HJ4.out; have := HK2.out; have := HK3.out; have := HK4.out; omega
                         case rel => exact ⟨(y296), (wrap64 (x66_4 + 1)), (by first | rfl | (simp; done) | (simp [*]; done)), H', ⟨by have := HJ4.out; have := HK2.out; have := HK3.out; have := HK4.out; omega⟩, ⟨by (with_reducible repeat (first | apply Kd.S_alloc | apply Kd.S_drewN | apply Kd.S_drew)); exact Kd.S_mono HO_8.out (fun _ hk => ⟨hk.2, hk.1⟩)⟩, ⟨by (with_reducible repeat (first | apply Kd.R_alloc | apply Kd.R_drewN | apply Kd.R_drew)); exact HO_11.out⟩, ⟨by (with_reducible repeat (first | apply Kd.R_alloc | apply Kd.R_drewN | apply Kd.R_drew)); exact Kd.R_mono HO_54.out (fun _ hk => hk.2)⟩, ⟨by (with_reducible repeat (first | apply Kd.R_alloc | apply Kd.R_drewN | apply Kd.R_drew)); exact Kd.R_mono HO_R.out (fun _ hk => hk.2)⟩, ⟨by (with_reducible repeat (first | refine blk_drewN ?_ _ | refine blk_drew ?_ | refine blk_alloc ?_ _)); exact BK277.out⟩, ⟨by repeat (first | (with_reducible first | exact HB.out | apply below_alloc | apply pw_below_drewN | apply below_drew1 | refine below_set ?_ GE277.out) | exact HB.out)⟩⟩
                        ·rw [if_neg c42] at H
                         exact absurd H (by simp)
                       ·rw [if_neg c41] at H
                        exact absurd H (by simp)
                      ·rw [if_neg c40] at H
                       exact absurd H (by simp)
                     ·rw [if_neg c39] at H
                      have c39b0 : decide (x66_4 < ((rd_L1 t278 x56_3).length : Int)) = false := decide_eq_false c39
                      clear c39
                      have H' := Aside0.mk H
                      clear H
                      go_wp2
                      go_roundg k4
                      case measure => have := HJ4.out; have := HK2.out; have := HK3.out; have := HK4.out; omega
                      case rel => exact ⟨(x11_4), (wrap64 (x56_3 + 1)), (by first | rfl | (simp; done) | (simp [*]; done)), H', ⟨by have := HJ4.out; have := HK2.out; have := HK3.out; have := HK4.out; omega⟩, ⟨by (with_reducible repeat (first | apply Kd.S_alloc | apply Kd.S_drewN | apply Kd.S_drew)); exact HO_8.out⟩, ⟨by (with_reducible repeat (first | apply Kd.R_alloc | apply Kd.R_drewN | apply Kd.R_drew)); exact HO_11.out⟩, ⟨by (with_reducible repeat (first | apply Kd.R_alloc | apply Kd.R_drewN | apply Kd.R_drew)); exact HO_54.out⟩, ⟨by (with_reducible repeat (first | refine blk_drewN ?_ _ | refine blk_drew ?_ | refine blk_alloc ?_ _)); exact BK277.out⟩, ⟨by repeat (first | (with_reducible first | exact HB.out | apply below_alloc | apply pw_below_drewN | apply below_drew1 | refine below_set ?_ GE277.out) | exact HB.out)⟩⟩
                  ·rw [if_neg c38] at H
                   exact absurd H (by simp)
                 ·rw [if_neg c37] at H
                  exact absurd H (by simp)
                ·rw [if_neg c36] at H
                 exact absurd H (by simp)
               ·rw [if_neg c35] at H
                have c35b0 : decide (x56_3 < (x10_2.length : Int)) = false := decide_eq_false c35
                clear c35
                have H' := Aside0.mk H
                clear H
                go_wp2
                go_roundg k3
                case measure => have := HJ4.out; have := HK2.out; have := HK3.out; omega
                case rel => exact ⟨(x11_3), (wrap64 (x49_2 + 1)), (by first | rfl | (simp; done) | (simp [*]; done)), H', ⟨by have := HJ4.out; have := HK2.out; have := HK3.out; omega⟩, ⟨by (with_reducible repeat (first | apply Kd.S_alloc | apply Kd.S_drewN | apply Kd.S_drew)); exact Kd.S_mono HO_8.out (fun _ hk => hk.1)⟩, ⟨by (with_reducible repeat (first | apply Kd.R_alloc | apply Kd.R_drewN | apply Kd.R_drew)); exact Kd.R_mono HO_11.out (fun _ hk => trivial)⟩, ⟨by (with_reducible repeat (first | refine blk_drewN ?_ _ | refine blk_drew ?_ | refine blk_alloc ?_ _)); exact BK277.out⟩, ⟨by repeat (first | (with_reducible first | exact HB.out | apply below_alloc | apply pw_below_drewN | apply below_drew1 | refine below_set ?_ GE277.out) | exact HB.out)⟩⟩
            ·rw [if_neg c31] at H
             exact absurd H (by simp)
           ·rw [if_neg c30] at H
            exact absurd H (by simp)
          ·rw [if_neg c29] at H
           have c29b0 : decide (x49_2 < a2) = false := decide_eq_false c29
           clear c29
           simp only [Option.some.injEq, Prod.mk.injEq] at H
           obtain ⟨rfl, rfl⟩ := H
           go_wp2
           go_ret2
           exact ⟨_, by first | rfl | (simp [errW_none, errW_some] <;> rfl) | (simp [*, errW_none, errW_some] <;> rfl), by (with_reducible repeat (first | apply Kd.R_alloc | apply Kd.R_drewN | apply Kd.R_drew)); exact HO_10.out, by repeat (first | (with_reducible first | exact HB.out | apply below_alloc | apply pw_below_drewN | apply below_drew1 | refine below_set ?_ GE277.out) | exact HB.out)⟩
       ·rw [if_neg c22] at H
        exact absurd H (by simp)
      ·rw [if_neg c21] at H
       exact absurd H (by simp)
     ·rw [if_neg c20] at H
      exact absurd H (by simp)
    ·rw [if_neg c19] at H
     exact absurd H (by simp)

end Go.Proofs.Ytooamcjgejajeaa.M
/- How many of each letter there are after some steps: program and reference tell the same. No condition but lengths that fit. -/
namespace Go.Proofs.Ytooamcjgejajeaa.M
open Go.RowKit Go.Proofs.YtooamcjgejajeaaW.PrintWords Go.Proofs.Ytooamcjgejajeaa.K
set_option linter.unusedVariables false
/-- What has been added up in place y when x rows are done. -/
def acc (t : List (List Int)) (r : List Int) : Nat → Nat → Int
  | 0, _ => 0
  | x + 1, y => wrap64 (acc t r x y + wrap64 (rd r (x : Int) * rd (rd_L1 t (x : Int)) (y : Int)))
def stp (t : List (List Int)) (r : List Int) : List Int := row t.length (acc t r t.length)
def its (t : List (List Int)) : Nat → List Int → List Int
  | 0, r => r
  | n + 1, r => its t n (stp t r)
theorem stp_len (t : List (List Int)) (r : List Int) : (stp t r).length = t.length := row_length _ _
theorem its_len (t : List (List Int)) : ∀ n (r : List Int), r.length = t.length → (its t n r).length = t.length
  | 0, r, h => h
  | n + 1, r, h => its_len t n _ (stp_len t r)
def unit1 (L : Nat) (a : Int) : List Int := (List.replicate L 0).set a.toNat 1
def la (ms : List (List Int)) (a n : Int) : List Int × Bool := if mo ms = true ∧ (0 ≤ a ∧ a < ((inc ms).length : Int)) ∧ 0 ≤ n ∧ n ≤ 12 then (its (inc ms) n.toNat (unit1 (inc ms).length a), true) else ([], false)

/-- A part of a round: places below y hold what they hold behind the row x. -/
def mid (t : List (List Int)) (r : List Int) (x y : Nat) : List Int := row t.length fun z => if z < y then acc t r (x + 1) z else acc t r x z
theorem mid_zero (t : List (List Int)) (r : List Int) (x : Nat) : mid t r x 0 = row t.length (acc t r x) := row_congr _ _ _ (fun z _ => by simp)
theorem mid_full (t : List (List Int)) (r : List Int) (x : Nat) : mid t r x t.length = row t.length (acc t r (x + 1)) := row_congr _ _ _ (fun z h => by simp [h])
theorem mid_len (t : List (List Int)) (r : List Int) (x y : Nat) : (mid t r x y).length = t.length := row_length _ _
theorem mid_set (t : List (List Int)) (r : List Int) (x y : Nat) (h : y < t.length) :
    (mid t r x y).set ((y : Int) : Int).toNat (wrap64 (rd (mid t r x y) (y : Int) + wrap64 (rd r (x : Int) * rd (rd_L1 t (x : Int)) (y : Int)))) = mid t r x (y + 1) := by
  unfold mid
  rw [Int.toNat_natCast, rd_row _ _ _ h, row_set]
  refine row_congr _ _ _ (fun z hz => ?_)
  rw [_root_.if_neg (Nat.lt_irrefl y)]
  by_cases e : z = y
  · subst e
    rw [_root_.if_pos rfl, _root_.if_pos (by omega)]; rfl
  · rw [_root_.if_neg e]
    by_cases q : z < y
    · rw [_root_.if_pos q, _root_.if_pos (by omega)]
    · rw [_root_.if_neg q, _root_.if_neg (by omega)]

theorem specLA_loop (t : List (List Int)) (n : Nat) (hn : n ≤ 1000) (hL : t.length ≤ 1000) (hT : ∀ i : Nat, i < t.length → (rd_L1 t (i : Int)).length = t.length) :
    ∀ i, i ≤ n → ∀ r : List Int, r.length = t.length → Ev (fun k => spec_LettersAfter.l0 k (n : Int) t r (i : Int)) (its t (n - i) r, true) := by
  have l2 : ∀ (i x : Nat) (r : List Int) (R : List Int × Bool), x < t.length → r.length = t.length → Ev (fun k => spec_LettersAfter.l1 k (n : Int) t r (i : Int) (mid t r x t.length) ((x + 1 : Nat) : Int)) R →
      ∀ y, y ≤ t.length → Ev (fun k => spec_LettersAfter.l2 k (n : Int) t r (i : Int) (mid t r x y) (x : Int) (y : Int)) R := by
    intro i x r R hx hr h0
    refine down t.length ?_ ?_
    · refine Ev.step (fun k => by simp only [spec_LettersAfter.l2]; rw [_root_.if_neg (by omega), wsucc (by omega)]) h0
    · intro y hy ih
      refine Ev.step (fun k => by
        simp only [spec_LettersAfter.l2]
        rw [_root_.if_pos (by omega), _root_.if_pos (by omega), _root_.if_pos (by rw [mid_len]; omega), _root_.if_pos (by omega), _root_.if_pos (by omega), _root_.if_pos (by omega), _root_.if_pos (by rw [hT x hx]; omega), mid_set t r x y hy, wsucc (by omega)]) ih
  have l1 : ∀ (i : Nat) (r : List Int) (R : List Int × Bool), i < n → r.length = t.length → Ev (fun k => spec_LettersAfter.l0 k (n : Int) t (stp t r) ((i + 1 : Nat) : Int)) R →
      ∀ x, x ≤ t.length → Ev (fun k => spec_LettersAfter.l1 k (n : Int) t r (i : Int) (row t.length (acc t r x)) (x : Int)) R := by
    intro i r R hi hr h0
    refine down t.length ?_ ?_
    · refine Ev.step (fun k => by simp only [spec_LettersAfter.l1]; rw [_root_.if_neg (by omega), wsucc (by omega)]; rfl) h0
    · intro x hx ih
      refine Ev.step (fun k => by simp only [spec_LettersAfter.l1]; rw [_root_.if_pos (by omega)]) ?_
      rw [← mid_zero]
      rw [← mid_full] at ih
      exact l2 i x r R hx hr ih 0 (by omega)
  refine down n ?_ ?_
  · intro r hr
    refine Ev.step (fun k => by simp only [spec_LettersAfter.l0]; rw [_root_.if_neg (by omega)]) ?_
    rw [Nat.sub_self]; exact Ev.some _
  · intro i hi ih r hr
    refine Ev.step (fun k => by simp only [spec_LettersAfter.l0]; rw [_root_.if_pos (by omega), _root_.if_pos (by omega), _root_.if_pos (by omega), Int.toNat_natCast, row_replicate]) ?_
    have := ih (stp t r) (stp_len t r)
    rw [show n - i = (n - (i + 1)) + 1 from by omega]
    exact l1 i r _ hi hr this 0 (by omega)

theorem implLA_loop (t : List (List Int)) (n : Nat) (hn : n ≤ 1000) (hL : t.length ≤ 1000) (hT : ∀ i : Nat, i < t.length → (rd_L1 t (i : Int)).length = t.length) :
    ∀ i, i ≤ n → ∀ r : List Int, r.length = t.length → Ev (fun k => impl_LettersAfter.l0 k t r (n : Int) (i : Int)) (its t (n - i) r, true) := by
  have l2 : ∀ (i x : Nat) (r : List Int) (R : List Int × Bool), x < t.length → r.length = t.length → Ev (fun k => impl_LettersAfter.l1 k t (mid t r x t.length) (n : Int) (i : Int) r (r.length : Int) ((x + 1 : Nat) : Int)) R →
      ∀ y, y ≤ t.length → Ev (fun k => impl_LettersAfter.l2 k t (mid t r x y) (rd r (x : Int)) (n : Int) (i : Int) r (r.length : Int) (x : Int) (rd_L1 t (x : Int)) ((rd_L1 t (x : Int)).length : Int) (y : Int)) R := by
    intro i x r R hx hr h0
    refine down t.length ?_ ?_
    · refine Ev.step (fun k => by simp only [impl_LettersAfter.l2]; rw [_root_.if_neg (by rw [hT x hx]; omega), wsucc (by omega)]) h0
    · intro y hy ih
      refine Ev.step (fun k => by
        simp only [impl_LettersAfter.l2]
        rw [_root_.if_pos (by rw [hT x hx]; omega), _root_.if_pos (by omega), _root_.if_pos (by rw [hT x hx]; omega), _root_.if_pos (by rw [mid_len]; omega), mid_set t r x y hy, wsucc (by omega)]) ih
  have l1 : ∀ (i : Nat) (r : List Int) (R : List Int × Bool), i < n → r.length = t.length → Ev (fun k => impl_LettersAfter.l0 k t (stp t r) (n : Int) ((i + 1 : Nat) : Int)) R →
      ∀ x, x ≤ t.length → Ev (fun k => impl_LettersAfter.l1 k t (row t.length (acc t r x)) (n : Int) (i : Int) r (r.length : Int) (x : Int)) R := by
    intro i r R hi hr h0
    refine down t.length ?_ ?_
    · refine Ev.step (fun k => by simp only [impl_LettersAfter.l1]; rw [_root_.if_neg (by omega), wsucc (by omega)]; rfl) h0
    · intro x hx ih
      refine Ev.step (fun k => by simp only [impl_LettersAfter.l1]; rw [_root_.if_pos (by omega), _root_.if_pos (by omega), _root_.if_pos (by omega), _root_.if_pos (by omega)]) ?_
      rw [← mid_zero]
      rw [← mid_full] at ih
      exact l2 i x r R hx hr ih 0 (by omega)
  refine down n ?_ ?_
  · intro r hr
    refine Ev.step (fun k => by simp only [impl_LettersAfter.l0]; rw [_root_.if_neg (by omega)]) ?_
    rw [Nat.sub_self]; exact Ev.some _
  · intro i hi ih r hr
    refine Ev.step (fun k => by simp only [impl_LettersAfter.l0]; rw [_root_.if_pos (by omega), _root_.if_pos (by omega), _root_.if_pos (by omega), Int.toNat_natCast, row_replicate, hr]) ?_
    have := ih (stp t r) (stp_len t r)
    rw [show n - i = (n - (i + 1)) + 1 from by omega]
    have := l1 i r _ hi hr this 0 (by omega)
    rw [hr] at this
    exact this

theorem inc_rows (ms : List (List Int)) : ∀ i : Nat, i < (inc ms).length → (rd_L1 (inc ms) (i : Int)).length = (inc ms).length := by
  intro i hi
  rw [rdLL _ i hi]
  have h1 := (inc_len ms).2 _ (List.getElem_mem hi)
  have h2 : (inc ms).length = ms.length := by
    unfold inc at hi ⊢
    split
    · rw [List.length_map]
    · rename_i q; rw [_root_.if_neg q] at hi; simp at hi
  rw [h1.1, h2]

theorem specLA_ev (ms : List (List Int)) (a1 a2 : Int) (h : ms.length ≤ 1048576) (ht : total ms ≤ 1048576) : Ev (fun k => spec_LettersAfter.f k ms a1 a2) (la ms a1 a2) := by
  have hi := specInc_ev ms h ht
  have hT := inc_rows ms
  have hl := (inc_len ms).1
  unfold spec_LettersAfter.f la
  refine Ev.bind hi ?_
  generalize inc ms = t at hT hl
  dsimp only
  have bad : ¬ (mo ms = true ∧ (0 ≤ a1 ∧ a1 < (t.length : Int)) ∧ 0 ≤ a2 ∧ a2 ≤ 12) → Ev (fun k => spec_LettersAfter.j0 k a1 a2 t true) (if mo ms = true ∧ (0 ≤ a1 ∧ a1 < (t.length : Int)) ∧ 0 ≤ a2 ∧ a2 ≤ 12 then (its t a2.toNat (unit1 t.length a1), true) else ([], false)) := fun q => by
    rw [_root_.if_neg q]
    refine Ev.step (fun k => by simp only [spec_LettersAfter.j0]; rw [_root_.if_pos trivial]) ?_
    exact Ev.some _
  refine Ev.ite (fun q1 => ?_) (fun q1 => bad (fun h => q1 h.1))
  refine Ev.ite (fun q2 => bad (fun h => by omega)) (fun q2 => ?_)
  refine Ev.ite (fun q3 => bad (fun h => by omega)) (fun q3 => ?_)
  refine Ev.bind (Ev.val (l1In_val _ _ _)) ?_
  by_cases q4 : 0 ≤ a2 ∧ a2 ≤ 12
  · rw [decide_eq_true q4, _root_.if_pos ⟨q1, ⟨by omega, by omega⟩, q4⟩]
    obtain ⟨n, rfl⟩ : ∃ n : Nat, a2 = (n : Int) := ⟨a2.toNat, by omega⟩
    refine Ev.step (fun k => by simp only [spec_LettersAfter.j0]; rw [_root_.if_neg (by simp), _root_.if_pos (by omega), _root_.if_pos (by omega), Int.toNat_natCast]) ?_
    refine Ev.bind (Ev.some _) (Ev.if_pos (by omega) (Ev.if_pos (by rw [List.length_replicate]; omega) ?_))
    have := specLA_loop t n (by omega) (by omega) hT 0 (by omega) (unit1 t.length a1) (by unfold unit1; rw [List.length_set, List.length_replicate])
    rw [Nat.sub_zero] at this
    rw [Int.toNat_natCast]
    exact this
  · rw [decide_eq_false q4]; exact bad (fun h => q4 h.2.2)

theorem implLA_ev (ms : List (List Int)) (a1 a2 : Int) (h : ms.length ≤ 1048576) (ht : total ms ≤ 1048576) : Ev (fun k => impl_LettersAfter.f k ms a1 a2) (la ms a1 a2) := by
  have hi := implInc_ev ms h ht
  have hT := inc_rows ms
  have hl := (inc_len ms).1
  unfold impl_LettersAfter.f la
  refine Ev.bind hi ?_
  generalize inc ms = t at hT hl
  dsimp only
  have bad : ¬ (mo ms = true ∧ (0 ≤ a1 ∧ a1 < (t.length : Int)) ∧ 0 ≤ a2 ∧ a2 ≤ 12) → Ev (fun k => impl_LettersAfter.j0 k a1 a2 t true) (if mo ms = true ∧ (0 ≤ a1 ∧ a1 < (t.length : Int)) ∧ 0 ≤ a2 ∧ a2 ≤ 12 then (its t a2.toNat (unit1 t.length a1), true) else ([], false)) := fun q => by
    rw [_root_.if_neg q]
    refine Ev.step (fun k => by simp only [impl_LettersAfter.j0]; rw [_root_.if_pos trivial]) ?_
    exact Ev.some _
  refine Ev.ite (fun q1 => ?_) (fun q1 => bad (fun h => q1 h.1))
  refine Ev.ite (fun q2 => bad (fun h => by omega)) (fun q2 => ?_)
  refine Ev.ite (fun q3 => bad (fun h => by omega)) (fun q3 => ?_)
  refine Ev.ite (fun q4 => bad (fun h => by omega)) (fun q4 => ?_)
  by_cases q5 : a2 > 12
  · rw [decide_eq_true q5]; exact bad (fun h => by omega)
  · rw [decide_eq_false q5, _root_.if_pos ⟨q1, ⟨by omega, by omega⟩, by omega, by omega⟩]
    obtain ⟨n, rfl⟩ : ∃ n : Nat, a2 = (n : Int) := ⟨a2.toNat, by omega⟩
    refine Ev.step (fun k => by simp only [impl_LettersAfter.j0]; rw [_root_.if_neg (by simp), _root_.if_pos (by omega), _root_.if_pos (by omega), Int.toNat_natCast]) ?_
    refine Ev.bind (Ev.some _) (Ev.if_pos (by omega) (Ev.if_pos (by rw [List.length_replicate]; omega) ?_))
    have := implLA_loop t n (by omega) (by omega) hT 0 (by omega) (unit1 t.length a1) (by unfold unit1; rw [List.length_set, List.length_replicate])
    rw [Nat.sub_zero] at this
    rw [Int.toNat_natCast]
    exact this
theorem la_len (ms : List (List Int)) (a n : Int) : (la ms a n).1.length ≤ 16 := by
  unfold la
  split
  · have := (inc_len ms).1
    rw [its_len _ _ _ (by unfold unit1; rw [List.length_set, List.length_replicate])]; exact this
  · simp
end Go.Proofs.Ytooamcjgejajeaa.M
