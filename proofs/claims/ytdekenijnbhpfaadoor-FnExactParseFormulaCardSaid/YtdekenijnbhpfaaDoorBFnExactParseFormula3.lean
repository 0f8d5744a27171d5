/- Texts of the claim on FnExactParseFormula, joined (part 3 of 7): walks of the functions, what they come to, and in the last part the row. No condition of mine. -/
import Derived.Test.YtdekenijnbhpfaaDoorBFnExactParseFormula0
import Derived.Test.YtdekenijnbhpfaaDoorBFnExactParseFormula1
import Derived.Test.YtdekenijnbhpfaaDoorBFnExactParseFormula2
import Derived.Lib.AtoiBound
import Derived.Lib.IndexLaws
namespace Go.Proofs.YtdekenijnbhpfaaDoor.M
open Go.RowKit Go.Proofs.YtdekenijnbhpfaaDoorW.PrintWords Go.Proofs.YtdekenijnbhpfaaDoorW.PrintLast Go.Proofs.YtdekenijnbhpfaaDoorW.PrintMore
attribute [local go_sem] max2_int min2_int max_two min_two max_three min_three max_four min_four
set_option linter.unusedVariables false
set_option linter.unusedSimpArgs false
theorem nn_ {x : Int} (h : decide (x < 0) = false) : 0 ≤ x := Int.not_lt.mp (of_decide_eq_false h)
mutual
def spec_l16Read.j0 : Nat → ByteArray → Int → List (S75) → Bool → Option ((List (S75)) × Int)
 | 0, _, _, _, _ => none
 | k + 1, x0, x1, x2, x31 => if x31 = true then (some (([] : List (S75)), (-1))) else (if 0 ≤ x1 then (if x1 < (x0.size : Int) then (if (bt x0 x1) = 61 then (spec_l16Read.j1 k x0 x1 x2 (bt x0 x1) ((bt x0 x1) == 61)) else (spec_l16Read.j1 k x0 x1 x2 (bt x0 x1) ((bt x0 x1) == 60))) else (none)) else (none))
def spec_l16Read.j1 : Nat → ByteArray → Int → List (S75) → Int → Bool → Option ((List (S75)) × Int)
 | 0, _, _, _, _, _ => none
 | k + 1, x0, x1, x2, x35, x36 => if x36 = true then (if 0 ≤ x1 then (if x1 < (x0.size : Int) then (if (bt x0 x1) = 60 then ((spec_l16Digit.f x0 (wrap64 (x1 + 1))).bind fun t176 => ((spec_l16Digit.f x0 (wrap64 (x1 + 2))).bind fun t177 => (if x2.length < 4398046511104 then (some ((x2 ++ [(⟨2, t176, t177, 0⟩ : S75)]), wrap64 (x1 + 3))) else (none)))) else ((spec_l16Digit.f x0 (wrap64 (x1 + 1))).bind fun t181 => ((spec_l16Digit.f x0 (wrap64 (x1 + 2))).bind fun t182 => (if x2.length < 4398046511104 then (some ((x2 ++ [(⟨1, t181, t182, 0⟩ : S75)]), wrap64 (x1 + 3))) else (none))))) else (none)) else (none)) else (if x35 = 43 then ((spec_l16Digit.f x0 (wrap64 (x1 + 1))).bind fun t186 => ((spec_l16Digit.f x0 (wrap64 (x1 + 2))).bind fun t187 => ((spec_l16Digit.f x0 (wrap64 (x1 + 3))).bind fun t188 => (if x2.length < 4398046511104 then (some ((x2 ++ [(⟨3, t186, t187, t188⟩ : S75)]), wrap64 (x1 + 4))) else (none))))) else (if x35 = 83 then ((spec_l16Digit.f x0 (wrap64 (x1 + 1))).bind fun t192 => ((spec_l16Digit.f x0 (wrap64 (x1 + 2))).bind fun t193 => (if x2.length < 4398046511104 then (some ((x2 ++ [(⟨5, t192, t193, 0⟩ : S75)]), wrap64 (x1 + 3))) else (none)))) else (if x35 = 35 then (spec_l16Read.l0 k x0 x1 x2 (wrap64 (x1 + 2))) else (if x35 = 33 then ((spec_l16Read.f k x0 (wrap64 (x1 + 1)) x2).bind fun bt204 => (if bt204.2 < 0 then (some (([] : List (S75)), (-1))) else (if bt204.1.length < 4398046511104 then (some ((bt204.1 ++ [(⟨6, wrap64 ((bt204.1.length : Int) - 1), 0, 0⟩ : S75)]), bt204.2)) else (none)))) else (if x35 = 38 then (spec_l16Read.j4 k x0 x1 x2 x35 (x35 == 38)) else (spec_l16Read.j4 k x0 x1 x2 x35 (x35 == 124)))))))
def spec_l16Read.j3 : Nat → ByteArray → Int → List (S75) → Int → Option ((List (S75)) × Int)
 | 0, _, _, _, _ => none
 | k + 1, x0, x1, x2, x9 => if 0 ≤ (mn (x0.size : Int) (wrap64 (x1 + 2))) then (if (mn (x0.size : Int) (wrap64 (x1 + 2))) ≤ (mn (x0.size : Int) x9) then (if (mn (x0.size : Int) x9) ≤ (x0.size : Int) then ((spec_ParseInt.f k (x0.extract ((mn (x0.size : Int) (wrap64 (x1 + 2))) : Int).toNat ((mn (x0.size : Int) x9) : Int).toNat)).bind fun bt198 => (if bt198.2 = true then ((spec_l16Digit.f x0 (wrap64 (x1 + 1))).bind fun t200 => (if x2.length < 4398046511104 then (some ((x2 ++ [(⟨4, t200, bt198.1, 0⟩ : S75)]), wrap64 (x9 + 1))) else (none))) else (some (([] : List (S75)), (-1))))) else (none)) else (none)) else (none)
def spec_l16Read.l0 : Nat → ByteArray → Int → List (S75) → Int → Option ((List (S75)) × Int)
 | 0, _, _, _, _ => none
 | k + 1, x0, x1, x2, x9 => (spec_l16Digit.f x0 x9).bind fun t197 => (if t197 ≥ 0 then (if x9 < (wrap64 (x1 + 6)) then (spec_l16Read.l0 k x0 x1 x2 (wrap64 (x9 + 1))) else (spec_l16Read.j3 k x0 x1 x2 x9)) else (spec_l16Read.j3 k x0 x1 x2 x9))
def spec_l16Read.j4 : Nat → ByteArray → Int → List (S75) → Int → Bool → Option ((List (S75)) × Int)
 | 0, _, _, _, _, _ => none
 | k + 1, x0, x1, x2, x35, x160 => if x160 = true then (if 0 ≤ x1 then (if x1 < (x0.size : Int) then (if (bt x0 x1) = 124 then (spec_l16Read.j5 k x0 x1 x2 8) else (spec_l16Read.j5 k x0 x1 x2 7)) else (none)) else (none)) else (if x35 = 69 then (spec_l16Read.j6 k x0 x1 x2 (x35 == 69)) else (spec_l16Read.j6 k x0 x1 x2 (x35 == 65)))
def spec_l16Read.j5 : Nat → ByteArray → Int → List (S75) → Int → Option ((List (S75)) × Int)
 | 0, _, _, _, _ => none
 | k + 1, x0, x1, x2, x14 => (spec_l16Read.f k x0 (wrap64 (x1 + 1)) x2).bind fun bt211 => (if bt211.2 < 0 then (some (([] : List (S75)), (-1))) else ((spec_l16Read.f k x0 bt211.2 bt211.1).bind fun bt215 => (if bt215.2 < 0 then (some (([] : List (S75)), (-1))) else (if bt215.1.length < 4398046511104 then (some ((bt215.1 ++ [(⟨x14, wrap64 ((bt211.1.length : Int) - 1), wrap64 ((bt215.1.length : Int) - 1), 0⟩ : S75)]), bt215.2)) else (none)))))
def spec_l16Read.j6 : Nat → ByteArray → Int → List (S75) → Bool → Option ((List (S75)) × Int)
 | 0, _, _, _, _ => none
 | k + 1, x0, x1, x2, x201 => if x201 = true then (if 0 ≤ x1 then (if x1 < (x0.size : Int) then (if (bt x0 x1) = 65 then (spec_l16Read.j7 k x0 x1 x2 10) else (spec_l16Read.j7 k x0 x1 x2 9)) else (none)) else (none)) else (some (([] : List (S75)), (-1)))
def spec_l16Read.j7 : Nat → ByteArray → Int → List (S75) → Int → Option ((List (S75)) × Int)
 | 0, _, _, _, _ => none
 | k + 1, x0, x1, x2, x20 => (spec_l16Read.f k x0 (wrap64 (x1 + 2)) x2).bind fun bt222 => (if bt222.2 < 0 then (some (([] : List (S75)), (-1))) else ((spec_l16Digit.f x0 (wrap64 (x1 + 1))).bind fun t226 => (if bt222.1.length < 4398046511104 then (some ((bt222.1 ++ [(⟨x20, t226, wrap64 ((bt222.1.length : Int) - 1), 0⟩ : S75)]), bt222.2)) else (none))))
def spec_l16Read.f : Nat → ByteArray → Int → List (S75) → Option ((List (S75)) × Int)
 | 0, _, _, _ => none
 | k + 1, a0, a1, l2 => if a1 ≥ (a0.size : Int) then (spec_l16Read.j0 k a0 a1 l2 true) else (spec_l16Read.j0 k a0 a1 l2 (decide ((l2.length : Int) > 40)))
end
set_option maxHeartbeats 8000000 in
set_option maxRecDepth 100000 in
theorem spec_l16Read.calls (k : Nat) : ∀ (a0 : ByteArray) (a1 : Int) (P2_ : Nat → Prop) (u9000_ : Value) (l2 : List (S75)) (r1 : List (S75)) (r2 : Int) (w0 w : World) (hB : Below w0.heap.size w0 w) (ho2 : Kd.R k75 75 w w0.heap.size P2_ u9000_ l2) (h : spec_l16Read.f k a0 a1 l2 = some (r1, r2)),
  Calls Tryd.prog 55 #[.string a0, .int .i64 a1, u9000_] w fun e w' => ∃ v0_ vx_ : Value, e = .returned (.tuple #[vx_, .int .i64 r2]) ∧ Kd.R k75 75 w' w0.heap.size (fun k_ => (P2_ k_ ∨ w.heap.size ≤ k_)) v0_ r1 ∧ (0 ≤ r2 → vx_ = v0_) ∧ Below w0.heap.size w0 w' ∧ Kept w w' (fun k_ => P2_ k_) := by
 induction k using Nat.strongRecOn with
 | _ k ih =>
 intro a0 a1 P2_ u9000_ l2 r1 r2 w0 w hB ho2 h; cases k with
 | zero => exact absurd h (by simp [spec_l16Read.f])
 | succ k =>
 simp only [spec_l16Read.f] at h; have hu75 := Tryd.underlying75; have HO2 := Aside0.mk (show Kd.R k75 75 w w0.heap.size (fun k_ => (P2_ k_ ∨ w.heap.size ≤ k_)) u9000_ l2 from Kd.R_mono ho2 (fun k_ hk => (.inl hk))); have HK := Aside0.mk (Kept.refl w (fun k_ => P2_ k_)); have HW0 := Aside0.mk hB.size; have HB := Aside0.mk hB; clear hB; have H : (if a1 ≥ (a0.size : Int) then (spec_l16Read.j0 k a0 a1 l2 true) else (spec_l16Read.j0 k a0 a1 l2 (decide ((l2.length : Int) > 40)))) = some (r1, r2) := h; clear h; have HC4 := Aside0.mk H; clear H; go_enter Tryd.func55, Tryd.ntmps55; go_upto_region 1 with (fail); go_cut [31] (fun v31 wc => ∃ (kq : Nat) (x31_3 : Bool), v31 = .bool x31_3 ∧ Aside0 (spec_l16Read.j0 kq a0 a1 l2 x31_3 = some (r1, r2)) ∧ Aside0 (kq ≤ k) ∧ Aside0 (Kd.R k75 75 wc w0.heap.size (fun k_ => (P2_ k_ ∨ w.heap.size ≤ k_)) u9000_ l2) ∧ Aside0 (Kept w wc (fun k_ => P2_ k_)) ∧ Aside0 (Below w0.heap.size w0 wc))
 case first =>
  have H := HC4.out; clear HC4; by_cases c5 : a1 ≥ (a0.size : Int)
  ·rw [if_pos c5] at H; have c5b0 : decide ((a0.size : Int) ≤ a1) = true := decide_eq_true c5; clear c5
   (first | rw [c5b0] | (simp only [i64_w, i32_w]; rw [c5b0]) | skip)
   as_aux_lemma =>
    have H' := Aside0.mk H; clear H; go_wp2; go_meet
    case rel => exact ⟨_, (true), (by first | rfl | (simp; done) | (simp [*]; done)), H', ⟨by first | omega | exact Nat.le_refl _⟩, ⟨by (with_reducible repeat (first | apply Kd.R_alloc | apply Kd.R_drewN | apply Kd.R_drew)); exact HO2.out⟩, ⟨by repeat (first | (with_reducible first | exact HK.out | apply Kept.alloc | apply Kept.drewN | apply Kept.drew) | exact HK.out)⟩, ⟨by repeat (first | (with_reducible first | exact HB.out | apply below_alloc | apply pw_below_drewN | apply below_drew1) | exact HB.out)⟩⟩
  ·rw [if_neg c5] at H; have c5b0 : decide ((a0.size : Int) ≤ a1) = false := decide_eq_false c5; clear c5
   (first | rw [c5b0] | (simp only [i64_w, i32_w]; rw [c5b0]) | skip)
   as_aux_lemma =>
    have H' := Aside0.mk H; clear H; obtain ⟨Ao6, co6, eo6⟩ := Kd.R_slice HO2.out; subst eo6; go_wp2; go_meet
    case rel => exact ⟨_, (decide ((l2.length : Int) > 40)), (by first | rfl | (simp; done) | (simp [*]; done)), H', ⟨by first | omega | exact Nat.le_refl _⟩, ⟨by (with_reducible repeat (first | apply Kd.R_alloc | apply Kd.R_drewN | apply Kd.R_drew)); exact HO2.out⟩, ⟨by repeat (first | (with_reducible first | exact HK.out | apply Kept.alloc | apply Kept.drewN | apply Kept.drew) | exact HK.out)⟩, ⟨by repeat (first | (with_reducible first | exact HB.out | apply below_alloc | apply pw_below_drewN | apply below_drew1) | exact HB.out)⟩⟩
 case rest =>
  clear HC4
  try clear p2
  try clear c5
  try clear c5b0
  obtain ⟨kq, x31_3, rfl, HA, HJ3, HO_2, HK, HB⟩ := hcut; cases kq with
  | zero => exact absurd HA.out (by simp [spec_l16Read.j0])
  | succ kj3 =>
   have H := HA.out; clear HA; simp only [spec_l16Read.j0] at H; by_cases c7 : x31_3 = true
   ·subst c7; have H1 : (some (([] : List (S75)), (-1))) = some (r1, r2) := by rw [if_pos rfl] at H; exact H
    clear H; have H := H1; clear H1
    as_aux_lemma =>
     simp only [Option.some.injEq, Prod.mk.injEq] at H; obtain ⟨rfl, rfl⟩ := H; go_wp2; go_ret2
     first | exact ⟨_, _, by first | rfl | (simp [errW_none, errW_some] <;> rfl) | (simp [*, errW_none, errW_some] <;> rfl), Kd.R_nil _ _ _ _ _, fun h_ => absurd h_ (by decide), by repeat (first | (with_reducible first | exact HB.out | apply below_alloc | apply pw_below_drewN | apply below_drew1) | exact HB.out), by repeat (first | (with_reducible first | exact HK.out | apply Kept.alloc | apply Kept.drewN | apply Kept.drew) | exact HK.out)⟩ | exact ⟨⟨_, Kd.R_nil _ _ _ _ _⟩, by repeat (first | (with_reducible first | exact HB.out | apply below_alloc | apply pw_below_drewN | apply below_drew1) | exact HB.out), by repeat (first | (with_reducible first | exact HK.out | apply Kept.alloc | apply Kept.drewN | apply Kept.drew) | exact HK.out)⟩ | exact ⟨⟨_, by first | rfl | (simp [errW_none, errW_some] <;> rfl) | (simp [*, errW_none, errW_some] <;> rfl)⟩, ⟨_, Kd.R_nil _ _ _ _ _⟩, by repeat (first | (with_reducible first | exact HB.out | apply below_alloc | apply pw_below_drewN | apply below_drew1) | exact HB.out), by repeat (first | (with_reducible first | exact HK.out | apply Kept.alloc | apply Kept.drewN | apply Kept.drew) | exact HK.out)⟩
   ·replace c7 := Bool.eq_false_iff.mpr c7; subst c7; have H1 : (if 0 ≤ a1 then (if a1 < (a0.size : Int) then (if (bt a0 a1) = 61 then (spec_l16Read.j1 kj3 a0 a1 l2 (bt a0 a1) ((bt a0 a1) == 61)) else (spec_l16Read.j1 kj3 a0 a1 l2 (bt a0 a1) ((bt a0 a1) == 60))) else (none)) else (none)) = some (r1, r2) := by rw [if_neg (show ¬ (false = true) by decide)] at H; exact H
    clear H; have H := H1; clear H1; by_cases c8 : 0 ≤ a1
    ·rw [if_pos c8] at H; have c8b0 : decide (0 ≤ a1) = true := decide_eq_true c8; clear c8; by_cases c9 : a1 < (a0.size : Int)
     ·rw [if_pos c9] at H; have c9b0 : decide (a1 < (a0.size : Int)) = true := decide_eq_true c9; clear c9; have HC11 := Aside0.mk H; clear H; have p10 : 0 ≤ (a1 : Int) := of_decide_eq_true (by first | (with_reducible assumption) | assumption); have q10 : a1 < (a0.size : Int) := of_decide_eq_true (by first | (with_reducible assumption) | assumption); have hx10 := bt_at a0 a1; replace p10 := eq_true p10; replace q10 := eq_true q10; go_upto_if 36 with (fail); go_cut [36] (fun v36 wc => ∃ (kq : Nat) (x36_10 : Bool), v36 = .bool x36_10 ∧ Aside0 (spec_l16Read.j1 kq a0 a1 l2 (bt a0 a1) x36_10 = some (r1, r2)) ∧ Aside0 (kq ≤ kj3) ∧ Aside0 (Kd.R k75 75 wc w0.heap.size (fun k_ => (P2_ k_ ∨ w.heap.size ≤ k_)) u9000_ l2) ∧ Aside0 (Kept w wc (fun k_ => P2_ k_)) ∧ Aside0 (Below w0.heap.size w0 wc))
      case first =>
       have H := HC11.out; clear HC11; by_cases c12 : (bt a0 a1) = 61
       ·rw [if_pos c12] at H; have c12b0 : ((bt a0 a1) == 61) = true := beq_iff_eq.mpr c12; have c12b1 : ((bt a0 a1) != 61) = false := bne_eq_false_iff_eq.mpr c12; clear c12
        (first | rw [c12b0] | (simp only [i64_w, i32_w]; rw [c12b0]) | skip)
        as_aux_lemma =>
         have H' := Aside0.mk H; clear H; go_wp2; go_meet
         case rel => exact ⟨_, (((bt a0 a1) == 61)), (by first | rfl | (simp; done) | (simp [*]; done)), H', ⟨by have := HJ3.out; first | omega | exact Nat.le_refl _⟩, ⟨by (with_reducible repeat (first | apply Kd.R_alloc | apply Kd.R_drewN | apply Kd.R_drew)); exact HO_2.out⟩, ⟨by repeat (first | (with_reducible first | exact HK.out | apply Kept.alloc | apply Kept.drewN | apply Kept.drew) | exact HK.out)⟩, ⟨by repeat (first | (with_reducible first | exact HB.out | apply below_alloc | apply pw_below_drewN | apply below_drew1) | exact HB.out)⟩⟩
       ·rw [if_neg c12] at H; have c12b0 : ((bt a0 a1) == 61) = false := beq_eq_false_iff_ne.mpr c12; have c12b1 : ((bt a0 a1) != 61) = true := bne_iff_ne.mpr c12
        (first | rw [c12b0] | (simp only [i64_w, i32_w]; rw [c12b0]) | skip)
        as_aux_lemma =>
         have H' := Aside0.mk H; clear H; go_wp2; go_meet
         case rel => exact ⟨_, (((bt a0 a1) == 60)), (by first | rfl | (simp; done) | (simp [*]; done)), H', ⟨by have := HJ3.out; first | omega | exact Nat.le_refl _⟩, ⟨by (with_reducible repeat (first | apply Kd.R_alloc | apply Kd.R_drewN | apply Kd.R_drew)); exact HO_2.out⟩, ⟨by repeat (first | (with_reducible first | exact HK.out | apply Kept.alloc | apply Kept.drewN | apply Kept.drew) | exact HK.out)⟩, ⟨by repeat (first | (with_reducible first | exact HB.out | apply below_alloc | apply pw_below_drewN | apply below_drew1) | exact HB.out)⟩⟩
      case rest =>
       clear HC11
       try clear c1
       try clear p1
       try clear q1
       try clear hx1
       try clear p2
       try clear c5
       try clear c5b0
       try clear c7
       try clear c8
       try clear c8b0
       try clear c9
       try clear c9b0
       try clear p10
       try clear q10
       try clear hx10
       try clear c12
       try clear c12b0
       try clear c12b1
       try clear p10
       try clear p2
       try clear q10
       obtain ⟨kq, x36_10, rfl, HA, HJ10, HO_2, HK, HB⟩ := hcut; cases kq with
       | zero => exact absurd HA.out (by simp [spec_l16Read.j1])
       | succ kj10 =>
        have H := HA.out; clear HA; simp only [spec_l16Read.j1] at H; by_cases c13 : x36_10 = true
        ·subst c13; have H1 : (if 0 ≤ a1 then (if a1 < (a0.size : Int) then (if (bt a0 a1) = 60 then ((spec_l16Digit.f a0 (wrap64 (a1 + 1))).bind fun t176 => ((spec_l16Digit.f a0 (wrap64 (a1 + 2))).bind fun t177 => (if l2.length < 4398046511104 then (some ((l2 ++ [(⟨2, t176, t177, 0⟩ : S75)]), wrap64 (a1 + 3))) else (none)))) else ((spec_l16Digit.f a0 (wrap64 (a1 + 1))).bind fun t181 => ((spec_l16Digit.f a0 (wrap64 (a1 + 2))).bind fun t182 => (if l2.length < 4398046511104 then (some ((l2 ++ [(⟨1, t181, t182, 0⟩ : S75)]), wrap64 (a1 + 3))) else (none))))) else (none)) else (none)) = some (r1, r2) := by rw [if_pos rfl] at H; exact H
         clear H; have H := H1; clear H1; by_cases c14 : 0 ≤ a1
         ·rw [if_pos c14] at H; have c14b0 : decide (0 ≤ a1) = true := decide_eq_true c14; clear c14; by_cases c15 : a1 < (a0.size : Int)
          ·rw [if_pos c15] at H; have c15b0 : decide (a1 < (a0.size : Int)) = true := decide_eq_true c15; clear c15; by_cases c17 : (bt a0 a1) = 60
           ·rw [if_pos c17] at H; have c17b0 : ((bt a0 a1) == 60) = true := beq_iff_eq.mpr c17; have c17b1 : ((bt a0 a1) != 60) = false := bne_eq_false_iff_eq.mpr c17; clear c17; replace H := Option.bind_eq_some_iff.mp H; obtain ⟨t176, A180, H⟩ := H; replace H : ((spec_l16Digit.f a0 (wrap64 (a1 + 2))).bind fun t177 => (if l2.length < 4398046511104 then (some ((l2 ++ [(⟨2, t176, t177, 0⟩ : S75)]), wrap64 (a1 + 3))) else (none))) = some (r1, r2) := H; have A18 := Aside0.mk A180; clear A180; replace H := Option.bind_eq_some_iff.mp H; obtain ⟨t177, A190, H⟩ := H; replace H : (if l2.length < 4398046511104 then (some ((l2 ++ [(⟨2, t176, t177, 0⟩ : S75)]), wrap64 (a1 + 3))) else (none)) = some (r1, r2) := H; have A19 := Aside0.mk A190; clear A190; by_cases c20 : l2.length < 4398046511104
            ·rw [if_pos c20] at H; have LMc20 := Aside0.mk c20; clear c20; obtain ⟨y178, hy178⟩ : ∃ y_ : List (S75), y_ = (l2 ++ [(⟨2, t176, t177, 0⟩ : S75)]) := ⟨_, rfl⟩; replace H : (some (y178, wrap64 (a1 + 3))) = some (r1, r2) := by first | (rw [hy178]; with_reducible exact H) | (have H2_ := (Option.bind_some _ _).symm.trans H; rw [hy178]; with_reducible exact H2_) | (have H2_ := (Option.bind_some _ _).symm.trans H; with_reducible exact H2_) | with_reducible exact H | (rw [hy178]; exact H) | exact H
             have Ny178 := Aside0.mk hy178; clear hy178
             as_aux_lemma =>
              simp only [Option.some.injEq, Prod.mk.injEq] at H; obtain ⟨rfl, rfl⟩ := H; have p16 : 0 ≤ (a1 : Int) := of_decide_eq_true (by first | (with_reducible assumption) | assumption); have q16 : a1 < (a0.size : Int) := of_decide_eq_true (by first | (with_reducible assumption) | assumption); have hx16 := bt_at a0 a1; replace p16 := eq_true p16; replace q16 := eq_true q16; go_wp2_with (first | ((with_reducible refine gate_callee (f := 107) rfl ?_); refine goesL_ (some 48) rfl rfl Tryd.func107 (by kernel_rfl) rfl #[.string a0, .int .i64 (wrap64 (a1 + 1))] rfl (by (try simp only [List.map_toArray, List.map_cons, List.map_nil]); first | done | rfl | (simp only [List.length_drop, List.length_take]; rfl)) ?_; (with_reducible refine (spec_l16Digit.calls a0 (wrap64 (a1 + 1)) t176 _ A18.out).mono ?_); rintro e w' ⟨rfl, ⟨nd, rfl⟩⟩; refine ⟨_, rfl, ?_⟩) | ((with_reducible refine gate_callee (f := 107) rfl ?_); refine goesL_ (some 52) rfl rfl Tryd.func107 (by kernel_rfl) rfl #[.string a0, .int .i64 (wrap64 (a1 + 2))] rfl (by (try simp only [List.map_toArray, List.map_cons, List.map_nil]); first | done | rfl | (simp only [List.length_drop, List.length_take]; rfl)) ?_; (with_reducible refine (spec_l16Digit.calls a0 (wrap64 (a1 + 2)) t177 _ A19.out).mono ?_); rintro e w' ⟨rfl, ⟨nd, rfl⟩⟩; refine ⟨_, rfl, ?_⟩) | ((with_reducible refine gate_builtin (b := .append) (xs := #[.tmp 43, .tmp 54]) rfl ?_); (try (refine gate_guard (by rfl) ?_; dsimp only)); at_builtin; refine Kd.R_append k75 (w0 := w0) w0.heap.size rfl (.tmp 43) (.tmp 54) 36 75 (.agg #[(.int .i64 0), (.int .i64 0), (.int .i64 0), (.int .i64 0)]) 32 rfl Tryd.underlying36 info75 rfl (by decide) (by omega) u9000_ l2 (⟨2, t176, t177, 0⟩ : S75) [.int .i64 2, .int .i64 t176, .int .i64 t177, .int .i64 0] (fun k_ => (P2_ k_ ∨ w.heap.size ≤ k_)) (fun _ => False) rfl rfl ?aP (fun _ hk => hk.elim) ?aF ?aO ?aB ?aS ?aL ?_; (case aP => exact k75_mkM _ _ _ (⟨2, t176, t177, 0⟩ : S75)); (case aB => exact (by repeat (first | (with_reducible first | exact HB.out | apply below_alloc | apply pw_below_drewN | apply below_drew1) | exact HB.out))); (case aF => exact (fun k_ hk => (.inr (Nat.le_trans (by first | exact HK.out.1 | exact (show Kept w _ (fun k_ => P2_ k_) from by repeat (first | (with_reducible first | exact HK.out | apply Kept.alloc | apply Kept.drewN | apply Kept.drew) | exact HK.out)).1) hk)))); (case aO => exact (by (with_reducible repeat (first | apply Kd.R_alloc | apply Kd.R_drewN | apply Kd.R_drew)); exact HO_2.out)); (case aS => exact (below_size (by repeat (first | (with_reducible first | exact HB.out | apply below_alloc | apply pw_below_drewN | apply below_drew1) | exact HB.out)))); (case aL => have := LMc20.out; omega); intro v179 w21 ho hb hg hat; rw [← Ny178.out] at ho; have n0_ := Aside0.mk (hb); have n1_ := Aside0.mk (Kept.of_grown (S := (fun k_ => P2_ k_)) hg (by repeat (first | (with_reducible first | exact HK.out | apply Kept.alloc | apply Kept.drewN | apply Kept.drew) | exact HK.out)) (fun k_ e_ => (HO_2.out.1 k_ e_))); have n2_ := Aside0.mk (ho); clear HB; clear HK; clear HO_2; have HB := n0_; have HK := n1_; have HO180 := n2_; clear n0_ n1_ n2_; clear ho hb hg hat)); go_ret2; exact ⟨_, _, by first | rfl | (simp [errW_none, errW_some] <;> rfl) | (simp [*, errW_none, errW_some] <;> rfl), by (with_reducible repeat (first | apply Kd.R_alloc | apply Kd.R_drewN | apply Kd.R_drew)); exact HO180.out, fun _ => rfl, by repeat (first | (with_reducible first | exact HB.out | apply below_alloc | apply pw_below_drewN | apply below_drew1) | exact HB.out), by repeat (first | (with_reducible first | exact HK.out | apply Kept.alloc | apply Kept.drewN | apply Kept.drew) | exact HK.out)⟩
            ·rw [if_neg c20] at H; exact absurd H (by simp)
           ·rw [if_neg c17] at H; have c17b0 : ((bt a0 a1) == 60) = false := beq_eq_false_iff_ne.mpr c17; have c17b1 : ((bt a0 a1) != 60) = true := bne_iff_ne.mpr c17; replace H := Option.bind_eq_some_iff.mp H; obtain ⟨t181, A220, H⟩ := H; replace H : ((spec_l16Digit.f a0 (wrap64 (a1 + 2))).bind fun t182 => (if l2.length < 4398046511104 then (some ((l2 ++ [(⟨1, t181, t182, 0⟩ : S75)]), wrap64 (a1 + 3))) else (none))) = some (r1, r2) := H; have A22 := Aside0.mk A220; clear A220; replace H := Option.bind_eq_some_iff.mp H; obtain ⟨t182, A230, H⟩ := H; replace H : (if l2.length < 4398046511104 then (some ((l2 ++ [(⟨1, t181, t182, 0⟩ : S75)]), wrap64 (a1 + 3))) else (none)) = some (r1, r2) := H; have A23 := Aside0.mk A230; clear A230; by_cases c24 : l2.length < 4398046511104
            ·rw [if_pos c24] at H; have LMc24 := Aside0.mk c24; clear c24; obtain ⟨y183, hy183⟩ : ∃ y_ : List (S75), y_ = (l2 ++ [(⟨1, t181, t182, 0⟩ : S75)]) := ⟨_, rfl⟩; replace H : (some (y183, wrap64 (a1 + 3))) = some (r1, r2) := by first | (rw [hy183]; with_reducible exact H) | (have H2_ := (Option.bind_some _ _).symm.trans H; rw [hy183]; with_reducible exact H2_) | (have H2_ := (Option.bind_some _ _).symm.trans H; with_reducible exact H2_) | with_reducible exact H | (rw [hy183]; exact H) | exact H
             have Ny183 := Aside0.mk hy183; clear hy183
             as_aux_lemma =>
              simp only [Option.some.injEq, Prod.mk.injEq] at H; obtain ⟨rfl, rfl⟩ := H; have p16 : 0 ≤ (a1 : Int) := of_decide_eq_true (by first | (with_reducible assumption) | assumption); have q16 : a1 < (a0.size : Int) := of_decide_eq_true (by first | (with_reducible assumption) | assumption); have hx16 := bt_at a0 a1; replace p16 := eq_true p16; replace q16 := eq_true q16; go_wp2_with (first | ((with_reducible refine gate_callee (f := 107) rfl ?_); refine goesL_ (some 48) rfl rfl Tryd.func107 (by kernel_rfl) rfl #[.string a0, .int .i64 (wrap64 (a1 + 1))] rfl (by (try simp only [List.map_toArray, List.map_cons, List.map_nil]); first | done | rfl | (simp only [List.length_drop, List.length_take]; rfl)) ?_; (with_reducible refine (spec_l16Digit.calls a0 (wrap64 (a1 + 1)) t181 _ A22.out).mono ?_); rintro e w' ⟨rfl, ⟨nd, rfl⟩⟩; refine ⟨_, rfl, ?_⟩) | ((with_reducible refine gate_callee (f := 107) rfl ?_); refine goesL_ (some 52) rfl rfl Tryd.func107 (by kernel_rfl) rfl #[.string a0, .int .i64 (wrap64 (a1 + 2))] rfl (by (try simp only [List.map_toArray, List.map_cons, List.map_nil]); first | done | rfl | (simp only [List.length_drop, List.length_take]; rfl)) ?_; (with_reducible refine (spec_l16Digit.calls a0 (wrap64 (a1 + 2)) t182 _ A23.out).mono ?_); rintro e w' ⟨rfl, ⟨nd, rfl⟩⟩; refine ⟨_, rfl, ?_⟩) | ((with_reducible refine gate_builtin (b := .append) (xs := #[.tmp 43, .tmp 54]) rfl ?_); (try (refine gate_guard (by rfl) ?_; dsimp only)); at_builtin; refine Kd.R_append k75 (w0 := w0) w0.heap.size rfl (.tmp 43) (.tmp 54) 36 75 (.agg #[(.int .i64 0), (.int .i64 0), (.int .i64 0), (.int .i64 0)]) 32 rfl Tryd.underlying36 info75 rfl (by decide) (by omega) u9000_ l2 (⟨1, t181, t182, 0⟩ : S75) [.int .i64 1, .int .i64 t181, .int .i64 t182, .int .i64 0] (fun k_ => (P2_ k_ ∨ w.heap.size ≤ k_)) (fun _ => False) rfl rfl ?aP (fun _ hk => hk.elim) ?aF ?aO ?aB ?aS ?aL ?_; (case aP => exact k75_mkM _ _ _ (⟨1, t181, t182, 0⟩ : S75)); (case aB => exact (by repeat (first | (with_reducible first | exact HB.out | apply below_alloc | apply pw_below_drewN | apply below_drew1) | exact HB.out))); (case aF => exact (fun k_ hk => (.inr (Nat.le_trans (by first | exact HK.out.1 | exact (show Kept w _ (fun k_ => P2_ k_) from by repeat (first | (with_reducible first | exact HK.out | apply Kept.alloc | apply Kept.drewN | apply Kept.drew) | exact HK.out)).1) hk)))); (case aO => exact (by (with_reducible repeat (first | apply Kd.R_alloc | apply Kd.R_drewN | apply Kd.R_drew)); exact HO_2.out)); (case aS => exact (below_size (by repeat (first | (with_reducible first | exact HB.out | apply below_alloc | apply pw_below_drewN | apply below_drew1) | exact HB.out)))); (case aL => have := LMc24.out; omega); intro v184 w25 ho hb hg hat; rw [← Ny183.out] at ho; have n0_ := Aside0.mk (hb); have n1_ := Aside0.mk (Kept.of_grown (S := (fun k_ => P2_ k_)) hg (by repeat (first | (with_reducible first | exact HK.out | apply Kept.alloc | apply Kept.drewN | apply Kept.drew) | exact HK.out)) (fun k_ e_ => (HO_2.out.1 k_ e_))); have n2_ := Aside0.mk (ho); clear HB; clear HK; clear HO_2; have HB := n0_; have HK := n1_; have HO185 := n2_; clear n0_ n1_ n2_; clear ho hb hg hat)); go_ret2; exact ⟨_, _, by first | rfl | (simp [errW_none, errW_some] <;> rfl) | (simp [*, errW_none, errW_some] <;> rfl), by (with_reducible repeat (first | apply Kd.R_alloc | apply Kd.R_drewN | apply Kd.R_drew)); exact HO185.out, fun _ => rfl, by repeat (first | (with_reducible first | exact HB.out | apply below_alloc | apply pw_below_drewN | apply below_drew1) | exact HB.out), by repeat (first | (with_reducible first | exact HK.out | apply Kept.alloc | apply Kept.drewN | apply Kept.drew) | exact HK.out)⟩
            ·rw [if_neg c24] at H; exact absurd H (by simp)
          ·rw [if_neg c15] at H; exact absurd H (by simp)
         ·rw [if_neg c14] at H; exact absurd H (by simp)
        ·replace c13 := Bool.eq_false_iff.mpr c13; subst c13; have H1 : (if (bt a0 a1) = 43 then ((spec_l16Digit.f a0 (wrap64 (a1 + 1))).bind fun t186 => ((spec_l16Digit.f a0 (wrap64 (a1 + 2))).bind fun t187 => ((spec_l16Digit.f a0 (wrap64 (a1 + 3))).bind fun t188 => (if l2.length < 4398046511104 then (some ((l2 ++ [(⟨3, t186, t187, t188⟩ : S75)]), wrap64 (a1 + 4))) else (none))))) else (if (bt a0 a1) = 83 then ((spec_l16Digit.f a0 (wrap64 (a1 + 1))).bind fun t192 => ((spec_l16Digit.f a0 (wrap64 (a1 + 2))).bind fun t193 => (if l2.length < 4398046511104 then (some ((l2 ++ [(⟨5, t192, t193, 0⟩ : S75)]), wrap64 (a1 + 3))) else (none)))) else (if (bt a0 a1) = 35 then (spec_l16Read.l0 kj10 a0 a1 l2 (wrap64 (a1 + 2))) else (if (bt a0 a1) = 33 then ((spec_l16Read.f kj10 a0 (wrap64 (a1 + 1)) l2).bind fun bt204 => (if bt204.2 < 0 then (some (([] : List (S75)), (-1))) else (if bt204.1.length < 4398046511104 then (some ((bt204.1 ++ [(⟨6, wrap64 ((bt204.1.length : Int) - 1), 0, 0⟩ : S75)]), bt204.2)) else (none)))) else (if (bt a0 a1) = 38 then (spec_l16Read.j4 kj10 a0 a1 l2 (bt a0 a1) ((bt a0 a1) == 38)) else (spec_l16Read.j4 kj10 a0 a1 l2 (bt a0 a1) ((bt a0 a1) == 124))))))) = some (r1, r2) := by rw [if_neg (show ¬ (false = true) by decide)] at H; exact H
         clear H; have H := H1; clear H1; by_cases c26 : (bt a0 a1) = 43
         ·rw [if_pos c26] at H; have c26b0 : ((bt a0 a1) == 43) = true := beq_iff_eq.mpr c26; have c26b1 : ((bt a0 a1) != 43) = false := bne_eq_false_iff_eq.mpr c26; clear c26; replace H := Option.bind_eq_some_iff.mp H; obtain ⟨t186, A270, H⟩ := H; replace H : ((spec_l16Digit.f a0 (wrap64 (a1 + 2))).bind fun t187 => ((spec_l16Digit.f a0 (wrap64 (a1 + 3))).bind fun t188 => (if l2.length < 4398046511104 then (some ((l2 ++ [(⟨3, t186, t187, t188⟩ : S75)]), wrap64 (a1 + 4))) else (none)))) = some (r1, r2) := H; have A27 := Aside0.mk A270; clear A270; replace H := Option.bind_eq_some_iff.mp H; obtain ⟨t187, A280, H⟩ := H; replace H : ((spec_l16Digit.f a0 (wrap64 (a1 + 3))).bind fun t188 => (if l2.length < 4398046511104 then (some ((l2 ++ [(⟨3, t186, t187, t188⟩ : S75)]), wrap64 (a1 + 4))) else (none))) = some (r1, r2) := H; have A28 := Aside0.mk A280; clear A280; replace H := Option.bind_eq_some_iff.mp H; obtain ⟨t188, A290, H⟩ := H; replace H : (if l2.length < 4398046511104 then (some ((l2 ++ [(⟨3, t186, t187, t188⟩ : S75)]), wrap64 (a1 + 4))) else (none)) = some (r1, r2) := H; have A29 := Aside0.mk A290; clear A290; by_cases c30 : l2.length < 4398046511104
          ·rw [if_pos c30] at H; have LMc30 := Aside0.mk c30; clear c30; obtain ⟨y189, hy189⟩ : ∃ y_ : List (S75), y_ = (l2 ++ [(⟨3, t186, t187, t188⟩ : S75)]) := ⟨_, rfl⟩; replace H : (some (y189, wrap64 (a1 + 4))) = some (r1, r2) := by first | (rw [hy189]; with_reducible exact H) | (have H2_ := (Option.bind_some _ _).symm.trans H; rw [hy189]; with_reducible exact H2_) | (have H2_ := (Option.bind_some _ _).symm.trans H; with_reducible exact H2_) | with_reducible exact H | (rw [hy189]; exact H) | exact H
           have Ny189 := Aside0.mk hy189; clear hy189
           as_aux_lemma =>
            simp only [Option.some.injEq, Prod.mk.injEq] at H; obtain ⟨rfl, rfl⟩ := H; go_wp2_with (first | ((with_reducible refine gate_callee (f := 107) rfl ?_); refine goesL_ (some 64) rfl rfl Tryd.func107 (by kernel_rfl) rfl #[.string a0, .int .i64 (wrap64 (a1 + 1))] rfl (by (try simp only [List.map_toArray, List.map_cons, List.map_nil]); first | done | rfl | (simp only [List.length_drop, List.length_take]; rfl)) ?_; (with_reducible refine (spec_l16Digit.calls a0 (wrap64 (a1 + 1)) t186 _ A27.out).mono ?_); rintro e w' ⟨rfl, ⟨nd, rfl⟩⟩; refine ⟨_, rfl, ?_⟩) | ((with_reducible refine gate_callee (f := 107) rfl ?_); refine goesL_ (some 68) rfl rfl Tryd.func107 (by kernel_rfl) rfl #[.string a0, .int .i64 (wrap64 (a1 + 2))] rfl (by (try simp only [List.map_toArray, List.map_cons, List.map_nil]); first | done | rfl | (simp only [List.length_drop, List.length_take]; rfl)) ?_; (with_reducible refine (spec_l16Digit.calls a0 (wrap64 (a1 + 2)) t187 _ A28.out).mono ?_); rintro e w' ⟨rfl, ⟨nd, rfl⟩⟩; refine ⟨_, rfl, ?_⟩) | ((with_reducible refine gate_callee (f := 107) rfl ?_); refine goesL_ (some 72) rfl rfl Tryd.func107 (by kernel_rfl) rfl #[.string a0, .int .i64 (wrap64 (a1 + 3))] rfl (by (try simp only [List.map_toArray, List.map_cons, List.map_nil]); first | done | rfl | (simp only [List.length_drop, List.length_take]; rfl)) ?_; (with_reducible refine (spec_l16Digit.calls a0 (wrap64 (a1 + 3)) t188 _ A29.out).mono ?_); rintro e w' ⟨rfl, ⟨nd, rfl⟩⟩; refine ⟨_, rfl, ?_⟩) | ((with_reducible refine gate_builtin (b := .append) (xs := #[.tmp 60, .tmp 74]) rfl ?_); (try (refine gate_guard (by rfl) ?_; dsimp only)); at_builtin; refine Kd.R_append k75 (w0 := w0) w0.heap.size rfl (.tmp 60) (.tmp 74) 36 75 (.agg #[(.int .i64 0), (.int .i64 0), (.int .i64 0), (.int .i64 0)]) 32 rfl Tryd.underlying36 info75 rfl (by decide) (by omega) u9000_ l2 (⟨3, t186, t187, t188⟩ : S75) [.int .i64 3, .int .i64 t186, .int .i64 t187, .int .i64 t188] (fun k_ => (P2_ k_ ∨ w.heap.size ≤ k_)) (fun _ => False) rfl rfl ?aP (fun _ hk => hk.elim) ?aF ?aO ?aB ?aS ?aL ?_; (case aP => exact k75_mkM _ _ _ (⟨3, t186, t187, t188⟩ : S75)); (case aB => exact (by repeat (first | (with_reducible first | exact HB.out | apply below_alloc | apply pw_below_drewN | apply below_drew1) | exact HB.out))); (case aF => exact (fun k_ hk => (.inr (Nat.le_trans (by first | exact HK.out.1 | exact (show Kept w _ (fun k_ => P2_ k_) from by repeat (first | (with_reducible first | exact HK.out | apply Kept.alloc | apply Kept.drewN | apply Kept.drew) | exact HK.out)).1) hk)))); (case aO => exact (by (with_reducible repeat (first | apply Kd.R_alloc | apply Kd.R_drewN | apply Kd.R_drew)); exact HO_2.out)); (case aS => exact (below_size (by repeat (first | (with_reducible first | exact HB.out | apply below_alloc | apply pw_below_drewN | apply below_drew1) | exact HB.out)))); (case aL => have := LMc30.out; omega); intro v190 w31 ho hb hg hat; rw [← Ny189.out] at ho; have n0_ := Aside0.mk (hb); have n1_ := Aside0.mk (Kept.of_grown (S := (fun k_ => P2_ k_)) hg (by repeat (first | (with_reducible first | exact HK.out | apply Kept.alloc | apply Kept.drewN | apply Kept.drew) | exact HK.out)) (fun k_ e_ => (HO_2.out.1 k_ e_))); have n2_ := Aside0.mk (ho); clear HB; clear HK; clear HO_2; have HB := n0_; have HK := n1_; have HO191 := n2_; clear n0_ n1_ n2_; clear ho hb hg hat)); go_ret2; exact ⟨_, _, by first | rfl | (simp [errW_none, errW_some] <;> rfl) | (simp [*, errW_none, errW_some] <;> rfl), by (with_reducible repeat (first | apply Kd.R_alloc | apply Kd.R_drewN | apply Kd.R_drew)); exact HO191.out, fun _ => rfl, by repeat (first | (with_reducible first | exact HB.out | apply below_alloc | apply pw_below_drewN | apply below_drew1) | exact HB.out), by repeat (first | (with_reducible first | exact HK.out | apply Kept.alloc | apply Kept.drewN | apply Kept.drew) | exact HK.out)⟩
          ·rw [if_neg c30] at H; exact absurd H (by simp)
         ·rw [if_neg c26] at H; have c26b0 : ((bt a0 a1) == 43) = false := beq_eq_false_iff_ne.mpr c26; have c26b1 : ((bt a0 a1) != 43) = true := bne_iff_ne.mpr c26; by_cases c32 : (bt a0 a1) = 83
          ·rw [if_pos c32] at H; have c32b0 : ((bt a0 a1) == 83) = true := beq_iff_eq.mpr c32; have c32b1 : ((bt a0 a1) != 83) = false := bne_eq_false_iff_eq.mpr c32; clear c32; replace H := Option.bind_eq_some_iff.mp H; obtain ⟨t192, A330, H⟩ := H; replace H : ((spec_l16Digit.f a0 (wrap64 (a1 + 2))).bind fun t193 => (if l2.length < 4398046511104 then (some ((l2 ++ [(⟨5, t192, t193, 0⟩ : S75)]), wrap64 (a1 + 3))) else (none))) = some (r1, r2) := H; have A33 := Aside0.mk A330; clear A330; replace H := Option.bind_eq_some_iff.mp H; obtain ⟨t193, A340, H⟩ := H; replace H : (if l2.length < 4398046511104 then (some ((l2 ++ [(⟨5, t192, t193, 0⟩ : S75)]), wrap64 (a1 + 3))) else (none)) = some (r1, r2) := H; have A34 := Aside0.mk A340; clear A340; by_cases c35 : l2.length < 4398046511104
           ·rw [if_pos c35] at H; have LMc35 := Aside0.mk c35; clear c35; obtain ⟨y194, hy194⟩ : ∃ y_ : List (S75), y_ = (l2 ++ [(⟨5, t192, t193, 0⟩ : S75)]) := ⟨_, rfl⟩; replace H : (some (y194, wrap64 (a1 + 3))) = some (r1, r2) := by first | (rw [hy194]; with_reducible exact H) | (have H2_ := (Option.bind_some _ _).symm.trans H; rw [hy194]; with_reducible exact H2_) | (have H2_ := (Option.bind_some _ _).symm.trans H; with_reducible exact H2_) | with_reducible exact H | (rw [hy194]; exact H) | exact H
            have Ny194 := Aside0.mk hy194; clear hy194
            as_aux_lemma =>
             simp only [Option.some.injEq, Prod.mk.injEq] at H; obtain ⟨rfl, rfl⟩ := H; go_wp2_with (first | ((with_reducible refine gate_callee (f := 107) rfl ?_); refine goesL_ (some 84) rfl rfl Tryd.func107 (by kernel_rfl) rfl #[.string a0, .int .i64 (wrap64 (a1 + 1))] rfl (by (try simp only [List.map_toArray, List.map_cons, List.map_nil]); first | done | rfl | (simp only [List.length_drop, List.length_take]; rfl)) ?_; (with_reducible refine (spec_l16Digit.calls a0 (wrap64 (a1 + 1)) t192 _ A33.out).mono ?_); rintro e w' ⟨rfl, ⟨nd, rfl⟩⟩; refine ⟨_, rfl, ?_⟩) | ((with_reducible refine gate_callee (f := 107) rfl ?_); refine goesL_ (some 88) rfl rfl Tryd.func107 (by kernel_rfl) rfl #[.string a0, .int .i64 (wrap64 (a1 + 2))] rfl (by (try simp only [List.map_toArray, List.map_cons, List.map_nil]); first | done | rfl | (simp only [List.length_drop, List.length_take]; rfl)) ?_; (with_reducible refine (spec_l16Digit.calls a0 (wrap64 (a1 + 2)) t193 _ A34.out).mono ?_); rintro e w' ⟨rfl, ⟨nd, rfl⟩⟩; refine ⟨_, rfl, ?_⟩) | ((with_reducible refine gate_builtin (b := .append) (xs := #[.tmp 80, .tmp 90]) rfl ?_); (try (refine gate_guard (by rfl) ?_; dsimp only)); at_builtin; refine Kd.R_append k75 (w0 := w0) w0.heap.size rfl (.tmp 80) (.tmp 90) 36 75 (.agg #[(.int .i64 0), (.int .i64 0), (.int .i64 0), (.int .i64 0)]) 32 rfl Tryd.underlying36 info75 rfl (by decide) (by omega) u9000_ l2 (⟨5, t192, t193, 0⟩ : S75) [.int .i64 5, .int .i64 t192, .int .i64 t193, .int .i64 0] (fun k_ => (P2_ k_ ∨ w.heap.size ≤ k_)) (fun _ => False) rfl rfl ?aP (fun _ hk => hk.elim) ?aF ?aO ?aB ?aS ?aL ?_; (case aP => exact k75_mkM _ _ _ (⟨5, t192, t193, 0⟩ : S75)); (case aB => exact (by repeat (first | (with_reducible first | exact HB.out | apply below_alloc | apply pw_below_drewN | apply below_drew1) | exact HB.out))); (case aF => exact (fun k_ hk => (.inr (Nat.le_trans (by first | exact HK.out.1 | exact (show Kept w _ (fun k_ => P2_ k_) from by repeat (first | (with_reducible first | exact HK.out | apply Kept.alloc | apply Kept.drewN | apply Kept.drew) | exact HK.out)).1) hk)))); (case aO => exact (by (with_reducible repeat (first | apply Kd.R_alloc | apply Kd.R_drewN | apply Kd.R_drew)); exact HO_2.out)); (case aS => exact (below_size (by repeat (first | (with_reducible first | exact HB.out | apply below_alloc | apply pw_below_drewN | apply below_drew1) | exact HB.out)))); (case aL => have := LMc35.out; omega); intro v195 w36 ho hb hg hat; rw [← Ny194.out] at ho; have n0_ := Aside0.mk (hb); have n1_ := Aside0.mk (Kept.of_grown (S := (fun k_ => P2_ k_)) hg (by repeat (first | (with_reducible first | exact HK.out | apply Kept.alloc | apply Kept.drewN | apply Kept.drew) | exact HK.out)) (fun k_ e_ => (HO_2.out.1 k_ e_))); have n2_ := Aside0.mk (ho); clear HB; clear HK; clear HO_2; have HB := n0_; have HK := n1_; have HO196 := n2_; clear n0_ n1_ n2_; clear ho hb hg hat)); go_ret2; exact ⟨_, _, by first | rfl | (simp [errW_none, errW_some] <;> rfl) | (simp [*, errW_none, errW_some] <;> rfl), by (with_reducible repeat (first | apply Kd.R_alloc | apply Kd.R_drewN | apply Kd.R_drew)); exact HO196.out, fun _ => rfl, by repeat (first | (with_reducible first | exact HB.out | apply below_alloc | apply pw_below_drewN | apply below_drew1) | exact HB.out), by repeat (first | (with_reducible first | exact HK.out | apply Kept.alloc | apply Kept.drewN | apply Kept.drew) | exact HK.out)⟩
           ·rw [if_neg c35] at H; exact absurd H (by simp)
          ·rw [if_neg c32] at H; have c32b0 : ((bt a0 a1) == 83) = false := beq_eq_false_iff_ne.mpr c32; have c32b1 : ((bt a0 a1) != 83) = true := bne_iff_ne.mpr c32; by_cases c37 : (bt a0 a1) = 35
           ·rw [if_pos c37] at H; have c37b0 : ((bt a0 a1) == 35) = true := beq_iff_eq.mpr c37; have c37b1 : ((bt a0 a1) != 35) = false := bne_eq_false_iff_eq.mpr c37; clear c37; have HC38 := Aside0.mk H; clear H; go_upto_block 1 with (fail); go_cut [9] (fun v9 wc => ∃ (kq : Nat) (x9_37 : Int), v9 = .int .i64 x9_37 ∧ Aside0 (spec_l16Read.j3 kq a0 a1 l2 x9_37 = some (r1, r2)) ∧ Aside0 (kq ≤ kj10) ∧ Aside0 (Kd.R k75 75 wc w0.heap.size (fun k_ => (P2_ k_ ∨ w.heap.size ≤ k_)) u9000_ l2) ∧ Aside0 (Kept w wc (fun k_ => P2_ k_)) ∧ Aside0 (Below w0.heap.size w0 wc))
            case first =>
             have H := HC38.out; clear HC38; have H' := Aside0.mk H; clear H; go_wp2; go_loopg [9] kj10 (fun kq v9 w' => ∃ (x9_3 : Int), v9 = .int .i64 x9_3 ∧ Aside0 (spec_l16Read.l0 kq a0 a1 l2 x9_3 = some (r1, r2)) ∧ Aside0 (kq ≤ kj10) ∧ Aside0 (Kd.R k75 75 w' w0.heap.size (fun k_ => (P2_ k_ ∨ w.heap.size ≤ k_)) u9000_ l2) ∧ Aside0 (Kept w w' (fun k_ => P2_ k_)) ∧ Aside0 (Below w0.heap.size w0 w'))
             case atStart => exact ⟨(wrap64 (a1 + 2)), (by first | rfl | (simp; done) | (simp [*]; done)), H', ⟨Nat.le_refl _⟩, ⟨by (with_reducible repeat (first | apply Kd.R_alloc | apply Kd.R_drewN | apply Kd.R_drew)); exact HO_2.out⟩, ⟨by repeat (first | (with_reducible first | exact HK.out | apply Kept.alloc | apply Kept.drewN | apply Kept.drew) | exact HK.out)⟩, ⟨by repeat (first | (with_reducible first | exact HB.out | apply below_alloc | apply pw_below_drewN | apply below_drew1) | exact HB.out)⟩⟩
             case round =>
              clear H'
              try clear c1
              try clear p1
              try clear q1
              try clear hx1
              try clear c2
              try clear p2
              try clear c3
              try clear c5
              try clear c5b0
              try clear p6
              try clear c7
              try clear c8
              try clear c8b0
              try clear c9
              try clear c9b0
              try clear c10
              try clear p10
              try clear q10
              try clear hx10
              try clear c12
              try clear c12b0
              try clear c12b1
              try clear c13
              try clear c14
              try clear c14b0
              try clear c15
              try clear c15b0
              try clear p16
              try clear q16
              try clear hx16
              try clear c17
              try clear c17b0
              try clear c17b1
              try clear c20
              try clear c24
              try clear c26
              try clear c26b0
              try clear c26b1
              try clear c30
              try clear c32
              try clear c32b0
              try clear c32b1
              try clear c35
              try clear c37
              try clear c37b0
              try clear c37b1
              try clear p1
              try clear p10
              try clear p16
              try clear p2
              try clear q1
              try clear q10
              try clear q16
              obtain ⟨x9_3, rfl, HA, HK3, HO_2, HK, HB⟩ := hrel; cases gk with
              | zero => exact absurd HA.out (by simp [spec_l16Read.l0])
              | succ k3 =>
               have H := HA.out; clear HA; simp only [spec_l16Read.l0] at H; replace H := Option.bind_eq_some_iff.mp H; obtain ⟨t197, A390, H⟩ := H; replace H : (if t197 ≥ 0 then (if x9_3 < (wrap64 (a1 + 6)) then (spec_l16Read.l0 k3 a0 a1 l2 (wrap64 (x9_3 + 1))) else (spec_l16Read.j3 k3 a0 a1 l2 x9_3)) else (spec_l16Read.j3 k3 a0 a1 l2 x9_3)) = some (r1, r2) := H; have A39 := Aside0.mk A390; clear A390; by_cases c40 : t197 ≥ 0
               ·rw [if_pos c40] at H; have c40b0 : decide (0 ≤ t197) = true := decide_eq_true c40; clear c40
                (first | rw [c40b0] | (simp only [i64_w, i32_w]; rw [c40b0]) | skip)
                by_cases c41 : x9_3 < (wrap64 (a1 + 6))
                ·rw [if_pos c41] at H; have c41b0 : decide (x9_3 < (wrap64 (a1 + 6))) = true := decide_eq_true c41; clear c41
                 as_aux_lemma =>
                  have H' := Aside0.mk H; clear H; go_wp2_with (first | ((with_reducible refine gate_callee (f := 107) rfl ?_); refine goesL_ (some 100) rfl rfl Tryd.func107 (by kernel_rfl) rfl #[.string a0, .int .i64 x9_3] rfl (by (try simp only [List.map_toArray, List.map_cons, List.map_nil]); first | done | rfl | (simp only [List.length_drop, List.length_take]; rfl)) ?_; (with_reducible refine (spec_l16Digit.calls a0 x9_3 t197 _ A39.out).mono ?_); rintro e w' ⟨rfl, ⟨nd, rfl⟩⟩; refine ⟨_, rfl, ?_⟩)); go_roundg k3
                  case measure => have := HJ3.out; have := HJ10.out; have := HK3.out; omega
                  case rel => exact ⟨(wrap64 (x9_3 + 1)), (by first | rfl | (simp; done) | (simp [*]; done)), H', ⟨by have := HJ3.out; have := HJ10.out; have := HK3.out; omega⟩, ⟨by (with_reducible repeat (first | apply Kd.R_alloc | apply Kd.R_drewN | apply Kd.R_drew)); exact HO_2.out⟩, ⟨by repeat (first | (with_reducible first | exact HK.out | apply Kept.alloc | apply Kept.drewN | apply Kept.drew) | exact HK.out)⟩, ⟨by repeat (first | (with_reducible first | exact HB.out | apply below_alloc | apply pw_below_drewN | apply below_drew1) | exact HB.out)⟩⟩
                ·rw [if_neg c41] at H; have c41b0 : decide (x9_3 < (wrap64 (a1 + 6))) = false := decide_eq_false c41; clear c41
                 as_aux_lemma =>
                  have H' := Aside0.mk H; clear H; go_wp2_with (first | ((with_reducible refine gate_callee (f := 107) rfl ?_); refine goesL_ (some 100) rfl rfl Tryd.func107 (by kernel_rfl) rfl #[.string a0, .int .i64 x9_3] rfl (by (try simp only [List.map_toArray, List.map_cons, List.map_nil]); first | done | rfl | (simp only [List.length_drop, List.length_take]; rfl)) ?_; (with_reducible refine (spec_l16Digit.calls a0 x9_3 t197 _ A39.out).mono ?_); rintro e w' ⟨rfl, ⟨nd, rfl⟩⟩; refine ⟨_, rfl, ?_⟩)); go_meet
                  case rel => exact ⟨_, (x9_3), (by first | rfl | (simp; done) | (simp [*]; done)), H', ⟨by have := HJ3.out; have := HJ10.out; have := HK3.out; first | omega | exact Nat.le_refl _⟩, ⟨by (with_reducible repeat (first | apply Kd.R_alloc | apply Kd.R_drewN | apply Kd.R_drew)); exact HO_2.out⟩, ⟨by repeat (first | (with_reducible first | exact HK.out | apply Kept.alloc | apply Kept.drewN | apply Kept.drew) | exact HK.out)⟩, ⟨by repeat (first | (with_reducible first | exact HB.out | apply below_alloc | apply pw_below_drewN | apply below_drew1) | exact HB.out)⟩⟩
               ·rw [if_neg c40] at H; have c40b0 : decide (0 ≤ t197) = false := decide_eq_false c40; clear c40
                (first | rw [c40b0] | (simp only [i64_w, i32_w]; rw [c40b0]) | skip)
                as_aux_lemma =>
                 have H' := Aside0.mk H; clear H; go_wp2_with (first | ((with_reducible refine gate_callee (f := 107) rfl ?_); refine goesL_ (some 100) rfl rfl Tryd.func107 (by kernel_rfl) rfl #[.string a0, .int .i64 x9_3] rfl (by (try simp only [List.map_toArray, List.map_cons, List.map_nil]); first | done | rfl | (simp only [List.length_drop, List.length_take]; rfl)) ?_; (with_reducible refine (spec_l16Digit.calls a0 x9_3 t197 _ A39.out).mono ?_); rintro e w' ⟨rfl, ⟨nd, rfl⟩⟩; refine ⟨_, rfl, ?_⟩)); go_meet
                 case rel => exact ⟨_, (x9_3), (by first | rfl | (simp; done) | (simp [*]; done)), H', ⟨by have := HJ3.out; have := HJ10.out; have := HK3.out; first | omega | exact Nat.le_refl _⟩, ⟨by (with_reducible repeat (first | apply Kd.R_alloc | apply Kd.R_drewN | apply Kd.R_drew)); exact HO_2.out⟩, ⟨by repeat (first | (with_reducible first | exact HK.out | apply Kept.alloc | apply Kept.drewN | apply Kept.drew) | exact HK.out)⟩, ⟨by repeat (first | (with_reducible first | exact HB.out | apply below_alloc | apply pw_below_drewN | apply below_drew1) | exact HB.out)⟩⟩
            case rest =>
             clear HC38
             try clear c1
             try clear p1
             try clear q1
             try clear hx1
             try clear c2
             try clear p2
             try clear c3
             try clear c4
             try clear c5
             try clear c5b0
             try clear p6
             try clear c7
             try clear c8
             try clear c8b0
             try clear c9
             try clear c9b0
             try clear c10
             try clear p10
             try clear q10
             try clear hx10
             try clear c12
             try clear c12b0
             try clear c12b1
             try clear c13
             try clear c14
             try clear c14b0
             try clear c15
             try clear c15b0
             try clear p16
             try clear q16
             try clear hx16
             try clear c17
             try clear c17b0
             try clear c17b1
             try clear c20
             try clear c24
             try clear c26
             try clear c26b0
             try clear c26b1
             try clear c30
             try clear c32
             try clear c32b0
             try clear c32b1
             try clear c35
             try clear c37
             try clear c37b0
             try clear c37b1
             try clear c40
             try clear c40b0
             try clear c41
             try clear c41b0
             try clear p1
             try clear p10
             try clear p16
             try clear p2
             try clear p6
             try clear q1
             try clear q10
             try clear q16
             obtain ⟨kq, x9_37, rfl, HA, HJ37, HO_2, HK, HB⟩ := hcut; cases kq with
             | zero => exact absurd HA.out (by simp [spec_l16Read.j3])
             | succ kj37 =>
              have H := HA.out; clear HA; simp only [spec_l16Read.j3] at H; obtain ⟨ji42, hji42⟩ : ∃ j_ : Int, (mn (a0.size : Int) (wrap64 (a1 + 2))) = j_ := ⟨_, rfl⟩; replace H : (if 0 ≤ (ji42) then (if (ji42) ≤ (mn (a0.size : Int) x9_37) then (if (mn (a0.size : Int) x9_37) ≤ (a0.size : Int) then ((spec_ParseInt.f kj37 (a0.extract ((ji42) : Int).toNat ((mn (a0.size : Int) x9_37) : Int).toNat)).bind fun bt198 => (if bt198.2 = true then ((spec_l16Digit.f a0 (wrap64 (a1 + 1))).bind fun t200 => (if l2.length < 4398046511104 then (some ((l2 ++ [(⟨4, t200, bt198.1, 0⟩ : S75)]), wrap64 (x9_37 + 1))) else (none))) else (some (([] : List (S75)), (-1))))) else (none)) else (none)) else (none)) = some (r1, r2) := by first | (rw [hji42] at H; exact H) | (simp only [hji42] at H ⊢; exact H)
              have hji42_ : (if (wrap64 (a1 + 2)) < (a0.size : Int) then (wrap64 (a1 + 2)) else (a0.size : Int)) = ji42 := hji42; obtain ⟨ji43, hji43⟩ : ∃ j_ : Int, (mn (a0.size : Int) x9_37) = j_ := ⟨_, rfl⟩; replace H : (if 0 ≤ (ji42) then (if (ji42) ≤ (ji43) then (if (ji43) ≤ (a0.size : Int) then ((spec_ParseInt.f kj37 (a0.extract ((ji42) : Int).toNat ((ji43) : Int).toNat)).bind fun bt198 => (if bt198.2 = true then ((spec_l16Digit.f a0 (wrap64 (a1 + 1))).bind fun t200 => (if l2.length < 4398046511104 then (some ((l2 ++ [(⟨4, t200, bt198.1, 0⟩ : S75)]), wrap64 (x9_37 + 1))) else (none))) else (some (([] : List (S75)), (-1))))) else (none)) else (none)) else (none)) = some (r1, r2) := by first | (rw [hji43] at H; exact H) | (simp only [hji43] at H ⊢; exact H)
              have hji43_ : (if x9_37 < (a0.size : Int) then x9_37 else (a0.size : Int)) = ji43 := hji43; by_cases c44 : 0 ≤ (ji42)
              ·rw [if_pos c44] at H; have c44b0 := eq_true c44; have c44b1 : decide (0 ≤ (ji42)) = true := decide_eq_true c44; clear c44; by_cases c45 : (ji42) ≤ (ji43)
               ·rw [if_pos c45] at H; have c45b0 := eq_true c45; have c45b1 : decide ((ji42) ≤ (ji43)) = true := decide_eq_true c45; clear c45; by_cases c46 : (ji43) ≤ (a0.size : Int)
                ·rw [if_pos c46] at H; have c46b0 := eq_true c46; have c46b1 : decide ((ji43) ≤ (a0.size : Int)) = true := decide_eq_true c46; clear c46; replace H := Option.bind_eq_some_iff.mp H; obtain ⟨⟨t198, t199⟩, A470, H⟩ := H; replace H : (if t199 = true then ((spec_l16Digit.f a0 (wrap64 (a1 + 1))).bind fun t200 => (if l2.length < 4398046511104 then (some ((l2 ++ [(⟨4, t200, t198, 0⟩ : S75)]), wrap64 (x9_37 + 1))) else (none))) else (some (([] : List (S75)), (-1)))) = some (r1, r2) := H; have A47 := Aside0.mk A470; clear A470; by_cases c48 : t199 = true
                 ·subst c48; have H1 : ((spec_l16Digit.f a0 (wrap64 (a1 + 1))).bind fun t200 => (if l2.length < 4398046511104 then (some ((l2 ++ [(⟨4, t200, t198, 0⟩ : S75)]), wrap64 (x9_37 + 1))) else (none))) = some (r1, r2) := by rw [if_pos rfl] at H; exact H
                  clear H; have H := H1; clear H1; replace H := Option.bind_eq_some_iff.mp H; obtain ⟨t200, A490, H⟩ := H; replace H : (if l2.length < 4398046511104 then (some ((l2 ++ [(⟨4, t200, t198, 0⟩ : S75)]), wrap64 (x9_37 + 1))) else (none)) = some (r1, r2) := H; have A49 := Aside0.mk A490; clear A490; by_cases c50 : l2.length < 4398046511104
                  ·rw [if_pos c50] at H; have LMc50 := Aside0.mk c50; clear c50; obtain ⟨y201, hy201⟩ : ∃ y_ : List (S75), y_ = (l2 ++ [(⟨4, t200, t198, 0⟩ : S75)]) := ⟨_, rfl⟩; replace H : (some (y201, wrap64 (x9_37 + 1))) = some (r1, r2) := by first | (rw [hy201]; with_reducible exact H) | (have H2_ := (Option.bind_some _ _).symm.trans H; rw [hy201]; with_reducible exact H2_) | (have H2_ := (Option.bind_some _ _).symm.trans H; with_reducible exact H2_) | with_reducible exact H | (rw [hy201]; exact H) | exact H
                   have Ny201 := Aside0.mk hy201; clear hy201
                   as_aux_lemma =>
                    simp only [Option.some.injEq, Prod.mk.injEq] at H; obtain ⟨rfl, rfl⟩ := H; go_wp2_with (first | ((with_reducible refine gate_callee (f := 108) rfl ?_); refine goesL_ (some 122) rfl rfl Tryd.func108 (by kernel_rfl) rfl #[.string (a0.extract ((ji42) : Int).toNat ((ji43) : Int).toNat)] rfl (by (try simp only [List.map_toArray, List.map_cons, List.map_nil]); first | done | (simp only [hji42, hji43]; rfl) | rfl | (simp only [List.length_drop, List.length_take]; rfl)) ?_; (with_reducible refine (spec_ParseInt.calls kj37 (a0.extract ((ji42) : Int).toNat ((ji43) : Int).toNat) t198 true _ A47.out).mono ?_); rintro e w51 ⟨rfl, hb⟩; refine ⟨_, rfl, ?_⟩; have n0_ := Aside0.mk (Kd.R_below (by (with_reducible repeat (first | apply Kd.R_alloc | apply Kd.R_drewN | apply Kd.R_drew)); exact HO_2.out) hb); have n1_ := Aside0.mk (Kept.below (S := (fun k_ => P2_ k_)) (by repeat (first | (with_reducible first | exact HK.out | apply Kept.alloc | apply Kept.drewN | apply Kept.drew) | exact HK.out)) hb); have n2_ := Aside0.mk (below_step (by repeat (first | (with_reducible first | exact HB.out | apply below_alloc | apply pw_below_drewN | apply below_drew1) | exact HB.out)) hb); clear HO_2; clear HK; clear HB; have HO_2 := n0_; have HK := n1_; have HB := n2_; clear n0_ n1_ n2_; (try clear hb); (try clear hb2); (try clear hk); (try clear hi)) | ((with_reducible refine gate_callee (f := 107) rfl ?_); refine goesL_ (some 132) rfl rfl Tryd.func107 (by kernel_rfl) rfl #[.string a0, .int .i64 (wrap64 (a1 + 1))] rfl (by (try simp only [List.map_toArray, List.map_cons, List.map_nil]); first | done | rfl | (simp only [List.length_drop, List.length_take]; rfl)) ?_; (with_reducible refine (spec_l16Digit.calls a0 (wrap64 (a1 + 1)) t200 _ A49.out).mono ?_); rintro e w' ⟨rfl, ⟨nd, rfl⟩⟩; refine ⟨_, rfl, ?_⟩) | ((with_reducible refine gate_builtin (b := .append) (xs := #[.tmp 128, .tmp 135]) rfl ?_); (try (refine gate_guard (by rfl) ?_; dsimp only)); at_builtin; refine Kd.R_append k75 (w0 := w0) w0.heap.size rfl (.tmp 128) (.tmp 135) 36 75 (.agg #[(.int .i64 0), (.int .i64 0), (.int .i64 0), (.int .i64 0)]) 32 rfl Tryd.underlying36 info75 rfl (by decide) (by omega) u9000_ l2 (⟨4, t200, t198, 0⟩ : S75) [.int .i64 4, .int .i64 t200, .int .i64 t198, .int .i64 0] (fun k_ => (P2_ k_ ∨ w.heap.size ≤ k_)) (fun _ => False) rfl rfl ?aP (fun _ hk => hk.elim) ?aF ?aO ?aB ?aS ?aL ?_; (case aP => exact k75_mkM _ _ _ (⟨4, t200, t198, 0⟩ : S75)); (case aB => exact (by repeat (first | (with_reducible first | exact HB.out | apply below_alloc | apply pw_below_drewN | apply below_drew1) | exact HB.out))); (case aF => exact (fun k_ hk => (.inr (Nat.le_trans (by first | exact HK.out.1 | exact (show Kept w _ (fun k_ => P2_ k_) from by repeat (first | (with_reducible first | exact HK.out | apply Kept.alloc | apply Kept.drewN | apply Kept.drew) | exact HK.out)).1) hk)))); (case aO => exact (by (with_reducible repeat (first | apply Kd.R_alloc | apply Kd.R_drewN | apply Kd.R_drew)); exact HO_2.out)); (case aS => exact (below_size (by repeat (first | (with_reducible first | exact HB.out | apply below_alloc | apply pw_below_drewN | apply below_drew1) | exact HB.out)))); (case aL => have := LMc50.out; omega); intro v202 w52 ho hb hg hat; rw [← Ny201.out] at ho; have n0_ := Aside0.mk (hb); have n1_ := Aside0.mk (Kept.of_grown (S := (fun k_ => P2_ k_)) hg (by repeat (first | (with_reducible first | exact HK.out | apply Kept.alloc | apply Kept.drewN | apply Kept.drew) | exact HK.out)) (fun k_ e_ => (HO_2.out.1 k_ e_))); have n2_ := Aside0.mk (ho); clear HB; clear HK; clear HO_2; have HB := n0_; have HK := n1_; have HO203 := n2_; clear n0_ n1_ n2_; clear ho hb hg hat)); go_ret2; exact ⟨_, _, by first | rfl | (simp [errW_none, errW_some] <;> rfl) | (simp only [← hji42, ← hji43]; first | rfl | (simp [errW_none, errW_some] <;> rfl)) | (simp [*, errW_none, errW_some] <;> rfl), by (with_reducible repeat (first | apply Kd.R_alloc | apply Kd.R_drewN | apply Kd.R_drew)); exact HO203.out, fun _ => rfl, by repeat (first | (with_reducible first | exact HB.out | apply below_alloc | apply pw_below_drewN | apply below_drew1) | exact HB.out), by repeat (first | (with_reducible first | exact HK.out | apply Kept.alloc | apply Kept.drewN | apply Kept.drew) | exact HK.out)⟩
                  ·rw [if_neg c50] at H; exact absurd H (by simp)
                 ·replace c48 := Bool.eq_false_iff.mpr c48; subst c48; have H1 : (some (([] : List (S75)), (-1))) = some (r1, r2) := by rw [if_neg (show ¬ (false = true) by decide)] at H; exact H
                  clear H; have H := H1; clear H1
                  as_aux_lemma =>
                   simp only [Option.some.injEq, Prod.mk.injEq] at H; obtain ⟨rfl, rfl⟩ := H; go_wp2_with (first | ((with_reducible refine gate_callee (f := 108) rfl ?_); refine goesL_ (some 122) rfl rfl Tryd.func108 (by kernel_rfl) rfl #[.string (a0.extract ((ji42) : Int).toNat ((ji43) : Int).toNat)] rfl (by (try simp only [List.map_toArray, List.map_cons, List.map_nil]); first | done | (simp only [hji42, hji43]; rfl) | rfl | (simp only [List.length_drop, List.length_take]; rfl)) ?_; (with_reducible refine (spec_ParseInt.calls kj37 (a0.extract ((ji42) : Int).toNat ((ji43) : Int).toNat) t198 false _ A47.out).mono ?_); rintro e w53 ⟨rfl, hb⟩; refine ⟨_, rfl, ?_⟩; have n0_ := Aside0.mk (Kd.R_below (by (with_reducible repeat (first | apply Kd.R_alloc | apply Kd.R_drewN | apply Kd.R_drew)); exact HO_2.out) hb); have n1_ := Aside0.mk (Kept.below (S := (fun k_ => P2_ k_)) (by repeat (first | (with_reducible first | exact HK.out | apply Kept.alloc | apply Kept.drewN | apply Kept.drew) | exact HK.out)) hb); have n2_ := Aside0.mk (below_step (by repeat (first | (with_reducible first | exact HB.out | apply below_alloc | apply pw_below_drewN | apply below_drew1) | exact HB.out)) hb); clear HO_2; clear HK; clear HB; have HO_2 := n0_; have HK := n1_; have HB := n2_; clear n0_ n1_ n2_; (try clear hb); (try clear hb2); (try clear hk); (try clear hi))); go_ret2
                   first | exact ⟨_, _, by first | rfl | (simp [errW_none, errW_some] <;> rfl) | (simp only [← hji42, ← hji43]; first | rfl | (simp [errW_none, errW_some] <;> rfl)) | (simp [*, errW_none, errW_some] <;> rfl), Kd.R_nil _ _ _ _ _, fun h_ => absurd h_ (by decide), by repeat (first | (with_reducible first | exact HB.out | apply below_alloc | apply pw_below_drewN | apply below_drew1) | exact HB.out), by repeat (first | (with_reducible first | exact HK.out | apply Kept.alloc | apply Kept.drewN | apply Kept.drew) | exact HK.out)⟩ | exact ⟨⟨_, Kd.R_nil _ _ _ _ _⟩, by repeat (first | (with_reducible first | exact HB.out | apply below_alloc | apply pw_below_drewN | apply below_drew1) | exact HB.out), by repeat (first | (with_reducible first | exact HK.out | apply Kept.alloc | apply Kept.drewN | apply Kept.drew) | exact HK.out)⟩ | exact ⟨⟨_, by first | rfl | (simp [errW_none, errW_some] <;> rfl) | (simp only [← hji42, ← hji43]; first | rfl | (simp [errW_none, errW_some] <;> rfl)) | (simp [*, errW_none, errW_some] <;> rfl)⟩, ⟨_, Kd.R_nil _ _ _ _ _⟩, by repeat (first | (with_reducible first | exact HB.out | apply below_alloc | apply pw_below_drewN | apply below_drew1) | exact HB.out), by repeat (first | (with_reducible first | exact HK.out | apply Kept.alloc | apply Kept.drewN | apply Kept.drew) | exact HK.out)⟩
                ·rw [if_neg c46] at H; exact absurd H (by simp)
               ·rw [if_neg c45] at H; exact absurd H (by simp)
              ·rw [if_neg c44] at H; exact absurd H (by simp)
           ·rw [if_neg c37] at H; have c37b0 : ((bt a0 a1) == 35) = false := beq_eq_false_iff_ne.mpr c37; have c37b1 : ((bt a0 a1) != 35) = true := bne_iff_ne.mpr c37; by_cases c54 : (bt a0 a1) = 33
            ·rw [if_pos c54] at H; have c54b0 : ((bt a0 a1) == 33) = true := beq_iff_eq.mpr c54; have c54b1 : ((bt a0 a1) != 33) = false := bne_eq_false_iff_eq.mpr c54; clear c54; replace H := Option.bind_eq_some_iff.mp H; obtain ⟨⟨t204, t207⟩, A550, H⟩ := H; replace H : (if t207 < 0 then (some (([] : List (S75)), (-1))) else (if t204.length < 4398046511104 then (some ((t204 ++ [(⟨6, wrap64 ((t204.length : Int) - 1), 0, 0⟩ : S75)]), t207)) else (none))) = some (r1, r2) := H; have A55 := Aside0.mk A550; clear A550; by_cases c56 : t207 < 0
             ·rw [if_pos c56] at H; have c56b0 : decide (t207 < 0) = true := decide_eq_true c56; clear c56
              as_aux_lemma =>
               simp only [Option.some.injEq, Prod.mk.injEq] at H; obtain ⟨rfl, rfl⟩ := H; obtain ⟨Ao57, co57, eo57⟩ := Kd.R_slice HO_2.out; subst eo57; go_wp2_with (first | ((with_reducible refine gate_callee (f := 55) rfl ?_); refine goesL_ (some 146) rfl rfl Tryd.func55 (by kernel_rfl) rfl #[.string a0, .int .i64 (wrap64 (a1 + 1)), .slice Ao57 l2.length co57] rfl (by (try simp only [List.map_toArray, List.map_cons, List.map_nil]); first | done | rfl | (simp only [List.length_drop, List.length_take]; rfl)) ?_; (with_reducible refine (ih kj10 (by have := HJ3.out; have := HJ10.out; omega) a0 (wrap64 (a1 + 1)) (fun k_ => some k_ = (.slice Ao57 l2.length co57 : Value).ownBlock) (.slice Ao57 l2.length co57) l2 t204 t207 w0 _ ?side1 ?side2 A55.out).mono ?_); (case side1 => repeat (first | (with_reducible first | exact HB.out | apply below_alloc | apply pw_below_drewN | apply below_drew1) | exact HB.out)); (case side2 => exact Kd.R_tight rfl HO_2.out); rintro e w58 ⟨v205, vx_, rfl, ho0, hvx_, hb, hkp⟩; (first | (have h0_ := hvx_ (nn_ (by first | (with_reducible assumption) | assumption : decide (t207 < 0) = false)); subst h0_) | clear hvx_); refine ⟨_, rfl, ?_⟩; have n0_ := Aside0.mk (Kd.R_mono (ok' := fun k_ => (P2_ k_ ∨ w.heap.size ≤ k_)) ho0 (fun k_ hk_ => Or.elim hk_ (fun hs_ => (HO_2.out.1 k_ (hs_).symm)) (fun hn_ => (.inr (Nat.le_trans (by first | exact HK.out.1 | exact (show Kept w _ (fun k_ => P2_ k_) from by repeat (first | (with_reducible first | exact HK.out | apply Kept.alloc | apply Kept.drewN | apply Kept.drew) | exact HK.out)).1) hn_))))); have n1_ := Aside0.mk (Kept.then_ (S := (fun k_ => P2_ k_)) (by repeat (first | (with_reducible first | exact HK.out | apply Kept.alloc | apply Kept.drewN | apply Kept.drew) | exact HK.out)) hkp (fun k_ hs_ => (fun e_ => (HO_2.out.1 k_ e_.symm)) hs_)); have n2_ := Aside0.mk (hb); clear HK; clear HB; clear HO_2; have HO206 := n0_; have HK := n1_; have HB := n2_; clear n0_ n1_ n2_; (try clear hb); (try clear hkp); (try clear ho0))); go_ret2
               first | exact ⟨_, _, by first | rfl | (simp [errW_none, errW_some] <;> rfl) | (simp [*, errW_none, errW_some] <;> rfl), Kd.R_nil _ _ _ _ _, fun h_ => absurd h_ (by decide), by repeat (first | (with_reducible first | exact HB.out | apply below_alloc | apply pw_below_drewN | apply below_drew1) | exact HB.out), by repeat (first | (with_reducible first | exact HK.out | apply Kept.alloc | apply Kept.drewN | apply Kept.drew) | exact HK.out)⟩ | exact ⟨⟨_, Kd.R_nil _ _ _ _ _⟩, by repeat (first | (with_reducible first | exact HB.out | apply below_alloc | apply pw_below_drewN | apply below_drew1) | exact HB.out), by repeat (first | (with_reducible first | exact HK.out | apply Kept.alloc | apply Kept.drewN | apply Kept.drew) | exact HK.out)⟩ | exact ⟨⟨_, by first | rfl | (simp [errW_none, errW_some] <;> rfl) | (simp [*, errW_none, errW_some] <;> rfl)⟩, ⟨_, Kd.R_nil _ _ _ _ _⟩, by repeat (first | (with_reducible first | exact HB.out | apply below_alloc | apply pw_below_drewN | apply below_drew1) | exact HB.out), by repeat (first | (with_reducible first | exact HK.out | apply Kept.alloc | apply Kept.drewN | apply Kept.drew) | exact HK.out)⟩
             ·rw [if_neg c56] at H; have c56b0 : decide (t207 < 0) = false := decide_eq_false c56; clear c56; by_cases c59 : t204.length < 4398046511104
              ·rw [if_pos c59] at H; have LMc59 := Aside0.mk c59; clear c59; obtain ⟨y208, hy208⟩ : ∃ y_ : List (S75), y_ = (t204 ++ [(⟨6, wrap64 ((t204.length : Int) - 1), 0, 0⟩ : S75)]) := ⟨_, rfl⟩; replace H : (some (y208, t207)) = some (r1, r2) := by first | (rw [hy208]; with_reducible exact H) | (have H2_ := (Option.bind_some _ _).symm.trans H; rw [hy208]; with_reducible exact H2_) | (have H2_ := (Option.bind_some _ _).symm.trans H; with_reducible exact H2_) | with_reducible exact H | (rw [hy208]; exact H) | exact H
               have Ny208 := Aside0.mk hy208; clear hy208
               as_aux_lemma =>
                simp only [Option.some.injEq, Prod.mk.injEq] at H; obtain ⟨rfl, rfl⟩ := H; obtain ⟨Ao60, co60, eo60⟩ := Kd.R_slice HO_2.out; subst eo60; go_wp2_with (first | ((with_reducible refine gate_callee (f := 55) rfl ?_); refine goesL_ (some 146) rfl rfl Tryd.func55 (by kernel_rfl) rfl #[.string a0, .int .i64 (wrap64 (a1 + 1)), .slice Ao60 l2.length co60] rfl (by (try simp only [List.map_toArray, List.map_cons, List.map_nil]); first | done | rfl | (simp only [List.length_drop, List.length_take]; rfl)) ?_; (with_reducible refine (ih kj10 (by have := HJ3.out; have := HJ10.out; omega) a0 (wrap64 (a1 + 1)) (fun k_ => some k_ = (.slice Ao60 l2.length co60 : Value).ownBlock) (.slice Ao60 l2.length co60) l2 t204 t207 w0 _ ?side1 ?side2 A55.out).mono ?_); (case side1 => repeat (first | (with_reducible first | exact HB.out | apply below_alloc | apply pw_below_drewN | apply below_drew1) | exact HB.out)); (case side2 => exact Kd.R_tight rfl HO_2.out); rintro e w61 ⟨v205, vx_, rfl, ho0, hvx_, hb, hkp⟩; (first | (have h0_ := hvx_ (nn_ (by first | (with_reducible assumption) | assumption : decide (t207 < 0) = false)); subst h0_) | clear hvx_); refine ⟨_, rfl, ?_⟩; have n0_ := Aside0.mk (Kd.R_mono (ok' := fun k_ => (P2_ k_ ∨ w.heap.size ≤ k_)) ho0 (fun k_ hk_ => Or.elim hk_ (fun hs_ => (HO_2.out.1 k_ (hs_).symm)) (fun hn_ => (.inr (Nat.le_trans (by first | exact HK.out.1 | exact (show Kept w _ (fun k_ => P2_ k_) from by repeat (first | (with_reducible first | exact HK.out | apply Kept.alloc | apply Kept.drewN | apply Kept.drew) | exact HK.out)).1) hn_))))); have n1_ := Aside0.mk (Kept.then_ (S := (fun k_ => P2_ k_)) (by repeat (first | (with_reducible first | exact HK.out | apply Kept.alloc | apply Kept.drewN | apply Kept.drew) | exact HK.out)) hkp (fun k_ hs_ => (fun e_ => (HO_2.out.1 k_ e_.symm)) hs_)); have n2_ := Aside0.mk (hb); clear HK; clear HB; clear HO_2; have HO206 := n0_; have HK := n1_; have HB := n2_; clear n0_ n1_ n2_; (try clear hb); (try clear hkp); (try clear ho0); obtain ⟨Ao62, co62, eo62⟩ := Kd.R_slice HO206.out; subst eo62) | ((with_reducible refine gate_builtin (b := .append) (xs := #[.tmp 152, .tmp 157]) rfl ?_); (try (refine gate_guard (by rfl) ?_; dsimp only)); at_builtin; refine Kd.R_append k75 (w0 := w0) w0.heap.size rfl (.tmp 152) (.tmp 157) 36 75 (.agg #[(.int .i64 0), (.int .i64 0), (.int .i64 0), (.int .i64 0)]) 32 rfl Tryd.underlying36 info75 rfl (by decide) (by omega) (.slice Ao62 t204.length co62) t204 (⟨6, wrap64 ((t204.length : Int) - 1), 0, 0⟩ : S75) [.int .i64 6, .int .i64 (wrap64 ((t204.length : Int) - 1)), .int .i64 0, .int .i64 0] (fun k_ => (P2_ k_ ∨ w.heap.size ≤ k_)) (fun _ => False) rfl rfl ?aP (fun _ hk => hk.elim) ?aF ?aO ?aB ?aS ?aL ?_; (case aP => exact k75_mkM _ _ _ (⟨6, wrap64 ((t204.length : Int) - 1), 0, 0⟩ : S75)); (case aB => exact (by repeat (first | (with_reducible first | exact HB.out | apply below_alloc | apply pw_below_drewN | apply below_drew1) | exact HB.out))); (case aF => exact (fun k_ hk => (.inr (Nat.le_trans (by first | exact HK.out.1 | exact (show Kept w _ (fun k_ => P2_ k_) from by repeat (first | (with_reducible first | exact HK.out | apply Kept.alloc | apply Kept.drewN | apply Kept.drew) | exact HK.out)).1) hk)))); (case aO => exact (by (with_reducible repeat (first | apply Kd.R_alloc | apply Kd.R_drewN | apply Kd.R_drew)); exact HO206.out)); (case aS => exact (below_size (by repeat (first | (with_reducible first | exact HB.out | apply below_alloc | apply pw_below_drewN | apply below_drew1) | exact HB.out)))); (case aL => have := LMc59.out; omega); intro v209 w63 ho hb hg hat; rw [← Ny208.out] at ho; have n0_ := Aside0.mk (hb); have n1_ := Aside0.mk (Kept.of_grown (S := (fun k_ => P2_ k_)) hg (by repeat (first | (with_reducible first | exact HK.out | apply Kept.alloc | apply Kept.drewN | apply Kept.drew) | exact HK.out)) (fun k_ e_ => (HO206.out.1 k_ e_))); have n2_ := Aside0.mk (ho); clear HB; clear HK; clear HO206; have HB := n0_; have HK := n1_; have HO210 := n2_; clear n0_ n1_ n2_; clear ho hb hg hat)); go_ret2; exact ⟨_, _, by first | rfl | (simp [errW_none, errW_some] <;> rfl) | (simp [*, errW_none, errW_some] <;> rfl), by (with_reducible repeat (first | apply Kd.R_alloc | apply Kd.R_drewN | apply Kd.R_drew)); exact HO210.out, fun _ => rfl, by repeat (first | (with_reducible first | exact HB.out | apply below_alloc | apply pw_below_drewN | apply below_drew1) | exact HB.out), by repeat (first | (with_reducible first | exact HK.out | apply Kept.alloc | apply Kept.drewN | apply Kept.drew) | exact HK.out)⟩
              ·rw [if_neg c59] at H; exact absurd H (by simp)
            ·rw [if_neg c54] at H; have c54b0 : ((bt a0 a1) == 33) = false := beq_eq_false_iff_ne.mpr c54; have c54b1 : ((bt a0 a1) != 33) = true := bne_iff_ne.mpr c54; have HC64 := Aside0.mk H; clear H; go_upto_if 160 with (fail); go_cut [160] (fun v160 wc => ∃ (kq : Nat) (x160_63 : Bool), v160 = .bool x160_63 ∧ Aside0 (spec_l16Read.j4 kq a0 a1 l2 (bt a0 a1) x160_63 = some (r1, r2)) ∧ Aside0 (kq ≤ kj10) ∧ Aside0 (Kd.R k75 75 wc w0.heap.size (fun k_ => (P2_ k_ ∨ w.heap.size ≤ k_)) u9000_ l2) ∧ Aside0 (Kept w wc (fun k_ => P2_ k_)) ∧ Aside0 (Below w0.heap.size w0 wc))
             case first =>
              have H := HC64.out; clear HC64; by_cases c65 : (bt a0 a1) = 38
              ·rw [if_pos c65] at H; have c65b0 : ((bt a0 a1) == 38) = true := beq_iff_eq.mpr c65; have c65b1 : ((bt a0 a1) != 38) = false := bne_eq_false_iff_eq.mpr c65; clear c65
               (first | rw [c65b0] | (simp only [i64_w, i32_w]; rw [c65b0]) | skip)
               as_aux_lemma =>
                have H' := Aside0.mk H; clear H; go_wp2; go_meet
                case rel => exact ⟨_, (((bt a0 a1) == 38)), (by first | rfl | (simp; done) | (simp [*]; done)), H', ⟨by have := HJ3.out; have := HJ10.out; first | omega | exact Nat.le_refl _⟩, ⟨by (with_reducible repeat (first | apply Kd.R_alloc | apply Kd.R_drewN | apply Kd.R_drew)); exact HO_2.out⟩, ⟨by repeat (first | (with_reducible first | exact HK.out | apply Kept.alloc | apply Kept.drewN | apply Kept.drew) | exact HK.out)⟩, ⟨by repeat (first | (with_reducible first | exact HB.out | apply below_alloc | apply pw_below_drewN | apply below_drew1) | exact HB.out)⟩⟩
              ·rw [if_neg c65] at H; have c65b0 : ((bt a0 a1) == 38) = false := beq_eq_false_iff_ne.mpr c65; have c65b1 : ((bt a0 a1) != 38) = true := bne_iff_ne.mpr c65
               (first | rw [c65b0] | (simp only [i64_w, i32_w]; rw [c65b0]) | skip)
               as_aux_lemma =>
                have H' := Aside0.mk H; clear H; go_wp2; go_meet
                case rel => exact ⟨_, (((bt a0 a1) == 124)), (by first | rfl | (simp; done) | (simp [*]; done)), H', ⟨by have := HJ3.out; have := HJ10.out; first | omega | exact Nat.le_refl _⟩, ⟨by (with_reducible repeat (first | apply Kd.R_alloc | apply Kd.R_drewN | apply Kd.R_drew)); exact HO_2.out⟩, ⟨by repeat (first | (with_reducible first | exact HK.out | apply Kept.alloc | apply Kept.drewN | apply Kept.drew) | exact HK.out)⟩, ⟨by repeat (first | (with_reducible first | exact HB.out | apply below_alloc | apply pw_below_drewN | apply below_drew1) | exact HB.out)⟩⟩
             case rest =>
              clear HC64
              try clear c1
              try clear p1
              try clear q1
              try clear hx1
              try clear c2
              try clear p2
              try clear c3
              try clear c4
              try clear c5
              try clear c5b0
              try clear c6
              try clear p6
              try clear c7
              try clear c8
              try clear c8b0
              try clear c9
              try clear c9b0
              try clear c10
              try clear p10
              try clear q10
              try clear hx10
              try clear c12
              try clear c12b0
              try clear c12b1
              try clear c13
              try clear c14
              try clear c14b0
              try clear c15
              try clear c15b0
              try clear p16
              try clear q16
              try clear hx16
              try clear c17
              try clear c17b0
              try clear c17b1
              try clear c20
              try clear c24
              try clear c26
              try clear c26b0
              try clear c26b1
              try clear c30
              try clear c32
              try clear c32b0
              try clear c32b1
              try clear c35
              try clear c37
              try clear c37b0
              try clear c37b1
              try clear c40
              try clear c40b0
              try clear c41
              try clear c41b0
              try clear c44
              try clear c44b0
              try clear c44b1
              try clear c45
              try clear c45b0
              try clear c45b1
              try clear c46
              try clear c46b0
              try clear c46b1
              try clear c48
              try clear c50
              try clear c54
              try clear c54b0
              try clear c54b1
              try clear c55
              try clear c56
              try clear c56b0
              try clear c59
              try clear p64
              try clear c65
              try clear c65b0
              try clear c65b1
              try clear p1
              try clear p10
              try clear p16
              try clear p2
              try clear p6
              try clear q1
              try clear q10
              try clear q16
              obtain ⟨kq, x160_63, rfl, HA, HJ63, HO_2, HK, HB⟩ := hcut; cases kq with
              | zero => exact absurd HA.out (by simp [spec_l16Read.j4])
              | succ kj63 =>
               have H := HA.out; clear HA; simp only [spec_l16Read.j4] at H; by_cases c66 : x160_63 = true
               ·subst c66; have H1 : (if 0 ≤ a1 then (if a1 < (a0.size : Int) then (if (bt a0 a1) = 124 then (spec_l16Read.j5 kj63 a0 a1 l2 8) else (spec_l16Read.j5 kj63 a0 a1 l2 7)) else (none)) else (none)) = some (r1, r2) := by rw [if_pos rfl] at H; exact H
                clear H; have H := H1; clear H1; by_cases c67 : 0 ≤ a1
                ·rw [if_pos c67] at H; have c67b0 : decide (0 ≤ a1) = true := decide_eq_true c67; clear c67; by_cases c68 : a1 < (a0.size : Int)
                 ·rw [if_pos c68] at H; have c68b0 : decide (a1 < (a0.size : Int)) = true := decide_eq_true c68; clear c68; have HC70 := Aside0.mk H; clear H; have p69 : 0 ≤ (a1 : Int) := of_decide_eq_true (by first | (with_reducible assumption) | assumption); have q69 : a1 < (a0.size : Int) := of_decide_eq_true (by first | (with_reducible assumption) | assumption); have hx69 := bt_at a0 a1; replace p69 := eq_true p69; replace q69 := eq_true q69; go_upto_if 166 with (fail); go_cut [14] (fun v14 wc => ∃ (kq : Nat) (x14_69 : Int), v14 = .int .i64 x14_69 ∧ Aside0 (spec_l16Read.j5 kq a0 a1 l2 x14_69 = some (r1, r2)) ∧ Aside0 (kq ≤ kj63) ∧ Aside0 (Kd.R k75 75 wc w0.heap.size (fun k_ => (P2_ k_ ∨ w.heap.size ≤ k_)) u9000_ l2) ∧ Aside0 (Kept w wc (fun k_ => P2_ k_)) ∧ Aside0 (Below w0.heap.size w0 wc))
                  case first =>
                   have H := HC70.out; clear HC70; by_cases c71 : (bt a0 a1) = 124
                   ·rw [if_pos c71] at H; have c71b0 : ((bt a0 a1) == 124) = true := beq_iff_eq.mpr c71; have c71b1 : ((bt a0 a1) != 124) = false := bne_eq_false_iff_eq.mpr c71; clear c71
                    (first | rw [c71b0] | (simp only [i64_w, i32_w]; rw [c71b0]) | skip)
                    as_aux_lemma =>
                     have H' := Aside0.mk H; clear H; go_wp2; go_meet
                     case rel => exact ⟨_, (8), (by first | rfl | (simp; done) | (simp [*]; done)), H', ⟨by have := HJ3.out; have := HJ10.out; have := HJ63.out; first | omega | exact Nat.le_refl _⟩, ⟨by (with_reducible repeat (first | apply Kd.R_alloc | apply Kd.R_drewN | apply Kd.R_drew)); exact HO_2.out⟩, ⟨by repeat (first | (with_reducible first | exact HK.out | apply Kept.alloc | apply Kept.drewN | apply Kept.drew) | exact HK.out)⟩, ⟨by repeat (first | (with_reducible first | exact HB.out | apply below_alloc | apply pw_below_drewN | apply below_drew1) | exact HB.out)⟩⟩
                   ·rw [if_neg c71] at H; have c71b0 : ((bt a0 a1) == 124) = false := beq_eq_false_iff_ne.mpr c71; have c71b1 : ((bt a0 a1) != 124) = true := bne_iff_ne.mpr c71
                    (first | rw [c71b0] | (simp only [i64_w, i32_w]; rw [c71b0]) | skip)
                    as_aux_lemma =>
                     have H' := Aside0.mk H; clear H; go_wp2; go_meet
                     case rel => exact ⟨_, (7), (by first | rfl | (simp; done) | (simp [*]; done)), H', ⟨by have := HJ3.out; have := HJ10.out; have := HJ63.out; first | omega | exact Nat.le_refl _⟩, ⟨by (with_reducible repeat (first | apply Kd.R_alloc | apply Kd.R_drewN | apply Kd.R_drew)); exact HO_2.out⟩, ⟨by repeat (first | (with_reducible first | exact HK.out | apply Kept.alloc | apply Kept.drewN | apply Kept.drew) | exact HK.out)⟩, ⟨by repeat (first | (with_reducible first | exact HB.out | apply below_alloc | apply pw_below_drewN | apply below_drew1) | exact HB.out)⟩⟩
                  case rest =>
                   clear HC70
                   try clear c1
                   try clear p1
                   try clear q1
                   try clear hx1
                   try clear c2
                   try clear p2
                   try clear c3
                   try clear c4
                   try clear c5
                   try clear c5b0
                   try clear c6
                   try clear p6
                   try clear q6
                   try clear hx6
                   try clear c7
                   try clear c8
                   try clear c8b0
                   try clear c9
                   try clear c9b0
                   try clear c10
                   try clear p10
                   try clear q10
                   try clear hx10
                   try clear c12
                   try clear c12b0
                   try clear c12b1
                   try clear c13
                   try clear c14
                   try clear c14b0
                   try clear c15
                   try clear c15b0
                   try clear p16
                   try clear q16
                   try clear hx16
                   try clear c17
                   try clear c17b0
                   try clear c17b1
                   try clear c20
                   try clear c24
                   try clear c26
                   try clear c26b0
                   try clear c26b1
                   try clear c30
                   try clear c32
                   try clear c32b0
                   try clear c32b1
                   try clear c35
                   try clear c37
                   try clear c37b0
                   try clear c37b1
                   try clear c40
                   try clear c40b0
                   try clear c41
                   try clear c41b0
                   try clear c44
                   try clear c44b0
                   try clear c44b1
                   try clear c45
                   try clear c45b0
                   try clear c45b1
                   try clear c46
                   try clear c46b0
                   try clear c46b1
                   try clear c48
                   try clear c50
                   try clear c54
                   try clear c54b0
                   try clear c54b1
                   try clear c55
                   try clear c56
                   try clear c56b0
                   try clear c59
                   try clear p64
                   try clear c65
                   try clear c65b0
                   try clear c65b1
                   try clear c66
                   try clear c67
                   try clear c67b0
                   try clear c68
                   try clear c68b0
                   try clear p69
                   try clear q69
                   try clear hx69
                   try clear c71
                   try clear c71b0
                   try clear c71b1
                   try clear p1
                   try clear p10
                   try clear p16
                   try clear p2
                   try clear p6
                   try clear p64
                   try clear p69
                   try clear q1
                   try clear q10
                   try clear q16
                   try clear q69
                   obtain ⟨kq, x14_69, rfl, HA, HJ69, HO_2, HK, HB⟩ := hcut; cases kq with
                   | zero => exact absurd HA.out (by simp [spec_l16Read.j5])
                   | succ kj69 =>
                    have H := HA.out; clear HA; simp only [spec_l16Read.j5] at H; replace H := Option.bind_eq_some_iff.mp H; obtain ⟨⟨t211, t214⟩, A720, H⟩ := H; replace H : (if t214 < 0 then (some (([] : List (S75)), (-1))) else ((spec_l16Read.f kj69 a0 t214 t211).bind fun bt215 => (if bt215.2 < 0 then (some (([] : List (S75)), (-1))) else (if bt215.1.length < 4398046511104 then (some ((bt215.1 ++ [(⟨x14_69, wrap64 ((t211.length : Int) - 1), wrap64 ((bt215.1.length : Int) - 1), 0⟩ : S75)]), bt215.2)) else (none))))) = some (r1, r2) := H; have A72 := Aside0.mk A720; clear A720; by_cases c73 : t214 < 0
                    ·rw [if_pos c73] at H; have c73b0 : decide (t214 < 0) = true := decide_eq_true c73; clear c73
                     as_aux_lemma =>
                      simp only [Option.some.injEq, Prod.mk.injEq] at H; obtain ⟨rfl, rfl⟩ := H; obtain ⟨Ao74, co74, eo74⟩ := Kd.R_slice HO_2.out; subst eo74; go_wp2_with (first | ((with_reducible refine gate_callee (f := 55) rfl ?_); refine goesL_ (some 172) rfl rfl Tryd.func55 (by kernel_rfl) rfl #[.string a0, .int .i64 (wrap64 (a1 + 1)), .slice Ao74 l2.length co74] rfl (by (try simp only [List.map_toArray, List.map_cons, List.map_nil]); first | done | rfl | (simp only [List.length_drop, List.length_take]; rfl)) ?_; (with_reducible refine (ih kj69 (by have := HJ3.out; have := HJ10.out; have := HJ63.out; have := HJ69.out; omega) a0 (wrap64 (a1 + 1)) (fun k_ => some k_ = (.slice Ao74 l2.length co74 : Value).ownBlock) (.slice Ao74 l2.length co74) l2 t211 t214 w0 _ ?side1 ?side2 A72.out).mono ?_); (case side1 => repeat (first | (with_reducible first | exact HB.out | apply below_alloc | apply pw_below_drewN | apply below_drew1) | exact HB.out)); (case side2 => exact Kd.R_tight rfl HO_2.out); rintro e w75 ⟨v212, vx_, rfl, ho0, hvx_, hb, hkp⟩; (first | (have h0_ := hvx_ (nn_ (by first | (with_reducible assumption) | assumption : decide (t214 < 0) = false)); subst h0_) | clear hvx_); refine ⟨_, rfl, ?_⟩; have n0_ := Aside0.mk (Kd.R_mono (ok' := fun k_ => (P2_ k_ ∨ w.heap.size ≤ k_)) ho0 (fun k_ hk_ => Or.elim hk_ (fun hs_ => (HO_2.out.1 k_ (hs_).symm)) (fun hn_ => (.inr (Nat.le_trans (by first | exact HK.out.1 | exact (show Kept w _ (fun k_ => P2_ k_) from by repeat (first | (with_reducible first | exact HK.out | apply Kept.alloc | apply Kept.drewN | apply Kept.drew) | exact HK.out)).1) hn_))))); have n1_ := Aside0.mk (Kept.then_ (S := (fun k_ => P2_ k_)) (by repeat (first | (with_reducible first | exact HK.out | apply Kept.alloc | apply Kept.drewN | apply Kept.drew) | exact HK.out)) hkp (fun k_ hs_ => (fun e_ => (HO_2.out.1 k_ e_.symm)) hs_)); have n2_ := Aside0.mk (hb); clear HK; clear HB; clear HO_2; have HO213 := n0_; have HK := n1_; have HB := n2_; clear n0_ n1_ n2_; (try clear hb); (try clear hkp); (try clear ho0))); go_ret2
                      first | exact ⟨_, _, by first | rfl | (simp [errW_none, errW_some] <;> rfl) | (simp [*, errW_none, errW_some] <;> rfl), Kd.R_nil _ _ _ _ _, fun h_ => absurd h_ (by decide), by repeat (first | (with_reducible first | exact HB.out | apply below_alloc | apply pw_below_drewN | apply below_drew1) | exact HB.out), by repeat (first | (with_reducible first | exact HK.out | apply Kept.alloc | apply Kept.drewN | apply Kept.drew) | exact HK.out)⟩ | exact ⟨⟨_, Kd.R_nil _ _ _ _ _⟩, by repeat (first | (with_reducible first | exact HB.out | apply below_alloc | apply pw_below_drewN | apply below_drew1) | exact HB.out), by repeat (first | (with_reducible first | exact HK.out | apply Kept.alloc | apply Kept.drewN | apply Kept.drew) | exact HK.out)⟩ | exact ⟨⟨_, by first | rfl | (simp [errW_none, errW_some] <;> rfl) | (simp [*, errW_none, errW_some] <;> rfl)⟩, ⟨_, Kd.R_nil _ _ _ _ _⟩, by repeat (first | (with_reducible first | exact HB.out | apply below_alloc | apply pw_below_drewN | apply below_drew1) | exact HB.out), by repeat (first | (with_reducible first | exact HK.out | apply Kept.alloc | apply Kept.drewN | apply Kept.drew) | exact HK.out)⟩
                    ·rw [if_neg c73] at H; have c73b0 : decide (t214 < 0) = false := decide_eq_false c73; clear c73; replace H := Option.bind_eq_some_iff.mp H; obtain ⟨⟨t215, t218⟩, A760, H⟩ := H; replace H : (if t218 < 0 then (some (([] : List (S75)), (-1))) else (if t215.length < 4398046511104 then (some ((t215 ++ [(⟨x14_69, wrap64 ((t211.length : Int) - 1), wrap64 ((t215.length : Int) - 1), 0⟩ : S75)]), t218)) else (none))) = some (r1, r2) := H; have A76 := Aside0.mk A760; clear A760; by_cases c77 : t218 < 0
                     ·rw [if_pos c77] at H; have c77b0 : decide (t218 < 0) = true := decide_eq_true c77; clear c77
                      as_aux_lemma =>
                       simp only [Option.some.injEq, Prod.mk.injEq] at H; obtain ⟨rfl, rfl⟩ := H; obtain ⟨Ao78, co78, eo78⟩ := Kd.R_slice HO_2.out; subst eo78; go_wp2_with (first | ((with_reducible refine gate_callee (f := 55) rfl ?_); refine goesL_ (some 172) rfl rfl Tryd.func55 (by kernel_rfl) rfl #[.string a0, .int .i64 (wrap64 (a1 + 1)), .slice Ao78 l2.length co78] rfl (by (try simp only [List.map_toArray, List.map_cons, List.map_nil]); first | done | rfl | (simp only [List.length_drop, List.length_take]; rfl)) ?_; (with_reducible refine (ih kj69 (by have := HJ3.out; have := HJ10.out; have := HJ63.out; have := HJ69.out; omega) a0 (wrap64 (a1 + 1)) (fun k_ => some k_ = (.slice Ao78 l2.length co78 : Value).ownBlock) (.slice Ao78 l2.length co78) l2 t211 t214 w0 _ ?side1 ?side2 A72.out).mono ?_); (case side1 => repeat (first | (with_reducible first | exact HB.out | apply below_alloc | apply pw_below_drewN | apply below_drew1) | exact HB.out)); (case side2 => exact Kd.R_tight rfl HO_2.out); rintro e w79 ⟨v212, vx_, rfl, ho0, hvx_, hb, hkp⟩; (first | (have h0_ := hvx_ (nn_ (by first | (with_reducible assumption) | assumption : decide (t214 < 0) = false)); subst h0_) | clear hvx_); refine ⟨_, rfl, ?_⟩; have n0_ := Aside0.mk (Kd.R_mono (ok' := fun k_ => (P2_ k_ ∨ w.heap.size ≤ k_)) ho0 (fun k_ hk_ => Or.elim hk_ (fun hs_ => (HO_2.out.1 k_ (hs_).symm)) (fun hn_ => (.inr (Nat.le_trans (by first | exact HK.out.1 | exact (show Kept w _ (fun k_ => P2_ k_) from by repeat (first | (with_reducible first | exact HK.out | apply Kept.alloc | apply Kept.drewN | apply Kept.drew) | exact HK.out)).1) hn_))))); have n1_ := Aside0.mk (Kept.then_ (S := (fun k_ => P2_ k_)) (by repeat (first | (with_reducible first | exact HK.out | apply Kept.alloc | apply Kept.drewN | apply Kept.drew) | exact HK.out)) hkp (fun k_ hs_ => (fun e_ => (HO_2.out.1 k_ e_.symm)) hs_)); have n2_ := Aside0.mk (hb); clear HK; clear HB; clear HO_2; have HO213 := n0_; have HK := n1_; have HB := n2_; clear n0_ n1_ n2_; (try clear hb); (try clear hkp); (try clear ho0); obtain ⟨Ao80, co80, eo80⟩ := Kd.R_slice HO213.out; subst eo80) | ((with_reducible refine gate_callee (f := 55) rfl ?_); refine goesL_ (some 185) rfl rfl Tryd.func55 (by kernel_rfl) rfl #[.string a0, .int .i64 t214, .slice Ao80 t211.length co80] rfl (by (try simp only [List.map_toArray, List.map_cons, List.map_nil]); first | done | rfl | (simp only [List.length_drop, List.length_take]; rfl)) ?_; (with_reducible refine (ih kj69 (by have := HJ3.out; have := HJ10.out; have := HJ63.out; have := HJ69.out; omega) a0 t214 (fun k_ => some k_ = (.slice Ao80 t211.length co80 : Value).ownBlock) (.slice Ao80 t211.length co80) t211 t215 t218 w0 _ ?side1 ?side2 A76.out).mono ?_); (case side1 => repeat (first | (with_reducible first | exact HB.out | apply below_alloc | apply pw_below_drewN | apply below_drew1) | exact HB.out)); (case side2 => exact Kd.R_tight rfl HO213.out); rintro e w81 ⟨v216, vx_, rfl, ho0, hvx_, hb, hkp⟩; (first | (have h0_ := hvx_ (nn_ (by first | (with_reducible assumption) | assumption : decide (t218 < 0) = false)); subst h0_) | clear hvx_); refine ⟨_, rfl, ?_⟩; have n0_ := Aside0.mk (Kd.R_mono (ok' := fun k_ => (P2_ k_ ∨ w.heap.size ≤ k_)) ho0 (fun k_ hk_ => Or.elim hk_ (fun hs_ => (HO213.out.1 k_ (hs_).symm)) (fun hn_ => (.inr (Nat.le_trans (by first | exact HK.out.1 | exact (show Kept w _ (fun k_ => P2_ k_) from by repeat (first | (with_reducible first | exact HK.out | apply Kept.alloc | apply Kept.drewN | apply Kept.drew) | exact HK.out)).1) hn_))))); have n1_ := Aside0.mk (Kept.then_ (S := (fun k_ => P2_ k_)) (by repeat (first | (with_reducible first | exact HK.out | apply Kept.alloc | apply Kept.drewN | apply Kept.drew) | exact HK.out)) hkp (fun k_ hs_ => (fun e_ => (HO213.out.1 k_ e_.symm)) hs_)); have n2_ := Aside0.mk (hb); clear HK; clear HB; clear HO213; have HO217 := n0_; have HK := n1_; have HB := n2_; clear n0_ n1_ n2_; (try clear hb); (try clear hkp); (try clear ho0))); go_ret2
                       first | exact ⟨_, _, by first | rfl | (simp [errW_none, errW_some] <;> rfl) | (simp [*, errW_none, errW_some] <;> rfl), Kd.R_nil _ _ _ _ _, fun h_ => absurd h_ (by decide), by repeat (first | (with_reducible first | exact HB.out | apply below_alloc | apply pw_below_drewN | apply below_drew1) | exact HB.out), by repeat (first | (with_reducible first | exact HK.out | apply Kept.alloc | apply Kept.drewN | apply Kept.drew) | exact HK.out)⟩ | exact ⟨⟨_, Kd.R_nil _ _ _ _ _⟩, by repeat (first | (with_reducible first | exact HB.out | apply below_alloc | apply pw_below_drewN | apply below_drew1) | exact HB.out), by repeat (first | (with_reducible first | exact HK.out | apply Kept.alloc | apply Kept.drewN | apply Kept.drew) | exact HK.out)⟩ | exact ⟨⟨_, by first | rfl | (simp [errW_none, errW_some] <;> rfl) | (simp [*, errW_none, errW_some] <;> rfl)⟩, ⟨_, Kd.R_nil _ _ _ _ _⟩, by repeat (first | (with_reducible first | exact HB.out | apply below_alloc | apply pw_below_drewN | apply below_drew1) | exact HB.out), by repeat (first | (with_reducible first | exact HK.out | apply Kept.alloc | apply Kept.drewN | apply Kept.drew) | exact HK.out)⟩
                     ·rw [if_neg c77] at H; have c77b0 : decide (t218 < 0) = false := decide_eq_false c77; clear c77; by_cases c82 : t215.length < 4398046511104
                      ·rw [if_pos c82] at H; have LMc82 := Aside0.mk c82; clear c82; obtain ⟨y219, hy219⟩ : ∃ y_ : List (S75), y_ = (t215 ++ [(⟨x14_69, wrap64 ((t211.length : Int) - 1), wrap64 ((t215.length : Int) - 1), 0⟩ : S75)]) := ⟨_, rfl⟩; replace H : (some (y219, t218)) = some (r1, r2) := by first | (rw [hy219]; with_reducible exact H) | (have H2_ := (Option.bind_some _ _).symm.trans H; rw [hy219]; with_reducible exact H2_) | (have H2_ := (Option.bind_some _ _).symm.trans H; with_reducible exact H2_) | with_reducible exact H | (rw [hy219]; exact H) | exact H
                       have Ny219 := Aside0.mk hy219; clear hy219
                       as_aux_lemma =>
                        simp only [Option.some.injEq, Prod.mk.injEq] at H; obtain ⟨rfl, rfl⟩ := H; obtain ⟨Ao83, co83, eo83⟩ := Kd.R_slice HO_2.out; subst eo83; go_wp2_with (first | ((with_reducible refine gate_callee (f := 55) rfl ?_); refine goesL_ (some 172) rfl rfl Tryd.func55 (by kernel_rfl) rfl #[.string a0, .int .i64 (wrap64 (a1 + 1)), .slice Ao83 l2.length co83] rfl (by (try simp only [List.map_toArray, List.map_cons, List.map_nil]); first | done | rfl | (simp only [List.length_drop, List.length_take]; rfl)) ?_; (with_reducible refine (ih kj69 (by have := HJ3.out; have := HJ10.out; have := HJ63.out; have := HJ69.out; omega) a0 (wrap64 (a1 + 1)) (fun k_ => some k_ = (.slice Ao83 l2.length co83 : Value).ownBlock) (.slice Ao83 l2.length co83) l2 t211 t214 w0 _ ?side1 ?side2 A72.out).mono ?_); (case side1 => repeat (first | (with_reducible first | exact HB.out | apply below_alloc | apply pw_below_drewN | apply below_drew1) | exact HB.out)); (case side2 => exact Kd.R_tight rfl HO_2.out); rintro e w84 ⟨v212, vx_, rfl, ho0, hvx_, hb, hkp⟩; (first | (have h0_ := hvx_ (nn_ (by first | (with_reducible assumption) | assumption : decide (t214 < 0) = false)); subst h0_) | clear hvx_); refine ⟨_, rfl, ?_⟩; have n0_ := Aside0.mk (Kd.R_mono (ok' := fun k_ => (P2_ k_ ∨ w.heap.size ≤ k_)) ho0 (fun k_ hk_ => Or.elim hk_ (fun hs_ => (HO_2.out.1 k_ (hs_).symm)) (fun hn_ => (.inr (Nat.le_trans (by first | exact HK.out.1 | exact (show Kept w _ (fun k_ => P2_ k_) from by repeat (first | (with_reducible first | exact HK.out | apply Kept.alloc | apply Kept.drewN | apply Kept.drew) | exact HK.out)).1) hn_))))); have n1_ := Aside0.mk (Kept.then_ (S := (fun k_ => P2_ k_)) (by repeat (first | (with_reducible first | exact HK.out | apply Kept.alloc | apply Kept.drewN | apply Kept.drew) | exact HK.out)) hkp (fun k_ hs_ => (fun e_ => (HO_2.out.1 k_ e_.symm)) hs_)); have n2_ := Aside0.mk (hb); clear HK; clear HB; clear HO_2; have HO213 := n0_; have HK := n1_; have HB := n2_; clear n0_ n1_ n2_; (try clear hb); (try clear hkp); (try clear ho0); obtain ⟨Ao85, co85, eo85⟩ := Kd.R_slice HO213.out; subst eo85) | ((with_reducible refine gate_callee (f := 55) rfl ?_); refine goesL_ (some 185) rfl rfl Tryd.func55 (by kernel_rfl) rfl #[.string a0, .int .i64 t214, .slice Ao85 t211.length co85] rfl (by (try simp only [List.map_toArray, List.map_cons, List.map_nil]); first | done | rfl | (simp only [List.length_drop, List.length_take]; rfl)) ?_; (with_reducible refine (ih kj69 (by have := HJ3.out; have := HJ10.out; have := HJ63.out; have := HJ69.out; omega) a0 t214 (fun k_ => some k_ = (.slice Ao85 t211.length co85 : Value).ownBlock) (.slice Ao85 t211.length co85) t211 t215 t218 w0 _ ?side1 ?side2 A76.out).mono ?_); (case side1 => repeat (first | (with_reducible first | exact HB.out | apply below_alloc | apply pw_below_drewN | apply below_drew1) | exact HB.out)); (case side2 => exact Kd.R_tight rfl HO213.out); rintro e w86 ⟨v216, vx_, rfl, ho0, hvx_, hb, hkp⟩; (first | (have h0_ := hvx_ (nn_ (by first | (with_reducible assumption) | assumption : decide (t218 < 0) = false)); subst h0_) | clear hvx_); refine ⟨_, rfl, ?_⟩; have n0_ := Aside0.mk (Kd.R_mono (ok' := fun k_ => (P2_ k_ ∨ w.heap.size ≤ k_)) ho0 (fun k_ hk_ => Or.elim hk_ (fun hs_ => (HO213.out.1 k_ (hs_).symm)) (fun hn_ => (.inr (Nat.le_trans (by first | exact HK.out.1 | exact (show Kept w _ (fun k_ => P2_ k_) from by repeat (first | (with_reducible first | exact HK.out | apply Kept.alloc | apply Kept.drewN | apply Kept.drew) | exact HK.out)).1) hn_))))); have n1_ := Aside0.mk (Kept.then_ (S := (fun k_ => P2_ k_)) (by repeat (first | (with_reducible first | exact HK.out | apply Kept.alloc | apply Kept.drewN | apply Kept.drew) | exact HK.out)) hkp (fun k_ hs_ => (fun e_ => (HO213.out.1 k_ e_.symm)) hs_)); have n2_ := Aside0.mk (hb); clear HK; clear HB; clear HO213; have HO217 := n0_; have HK := n1_; have HB := n2_; clear n0_ n1_ n2_; (try clear hb); (try clear hkp); (try clear ho0); obtain ⟨Ao87, co87, eo87⟩ := Kd.R_slice HO217.out; subst eo87) | ((with_reducible refine gate_builtin (b := .append) (xs := #[.tmp 191, .tmp 198]) rfl ?_); (try (refine gate_guard (by rfl) ?_; dsimp only)); at_builtin; refine Kd.R_append k75 (w0 := w0) w0.heap.size rfl (.tmp 191) (.tmp 198) 36 75 (.agg #[(.int .i64 0), (.int .i64 0), (.int .i64 0), (.int .i64 0)]) 32 rfl Tryd.underlying36 info75 rfl (by decide) (by omega) (.slice Ao87 t215.length co87) t215 (⟨x14_69, wrap64 ((t211.length : Int) - 1), wrap64 ((t215.length : Int) - 1), 0⟩ : S75) [.int .i64 x14_69, .int .i64 (wrap64 ((t211.length : Int) - 1)), .int .i64 (wrap64 ((t215.length : Int) - 1)), .int .i64 0] (fun k_ => (P2_ k_ ∨ w.heap.size ≤ k_)) (fun _ => False) rfl rfl ?aP (fun _ hk => hk.elim) ?aF ?aO ?aB ?aS ?aL ?_; (case aP => exact k75_mkM _ _ _ (⟨x14_69, wrap64 ((t211.length : Int) - 1), wrap64 ((t215.length : Int) - 1), 0⟩ : S75)); (case aB => exact (by repeat (first | (with_reducible first | exact HB.out | apply below_alloc | apply pw_below_drewN | apply below_drew1) | exact HB.out))); (case aF => exact (fun k_ hk => (.inr (Nat.le_trans (by first | exact HK.out.1 | exact (show Kept w _ (fun k_ => P2_ k_) from by repeat (first | (with_reducible first | exact HK.out | apply Kept.alloc | apply Kept.drewN | apply Kept.drew) | exact HK.out)).1) hk)))); (case aO => exact (by (with_reducible repeat (first | apply Kd.R_alloc | apply Kd.R_drewN | apply Kd.R_drew)); exact HO217.out)); (case aS => exact (below_size (by repeat (first | (with_reducible first | exact HB.out | apply below_alloc | apply pw_below_drewN | apply below_drew1) | exact HB.out)))); (case aL => have := LMc82.out; omega); intro v220 w88 ho hb hg hat; rw [← Ny219.out] at ho; have n0_ := Aside0.mk (hb); have n1_ := Aside0.mk (Kept.of_grown (S := (fun k_ => P2_ k_)) hg (by repeat (first | (with_reducible first | exact HK.out | apply Kept.alloc | apply Kept.drewN | apply Kept.drew) | exact HK.out)) (fun k_ e_ => (HO217.out.1 k_ e_))); have n2_ := Aside0.mk (ho); clear HB; clear HK; clear HO217; have HB := n0_; have HK := n1_; have HO221 := n2_; clear n0_ n1_ n2_; clear ho hb hg hat)); go_ret2; exact ⟨_, _, by first | rfl | (simp [errW_none, errW_some] <;> rfl) | (simp [*, errW_none, errW_some] <;> rfl), by (with_reducible repeat (first | apply Kd.R_alloc | apply Kd.R_drewN | apply Kd.R_drew)); exact HO221.out, fun _ => rfl, by repeat (first | (with_reducible first | exact HB.out | apply below_alloc | apply pw_below_drewN | apply below_drew1) | exact HB.out), by repeat (first | (with_reducible first | exact HK.out | apply Kept.alloc | apply Kept.drewN | apply Kept.drew) | exact HK.out)⟩
                      ·rw [if_neg c82] at H; exact absurd H (by simp)
                 ·rw [if_neg c68] at H; exact absurd H (by simp)
                ·rw [if_neg c67] at H; exact absurd H (by simp)
               ·replace c66 := Bool.eq_false_iff.mpr c66; subst c66; have H1 : (if (bt a0 a1) = 69 then (spec_l16Read.j6 kj63 a0 a1 l2 ((bt a0 a1) == 69)) else (spec_l16Read.j6 kj63 a0 a1 l2 ((bt a0 a1) == 65))) = some (r1, r2) := by rw [if_neg (show ¬ (false = true) by decide)] at H; exact H
                clear H; have H := H1; clear H1; have HC89 := Aside0.mk H; clear H; go_upto_if 201 with (fail); go_cut [201] (fun v201 wc => ∃ (kq : Nat) (x201_88 : Bool), v201 = .bool x201_88 ∧ Aside0 (spec_l16Read.j6 kq a0 a1 l2 x201_88 = some (r1, r2)) ∧ Aside0 (kq ≤ kj63) ∧ Aside0 (Kd.R k75 75 wc w0.heap.size (fun k_ => (P2_ k_ ∨ w.heap.size ≤ k_)) u9000_ l2) ∧ Aside0 (Kept w wc (fun k_ => P2_ k_)) ∧ Aside0 (Below w0.heap.size w0 wc))
                case first =>
                 have H := HC89.out; clear HC89; by_cases c90 : (bt a0 a1) = 69
                 ·rw [if_pos c90] at H; have c90b0 : ((bt a0 a1) == 69) = true := beq_iff_eq.mpr c90; have c90b1 : ((bt a0 a1) != 69) = false := bne_eq_false_iff_eq.mpr c90; clear c90
                  (first | rw [c90b0] | (simp only [i64_w, i32_w]; rw [c90b0]) | skip)
                  as_aux_lemma =>
                   have H' := Aside0.mk H; clear H; go_wp2; go_meet
                   case rel => exact ⟨_, (((bt a0 a1) == 69)), (by first | rfl | (simp; done) | (simp [*]; done)), H', ⟨by have := HJ3.out; have := HJ10.out; have := HJ63.out; first | omega | exact Nat.le_refl _⟩, ⟨by (with_reducible repeat (first | apply Kd.R_alloc | apply Kd.R_drewN | apply Kd.R_drew)); exact HO_2.out⟩, ⟨by repeat (first | (with_reducible first | exact HK.out | apply Kept.alloc | apply Kept.drewN | apply Kept.drew) | exact HK.out)⟩, ⟨by repeat (first | (with_reducible first | exact HB.out | apply below_alloc | apply pw_below_drewN | apply below_drew1) | exact HB.out)⟩⟩
                 ·rw [if_neg c90] at H; have c90b0 : ((bt a0 a1) == 69) = false := beq_eq_false_iff_ne.mpr c90; have c90b1 : ((bt a0 a1) != 69) = true := bne_iff_ne.mpr c90
                  (first | rw [c90b0] | (simp only [i64_w, i32_w]; rw [c90b0]) | skip)
                  as_aux_lemma =>
                   have H' := Aside0.mk H; clear H; go_wp2; go_meet
                   case rel => exact ⟨_, (((bt a0 a1) == 65)), (by first | rfl | (simp; done) | (simp [*]; done)), H', ⟨by have := HJ3.out; have := HJ10.out; have := HJ63.out; first | omega | exact Nat.le_refl _⟩, ⟨by (with_reducible repeat (first | apply Kd.R_alloc | apply Kd.R_drewN | apply Kd.R_drew)); exact HO_2.out⟩, ⟨by repeat (first | (with_reducible first | exact HK.out | apply Kept.alloc | apply Kept.drewN | apply Kept.drew) | exact HK.out)⟩, ⟨by repeat (first | (with_reducible first | exact HB.out | apply below_alloc | apply pw_below_drewN | apply below_drew1) | exact HB.out)⟩⟩
                case rest =>
                 clear HC89
                 try clear c1
                 try clear p1
                 try clear q1
                 try clear hx1
                 try clear c2
                 try clear p2
                 try clear c3
                 try clear c4
                 try clear c5
                 try clear c5b0
                 try clear c6
                 try clear p6
                 try clear q6
                 try clear hx6
                 try clear c7
                 try clear c8
                 try clear c8b0
                 try clear c9
                 try clear c9b0
                 try clear c10
                 try clear p10
                 try clear q10
                 try clear hx10
                 try clear c12
                 try clear c12b0
                 try clear c12b1
                 try clear c13
                 try clear c14
                 try clear c14b0
                 try clear c15
                 try clear c15b0
                 try clear p16
                 try clear q16
                 try clear hx16
                 try clear c17
                 try clear c17b0
                 try clear c17b1
                 try clear c20
                 try clear c24
                 try clear c26
                 try clear c26b0
                 try clear c26b1
                 try clear c30
                 try clear c32
                 try clear c32b0
                 try clear c32b1
                 try clear c35
                 try clear c37
                 try clear c37b0
                 try clear c37b1
                 try clear c40
                 try clear c40b0
                 try clear c41
                 try clear c41b0
                 try clear c44
                 try clear c44b0
                 try clear c44b1
                 try clear c45
                 try clear c45b0
                 try clear c45b1
                 try clear c46
                 try clear c46b0
                 try clear c46b1
                 try clear c48
                 try clear c50
                 try clear c54
                 try clear c54b0
                 try clear c54b1
                 try clear c55
                 try clear c56
                 try clear c56b0
                 try clear c59
                 try clear p64
                 try clear c65
                 try clear c65b0
                 try clear c65b1
                 try clear c66
                 try clear c67
                 try clear c67b0
                 try clear c68
                 try clear c68b0
                 try clear p69
                 try clear q69
                 try clear hx69
                 try clear c71
                 try clear c71b0
                 try clear c71b1
                 try clear c73
                 try clear c73b0
                 try clear c77
                 try clear c77b0
                 try clear c82
                 try clear c90
                 try clear c90b0
                 try clear c90b1
                 try clear p1
                 try clear p10
                 try clear p16
                 try clear p2
                 try clear p6
                 try clear p64
                 try clear p69
                 try clear q1
                 try clear q10
                 try clear q16
                 try clear q6
                 try clear q69
                 obtain ⟨kq, x201_88, rfl, HA, HJ88, HO_2, HK, HB⟩ := hcut; cases kq with
                 | zero => exact absurd HA.out (by simp [spec_l16Read.j6])
                 | succ kj88 =>
                  have H := HA.out; clear HA; simp only [spec_l16Read.j6] at H; by_cases c91 : x201_88 = true
                  ·subst c91; have H1 : (if 0 ≤ a1 then (if a1 < (a0.size : Int) then (if (bt a0 a1) = 65 then (spec_l16Read.j7 kj88 a0 a1 l2 10) else (spec_l16Read.j7 kj88 a0 a1 l2 9)) else (none)) else (none)) = some (r1, r2) := by rw [if_pos rfl] at H; exact H
                   clear H; have H := H1; clear H1; by_cases c92 : 0 ≤ a1
                   ·rw [if_pos c92] at H; have c92b0 : decide (0 ≤ a1) = true := decide_eq_true c92; clear c92; by_cases c93 : a1 < (a0.size : Int)
                    ·rw [if_pos c93] at H; have c93b0 : decide (a1 < (a0.size : Int)) = true := decide_eq_true c93; clear c93; have HC95 := Aside0.mk H; clear H; have p94 : 0 ≤ (a1 : Int) := of_decide_eq_true (by first | (with_reducible assumption) | assumption); have q94 : a1 < (a0.size : Int) := of_decide_eq_true (by first | (with_reducible assumption) | assumption); have hx94 := bt_at a0 a1; replace p94 := eq_true p94; replace q94 := eq_true q94; go_upto_if 207 with (fail); go_cut [20] (fun v20 wc => ∃ (kq : Nat) (x20_94 : Int), v20 = .int .i64 x20_94 ∧ Aside0 (spec_l16Read.j7 kq a0 a1 l2 x20_94 = some (r1, r2)) ∧ Aside0 (kq ≤ kj88) ∧ Aside0 (Kd.R k75 75 wc w0.heap.size (fun k_ => (P2_ k_ ∨ w.heap.size ≤ k_)) u9000_ l2) ∧ Aside0 (Kept w wc (fun k_ => P2_ k_)) ∧ Aside0 (Below w0.heap.size w0 wc))
                     case first =>
                      have H := HC95.out; clear HC95; by_cases c96 : (bt a0 a1) = 65
                      ·rw [if_pos c96] at H; have c96b0 : ((bt a0 a1) == 65) = true := beq_iff_eq.mpr c96; have c96b1 : ((bt a0 a1) != 65) = false := bne_eq_false_iff_eq.mpr c96; clear c96
                       (first | rw [c96b0] | (simp only [i64_w, i32_w]; rw [c96b0]) | skip)
                       as_aux_lemma =>
                        have H' := Aside0.mk H; clear H; go_wp2; go_meet
                        case rel => exact ⟨_, (10), (by first | rfl | (simp; done) | (simp [*]; done)), H', ⟨by have := HJ3.out; have := HJ10.out; have := HJ63.out; have := HJ88.out; first | omega | exact Nat.le_refl _⟩, ⟨by (with_reducible repeat (first | apply Kd.R_alloc | apply Kd.R_drewN | apply Kd.R_drew)); exact HO_2.out⟩, ⟨by repeat (first | (with_reducible first | exact HK.out | apply Kept.alloc | apply Kept.drewN | apply Kept.drew) | exact HK.out)⟩, ⟨by repeat (first | (with_reducible first | exact HB.out | apply below_alloc | apply pw_below_drewN | apply below_drew1) | exact HB.out)⟩⟩
                      ·rw [if_neg c96] at H; have c96b0 : ((bt a0 a1) == 65) = false := beq_eq_false_iff_ne.mpr c96; have c96b1 : ((bt a0 a1) != 65) = true := bne_iff_ne.mpr c96
                       (first | rw [c96b0] | (simp only [i64_w, i32_w]; rw [c96b0]) | skip)
                       as_aux_lemma =>
                        have H' := Aside0.mk H; clear H; go_wp2; go_meet
                        case rel => exact ⟨_, (9), (by first | rfl | (simp; done) | (simp [*]; done)), H', ⟨by have := HJ3.out; have := HJ10.out; have := HJ63.out; have := HJ88.out; first | omega | exact Nat.le_refl _⟩, ⟨by (with_reducible repeat (first | apply Kd.R_alloc | apply Kd.R_drewN | apply Kd.R_drew)); exact HO_2.out⟩, ⟨by repeat (first | (with_reducible first | exact HK.out | apply Kept.alloc | apply Kept.drewN | apply Kept.drew) | exact HK.out)⟩, ⟨by repeat (first | (with_reducible first | exact HB.out | apply below_alloc | apply pw_below_drewN | apply below_drew1) | exact HB.out)⟩⟩
                     case rest =>
                      clear HC95
                      try clear c1
                      try clear p1
                      try clear q1
                      try clear hx1
                      try clear c2
                      try clear p2
                      try clear c3
                      try clear c4
                      try clear c5
                      try clear c5b0
                      try clear c6
                      try clear p6
                      try clear q6
                      try clear hx6
                      try clear c7
                      try clear c8
                      try clear c8b0
                      try clear c9
                      try clear c9b0
                      try clear p9
                      try clear q9
                      try clear hx9
                      try clear c10
                      try clear p10
                      try clear q10
                      try clear hx10
                      try clear c12
                      try clear c12b0
                      try clear c12b1
                      try clear c13
                      try clear c14
                      try clear c14b0
                      try clear c15
                      try clear c15b0
                      try clear p16
                      try clear q16
                      try clear hx16
                      try clear c17
                      try clear c17b0
                      try clear c17b1
                      try clear c20
                      try clear c24
                      try clear c26
                      try clear c26b0
                      try clear c26b1
                      try clear c30
                      try clear c32
                      try clear c32b0
                      try clear c32b1
                      try clear c35
                      try clear c37
                      try clear c37b0
                      try clear c37b1
                      try clear c40
                      try clear c40b0
                      try clear c41
                      try clear c41b0
                      try clear c44
                      try clear c44b0
                      try clear c44b1
                      try clear c45
                      try clear c45b0
                      try clear c45b1
                      try clear c46
                      try clear c46b0
                      try clear c46b1
                      try clear c48
                      try clear c50
                      try clear c54
                      try clear c54b0
                      try clear c54b1
                      try clear c55
                      try clear c56
                      try clear c56b0
                      try clear c59
                      try clear p64
                      try clear c65
                      try clear c65b0
                      try clear c65b1
                      try clear c66
                      try clear c67
                      try clear c67b0
                      try clear c68
                      try clear c68b0
                      try clear p69
                      try clear q69
                      try clear hx69
                      try clear c71
                      try clear c71b0
                      try clear c71b1
                      try clear c73
                      try clear c73b0
                      try clear c77
                      try clear c77b0
                      try clear c82
                      try clear c90
                      try clear c90b0
                      try clear c90b1
                      try clear c91
                      try clear c92
                      try clear c92b0
                      try clear c93
                      try clear c93b0
                      try clear p94
                      try clear q94
                      try clear hx94
                      try clear c96
                      try clear c96b0
                      try clear c96b1
                      try clear p1
                      try clear p10
                      try clear p16
                      try clear p2
                      try clear p6
                      try clear p64
                      try clear p69
                      try clear p94
                      try clear q1
                      try clear q10
                      try clear q16
                      try clear q6
                      try clear q69
                      try clear q94
                      obtain ⟨kq, x20_94, rfl, HA, HJ94, HO_2, HK, HB⟩ := hcut; cases kq with
                      | zero => exact absurd HA.out (by simp [spec_l16Read.j7])
                      | succ kj94 =>
                       have H := HA.out; clear HA; simp only [spec_l16Read.j7] at H; replace H := Option.bind_eq_some_iff.mp H; obtain ⟨⟨t222, t225⟩, A970, H⟩ := H; replace H : (if t225 < 0 then (some (([] : List (S75)), (-1))) else ((spec_l16Digit.f a0 (wrap64 (a1 + 1))).bind fun t226 => (if t222.length < 4398046511104 then (some ((t222 ++ [(⟨x20_94, t226, wrap64 ((t222.length : Int) - 1), 0⟩ : S75)]), t225)) else (none)))) = some (r1, r2) := H; have A97 := Aside0.mk A970; clear A970; by_cases c98 : t225 < 0
                       ·rw [if_pos c98] at H; have c98b0 : decide (t225 < 0) = true := decide_eq_true c98; clear c98
                        as_aux_lemma =>
                         simp only [Option.some.injEq, Prod.mk.injEq] at H; obtain ⟨rfl, rfl⟩ := H; obtain ⟨Ao99, co99, eo99⟩ := Kd.R_slice HO_2.out; subst eo99; go_wp2_with (first | ((with_reducible refine gate_callee (f := 55) rfl ?_); refine goesL_ (some 213) rfl rfl Tryd.func55 (by kernel_rfl) rfl #[.string a0, .int .i64 (wrap64 (a1 + 2)), .slice Ao99 l2.length co99] rfl (by (try simp only [List.map_toArray, List.map_cons, List.map_nil]); first | done | rfl | (simp only [List.length_drop, List.length_take]; rfl)) ?_; (with_reducible refine (ih kj94 (by have := HJ3.out; have := HJ10.out; have := HJ63.out; have := HJ88.out; have := HJ94.out; omega) a0 (wrap64 (a1 + 2)) (fun k_ => some k_ = (.slice Ao99 l2.length co99 : Value).ownBlock) (.slice Ao99 l2.length co99) l2 t222 t225 w0 _ ?side1 ?side2 A97.out).mono ?_); (case side1 => repeat (first | (with_reducible first | exact HB.out | apply below_alloc | apply pw_below_drewN | apply below_drew1) | exact HB.out)); (case side2 => exact Kd.R_tight rfl HO_2.out); rintro e w100 ⟨v223, vx_, rfl, ho0, hvx_, hb, hkp⟩; (first | (have h0_ := hvx_ (nn_ (by first | (with_reducible assumption) | assumption : decide (t225 < 0) = false)); subst h0_) | clear hvx_); refine ⟨_, rfl, ?_⟩; have n0_ := Aside0.mk (Kd.R_mono (ok' := fun k_ => (P2_ k_ ∨ w.heap.size ≤ k_)) ho0 (fun k_ hk_ => Or.elim hk_ (fun hs_ => (HO_2.out.1 k_ (hs_).symm)) (fun hn_ => (.inr (Nat.le_trans (by first | exact HK.out.1 | exact (show Kept w _ (fun k_ => P2_ k_) from by repeat (first | (with_reducible first | exact HK.out | apply Kept.alloc | apply Kept.drewN | apply Kept.drew) | exact HK.out)).1) hn_))))); have n1_ := Aside0.mk (Kept.then_ (S := (fun k_ => P2_ k_)) (by repeat (first | (with_reducible first | exact HK.out | apply Kept.alloc | apply Kept.drewN | apply Kept.drew) | exact HK.out)) hkp (fun k_ hs_ => (fun e_ => (HO_2.out.1 k_ e_.symm)) hs_)); have n2_ := Aside0.mk (hb); clear HK; clear HB; clear HO_2; have HO224 := n0_; have HK := n1_; have HB := n2_; clear n0_ n1_ n2_; (try clear hb); (try clear hkp); (try clear ho0))); go_ret2
                         first | exact ⟨_, _, by first | rfl | (simp [errW_none, errW_some] <;> rfl) | (simp [*, errW_none, errW_some] <;> rfl), Kd.R_nil _ _ _ _ _, fun h_ => absurd h_ (by decide), by repeat (first | (with_reducible first | exact HB.out | apply below_alloc | apply pw_below_drewN | apply below_drew1) | exact HB.out), by repeat (first | (with_reducible first | exact HK.out | apply Kept.alloc | apply Kept.drewN | apply Kept.drew) | exact HK.out)⟩ | exact ⟨⟨_, Kd.R_nil _ _ _ _ _⟩, by repeat (first | (with_reducible first | exact HB.out | apply below_alloc | apply pw_below_drewN | apply below_drew1) | exact HB.out), by repeat (first | (with_reducible first | exact HK.out | apply Kept.alloc | apply Kept.drewN | apply Kept.drew) | exact HK.out)⟩ | exact ⟨⟨_, by first | rfl | (simp [errW_none, errW_some] <;> rfl) | (simp [*, errW_none, errW_some] <;> rfl)⟩, ⟨_, Kd.R_nil _ _ _ _ _⟩, by repeat (first | (with_reducible first | exact HB.out | apply below_alloc | apply pw_below_drewN | apply below_drew1) | exact HB.out), by repeat (first | (with_reducible first | exact HK.out | apply Kept.alloc | apply Kept.drewN | apply Kept.drew) | exact HK.out)⟩
                       ·rw [if_neg c98] at H; have c98b0 : decide (t225 < 0) = false := decide_eq_false c98; clear c98; replace H := Option.bind_eq_some_iff.mp H; obtain ⟨t226, A1010, H⟩ := H; replace H : (if t222.length < 4398046511104 then (some ((t222 ++ [(⟨x20_94, t226, wrap64 ((t222.length : Int) - 1), 0⟩ : S75)]), t225)) else (none)) = some (r1, r2) := H; have A101 := Aside0.mk A1010; clear A1010; by_cases c102 : t222.length < 4398046511104
                        ·rw [if_pos c102] at H; have LMc102 := Aside0.mk c102; clear c102; obtain ⟨y227, hy227⟩ : ∃ y_ : List (S75), y_ = (t222 ++ [(⟨x20_94, t226, wrap64 ((t222.length : Int) - 1), 0⟩ : S75)]) := ⟨_, rfl⟩; replace H : (some (y227, t225)) = some (r1, r2) := by first | (rw [hy227]; with_reducible exact H) | (have H2_ := (Option.bind_some _ _).symm.trans H; rw [hy227]; with_reducible exact H2_) | (have H2_ := (Option.bind_some _ _).symm.trans H; with_reducible exact H2_) | with_reducible exact H | (rw [hy227]; exact H) | exact H
                         have Ny227 := Aside0.mk hy227; clear hy227
                         as_aux_lemma =>
                          simp only [Option.some.injEq, Prod.mk.injEq] at H; obtain ⟨rfl, rfl⟩ := H; obtain ⟨Ao103, co103, eo103⟩ := Kd.R_slice HO_2.out; subst eo103; go_wp2_with (first | ((with_reducible refine gate_callee (f := 55) rfl ?_); refine goesL_ (some 213) rfl rfl Tryd.func55 (by kernel_rfl) rfl #[.string a0, .int .i64 (wrap64 (a1 + 2)), .slice Ao103 l2.length co103] rfl (by (try simp only [List.map_toArray, List.map_cons, List.map_nil]); first | done | rfl | (simp only [List.length_drop, List.length_take]; rfl)) ?_; (with_reducible refine (ih kj94 (by have := HJ3.out; have := HJ10.out; have := HJ63.out; have := HJ88.out; have := HJ94.out; omega) a0 (wrap64 (a1 + 2)) (fun k_ => some k_ = (.slice Ao103 l2.length co103 : Value).ownBlock) (.slice Ao103 l2.length co103) l2 t222 t225 w0 _ ?side1 ?side2 A97.out).mono ?_); (case side1 => repeat (first | (with_reducible first | exact HB.out | apply below_alloc | apply pw_below_drewN | apply below_drew1) | exact HB.out)); (case side2 => exact Kd.R_tight rfl HO_2.out); rintro e w104 ⟨v223, vx_, rfl, ho0, hvx_, hb, hkp⟩; (first | (have h0_ := hvx_ (nn_ (by first | (with_reducible assumption) | assumption : decide (t225 < 0) = false)); subst h0_) | clear hvx_); refine ⟨_, rfl, ?_⟩; have n0_ := Aside0.mk (Kd.R_mono (ok' := fun k_ => (P2_ k_ ∨ w.heap.size ≤ k_)) ho0 (fun k_ hk_ => Or.elim hk_ (fun hs_ => (HO_2.out.1 k_ (hs_).symm)) (fun hn_ => (.inr (Nat.le_trans (by first | exact HK.out.1 | exact (show Kept w _ (fun k_ => P2_ k_) from by repeat (first | (with_reducible first | exact HK.out | apply Kept.alloc | apply Kept.drewN | apply Kept.drew) | exact HK.out)).1) hn_))))); have n1_ := Aside0.mk (Kept.then_ (S := (fun k_ => P2_ k_)) (by repeat (first | (with_reducible first | exact HK.out | apply Kept.alloc | apply Kept.drewN | apply Kept.drew) | exact HK.out)) hkp (fun k_ hs_ => (fun e_ => (HO_2.out.1 k_ e_.symm)) hs_)); have n2_ := Aside0.mk (hb); clear HK; clear HB; clear HO_2; have HO224 := n0_; have HK := n1_; have HB := n2_; clear n0_ n1_ n2_; (try clear hb); (try clear hkp); (try clear ho0)) | ((with_reducible refine gate_callee (f := 107) rfl ?_); refine goesL_ (some 224) rfl rfl Tryd.func107 (by kernel_rfl) rfl #[.string a0, .int .i64 (wrap64 (a1 + 1))] rfl (by (try simp only [List.map_toArray, List.map_cons, List.map_nil]); first | done | rfl | (simp only [List.length_drop, List.length_take]; rfl)) ?_; (with_reducible refine (spec_l16Digit.calls a0 (wrap64 (a1 + 1)) t226 _ A101.out).mono ?_); rintro e w' ⟨rfl, ⟨nd, rfl⟩⟩; refine ⟨_, rfl, ?_⟩; obtain ⟨Ao105, co105, eo105⟩ := Kd.R_slice HO224.out; subst eo105) | ((with_reducible refine gate_builtin (b := .append) (xs := #[.tmp 219, .tmp 229]) rfl ?_); (try (refine gate_guard (by rfl) ?_; dsimp only)); at_builtin; refine Kd.R_append k75 (w0 := w0) w0.heap.size rfl (.tmp 219) (.tmp 229) 36 75 (.agg #[(.int .i64 0), (.int .i64 0), (.int .i64 0), (.int .i64 0)]) 32 rfl Tryd.underlying36 info75 rfl (by decide) (by omega) (.slice Ao105 t222.length co105) t222 (⟨x20_94, t226, wrap64 ((t222.length : Int) - 1), 0⟩ : S75) [.int .i64 x20_94, .int .i64 t226, .int .i64 (wrap64 ((t222.length : Int) - 1)), .int .i64 0] (fun k_ => (P2_ k_ ∨ w.heap.size ≤ k_)) (fun _ => False) rfl rfl ?aP (fun _ hk => hk.elim) ?aF ?aO ?aB ?aS ?aL ?_; (case aP => exact k75_mkM _ _ _ (⟨x20_94, t226, wrap64 ((t222.length : Int) - 1), 0⟩ : S75)); (case aB => exact (by repeat (first | (with_reducible first | exact HB.out | apply below_alloc | apply pw_below_drewN | apply below_drew1) | exact HB.out))); (case aF => exact (fun k_ hk => (.inr (Nat.le_trans (by first | exact HK.out.1 | exact (show Kept w _ (fun k_ => P2_ k_) from by repeat (first | (with_reducible first | exact HK.out | apply Kept.alloc | apply Kept.drewN | apply Kept.drew) | exact HK.out)).1) hk)))); (case aO => exact (by (with_reducible repeat (first | apply Kd.R_alloc | apply Kd.R_drewN | apply Kd.R_drew)); exact HO224.out)); (case aS => exact (below_size (by repeat (first | (with_reducible first | exact HB.out | apply below_alloc | apply pw_below_drewN | apply below_drew1) | exact HB.out)))); (case aL => have := LMc102.out; omega); intro v228 w106 ho hb hg hat; rw [← Ny227.out] at ho; have n0_ := Aside0.mk (hb); have n1_ := Aside0.mk (Kept.of_grown (S := (fun k_ => P2_ k_)) hg (by repeat (first | (with_reducible first | exact HK.out | apply Kept.alloc | apply Kept.drewN | apply Kept.drew) | exact HK.out)) (fun k_ e_ => (HO224.out.1 k_ e_))); have n2_ := Aside0.mk (ho); clear HB; clear HK; clear HO224; have HB := n0_; have HK := n1_; have HO229 := n2_; clear n0_ n1_ n2_; clear ho hb hg hat)); go_ret2; exact ⟨_, _, by first | rfl | (simp [errW_none, errW_some] <;> rfl) | (simp [*, errW_none, errW_some] <;> rfl), by (with_reducible repeat (first | apply Kd.R_alloc | apply Kd.R_drewN | apply Kd.R_drew)); exact HO229.out, fun _ => rfl, by repeat (first | (with_reducible first | exact HB.out | apply below_alloc | apply pw_below_drewN | apply below_drew1) | exact HB.out), by repeat (first | (with_reducible first | exact HK.out | apply Kept.alloc | apply Kept.drewN | apply Kept.drew) | exact HK.out)⟩
                        ·rw [if_neg c102] at H; exact absurd H (by simp)
                    ·rw [if_neg c93] at H; exact absurd H (by simp)
                   ·rw [if_neg c92] at H; exact absurd H (by simp)
                  ·replace c91 := Bool.eq_false_iff.mpr c91; subst c91; have H1 : (some (([] : List (S75)), (-1))) = some (r1, r2) := by rw [if_neg (show ¬ (false = true) by decide)] at H; exact H
                   clear H; have H := H1; clear H1
                   as_aux_lemma =>
                    simp only [Option.some.injEq, Prod.mk.injEq] at H; obtain ⟨rfl, rfl⟩ := H; go_wp2; go_ret2
                    first | exact ⟨_, _, by first | rfl | (simp [errW_none, errW_some] <;> rfl) | (simp [*, errW_none, errW_some] <;> rfl), Kd.R_nil _ _ _ _ _, fun h_ => absurd h_ (by decide), by repeat (first | (with_reducible first | exact HB.out | apply below_alloc | apply pw_below_drewN | apply below_drew1) | exact HB.out), by repeat (first | (with_reducible first | exact HK.out | apply Kept.alloc | apply Kept.drewN | apply Kept.drew) | exact HK.out)⟩ | exact ⟨⟨_, Kd.R_nil _ _ _ _ _⟩, by repeat (first | (with_reducible first | exact HB.out | apply below_alloc | apply pw_below_drewN | apply below_drew1) | exact HB.out), by repeat (first | (with_reducible first | exact HK.out | apply Kept.alloc | apply Kept.drewN | apply Kept.drew) | exact HK.out)⟩ | exact ⟨⟨_, by first | rfl | (simp [errW_none, errW_some] <;> rfl) | (simp [*, errW_none, errW_some] <;> rfl)⟩, ⟨_, Kd.R_nil _ _ _ _ _⟩, by repeat (first | (with_reducible first | exact HB.out | apply below_alloc | apply pw_below_drewN | apply below_drew1) | exact HB.out), by repeat (first | (with_reducible first | exact HK.out | apply Kept.alloc | apply Kept.drewN | apply Kept.drew) | exact HK.out)⟩
     ·rw [if_neg c9] at H; exact absurd H (by simp)
    ·rw [if_neg c8] at H; exact absurd H (by simp)
def spec_ParseFormula.f (k : Nat) (a0 : ByteArray) : Option ((List (S75)) × Bool) := if (a0.size : Int) > 300 then (some ((([] : List (S75))), false)) else ((spec_l16Read.f k a0 0 (([] : List (S75)))).bind fun bt236 => (if bt236.2 < 0 then (some ((([] : List (S75))), false)) else ((spec_FormatFormula.f k bt236.1).bind fun t243 => (if t243.toList = a0.toList then (some (bt236.1, true)) else (some ((([] : List (S75))), false))))))
set_option maxHeartbeats 8000000 in
set_option maxRecDepth 100000 in
theorem spec_ParseFormula.calls (k : Nat) (a0 : ByteArray) (r1 : List (S75)) (r2 : Bool) (w : World) (h : spec_ParseFormula.f k a0 = some (r1, r2)) :
  Calls Tryd.prog 17 #[.string a0] w fun e w' => ∃ v0_ : Value, e = .returned (.tuple #[v0_, .bool r2]) ∧ Kd.R k75 75 w' w.heap.size (fun _ => True) v0_ r1 ∧ Below w.heap.size w w' := by
 have HB := Aside0.mk (Below.refl w.heap.size w); have H : (if (a0.size : Int) > 300 then (some ((([] : List (S75))), false)) else ((spec_l16Read.f k a0 0 (([] : List (S75)))).bind fun bt236 => (if bt236.2 < 0 then (some ((([] : List (S75))), false)) else ((spec_FormatFormula.f k bt236.1).bind fun t243 => (if t243.toList = a0.toList then (some (bt236.1, true)) else (some ((([] : List (S75))), false))))))) = some (r1, r2) := h; clear h; by_cases c2 : (a0.size : Int) > 300
 ·rw [if_pos c2] at H; have c2b0 : decide (300 < (a0.size : Int)) = true := decide_eq_true c2; have c2b1 : decide (300 < a0.size) = true := decide_eq_true (by omega); clear c2; obtain ⟨y230, hy230⟩ : ∃ y_ : List (S75), y_ = (([] : List (S75))) := ⟨_, rfl⟩; replace H : (some (y230, false)) = some (r1, r2) := by first | (rw [hy230]; with_reducible exact H) | (have H2_ := (Option.bind_some _ _).symm.trans H; rw [hy230]; with_reducible exact H2_) | (have H2_ := (Option.bind_some _ _).symm.trans H; with_reducible exact H2_) | with_reducible exact H | (rw [hy230]; exact H) | exact H
  have Ny230 := Aside0.mk hy230; clear hy230; simp only [Option.some.injEq, Prod.mk.injEq] at H; obtain ⟨rfl, rfl⟩ := H; go_enter Tryd.func17, Tryd.ntmps17; go_wp2_with (first | ((with_reducible refine gate_dst (N := 9) rfl ?_); refine Kd.R_lit k75 _ 75 ?hg (N := 9) ?hd (xs := ([] : List (S75))) (inner := []) (ok := fun _ => True) (okp := fun _ => True) ?hr ?hp (fun _ hk => hk) trivial (Below.refl _ _) (Nat.le_refl _) (by simp) ?_; (case hd => rfl); (case hg => rfl); (case hr => first | (go_simp; done) | (go_simp; rfl)); (case hp => exact (Reps.none _ _)); intro v231 w3 ho4 hb hg_ hnew_; clear hg_ hnew_; (first | rw [← Ny230.out] at ho4 | (simp only [Int.reduceToNat] at ho4; rw [← Ny230.out] at ho4)); have n0_ := Aside0.mk (Kd.R_lower ho4 (below_size (by repeat (first | (with_reducible first | exact HB.out | apply below_alloc | apply pw_below_drewN | apply below_drew1) | exact HB.out)))); have n1_ := Aside0.mk (below_step (by repeat (first | (with_reducible first | exact HB.out | apply below_alloc | apply pw_below_drewN | apply below_drew1) | exact HB.out)) hb); clear HB; have HO232 := n0_; have HB := n1_; clear n0_ n1_; clear hb ho4)); go_ret2; exact ⟨_, by first | rfl | (simp [errW_none, errW_some] <;> rfl) | (simp [*, errW_none, errW_some] <;> rfl), by (with_reducible repeat (first | apply Kd.R_alloc | apply Kd.R_drewN | apply Kd.R_drew)); exact HO232.out, by repeat (first | (with_reducible first | exact HB.out | apply below_alloc | apply pw_below_drewN | apply below_drew1) | exact HB.out)⟩
 ·rw [if_neg c2] at H; have c2b0 : decide (300 < (a0.size : Int)) = false := decide_eq_false c2; have c2b1 : decide (300 < a0.size) = false := decide_eq_false (by omega); clear c2; obtain ⟨y233, hy233⟩ : ∃ y_ : List (S75), y_ = (([] : List (S75))) := ⟨_, rfl⟩; replace H : ((spec_l16Read.f k a0 0 y233).bind fun bt236 => (if bt236.2 < 0 then (some ((([] : List (S75))), false)) else ((spec_FormatFormula.f k bt236.1).bind fun t243 => (if t243.toList = a0.toList then (some (bt236.1, true)) else (some ((([] : List (S75))), false)))))) = some (r1, r2) := by first | (rw [hy233]; with_reducible exact H) | (have H2_ := (Option.bind_some _ _).symm.trans H; rw [hy233]; with_reducible exact H2_) | (have H2_ := (Option.bind_some _ _).symm.trans H; with_reducible exact H2_) | with_reducible exact H | (rw [hy233]; exact H) | exact H
  have Ny233 := Aside0.mk hy233; clear hy233; replace H := Option.bind_eq_some_iff.mp H; obtain ⟨⟨t236, t239⟩, A50, H⟩ := H; replace H : (if t239 < 0 then (some ((([] : List (S75))), false)) else ((spec_FormatFormula.f k t236).bind fun t243 => (if t243.toList = a0.toList then (some (t236, true)) else (some ((([] : List (S75))), false))))) = some (r1, r2) := H; have A5 := Aside0.mk A50; clear A50; by_cases c6 : t239 < 0
  ·rw [if_pos c6] at H; have c6b0 : decide (t239 < 0) = true := decide_eq_true c6; clear c6; obtain ⟨y240, hy240⟩ : ∃ y_ : List (S75), y_ = (([] : List (S75))) := ⟨_, rfl⟩; replace H : (some (y240, false)) = some (r1, r2) := by first | (rw [hy240]; with_reducible exact H) | (have H2_ := (Option.bind_some _ _).symm.trans H; rw [hy240]; with_reducible exact H2_) | (have H2_ := (Option.bind_some _ _).symm.trans H; with_reducible exact H2_) | with_reducible exact H | (rw [hy240]; exact H) | exact H
   have Ny240 := Aside0.mk hy240; clear hy240; simp only [Option.some.injEq, Prod.mk.injEq] at H; obtain ⟨rfl, rfl⟩ := H; go_enter Tryd.func17, Tryd.ntmps17; go_wp2_with (first | ((with_reducible refine gate_dst (N := 12) rfl ?_); refine Kd.R_lit k75 _ 75 ?hg (N := 12) ?hd (xs := ([] : List (S75))) (inner := []) (ok := fun _ => True) (okp := fun _ => True) ?hr ?hp (fun _ hk => hk) trivial (Below.refl _ _) (Nat.le_refl _) (by simp) ?_; (case hd => rfl); (case hg => rfl); (case hr => first | (go_simp; done) | (go_simp; rfl)); (case hp => exact (Reps.none _ _)); intro v234 w7 ho8 hb hg_ hnew_; clear hg_ hnew_; (first | rw [← Ny233.out] at ho8 | (simp only [Int.reduceToNat] at ho8; rw [← Ny233.out] at ho8)); have n0_ := Aside0.mk (Kd.R_lower ho8 (below_size (by repeat (first | (with_reducible first | exact HB.out | apply below_alloc | apply pw_below_drewN | apply below_drew1) | exact HB.out)))); have n1_ := Aside0.mk (below_step (by repeat (first | (with_reducible first | exact HB.out | apply below_alloc | apply pw_below_drewN | apply below_drew1) | exact HB.out)) hb); clear HB; have HO235 := n0_; have HB := n1_; clear n0_ n1_; clear hb ho8; obtain ⟨Ao9, co9, eo9⟩ := Kd.R_slice HO235.out; subst eo9) | ((with_reducible refine gate_callee (f := 55) rfl ?_); refine goesL_ (some 13) rfl rfl Tryd.func55 (by kernel_rfl) rfl #[.string a0, .int .i64 0, .slice Ao9 y233.length co9] rfl (by (try simp only [List.map_toArray, List.map_cons, List.map_nil]); first | done | rfl | (simp only [List.length_drop, List.length_take]; rfl)) ?_; (with_reducible refine (spec_l16Read.calls k a0 0 (fun k_ => some k_ = (.slice Ao9 y233.length co9 : Value).ownBlock) (.slice Ao9 y233.length co9) y233 t236 t239 w _ ?side1 ?side2 A5.out).mono ?_); (case side1 => repeat (first | (with_reducible first | exact HB.out | apply below_alloc | apply pw_below_drewN | apply below_drew1) | exact HB.out)); (case side2 => exact Kd.R_tight rfl HO235.out); rintro e w10 ⟨v237, vx_, rfl, ho0, hvx_, hb, hkp⟩; (first | (have h0_ := hvx_ (nn_ (by first | (with_reducible assumption) | assumption : decide (t239 < 0) = false)); subst h0_) | clear hvx_); refine ⟨_, rfl, ?_⟩; have n0_ := Aside0.mk (Kd.R_mono (ok' := fun k_ => True) ho0 (fun k_ hk_ => trivial)); have n1_ := Aside0.mk (hb); clear HB; clear HO235; have HO238 := n0_; have HB := n1_; clear n0_ n1_; (try clear hb); (try clear hkp); (try clear ho0)) | ((with_reducible refine gate_dst (N := 24) rfl ?_); refine Kd.R_lit k75 _ 75 ?hg (N := 24) ?hd (xs := ([] : List (S75))) (inner := []) (ok := fun _ => True) (okp := fun _ => True) ?hr ?hp (fun _ hk => hk) trivial (Below.refl _ _) (Nat.le_refl _) (by simp) ?_; (case hd => rfl); (case hg => rfl); (case hr => first | (go_simp; done) | (go_simp; rfl)); (case hp => exact (Reps.none _ _)); intro v241 w11 ho12 hb hg_ hnew_; clear hg_ hnew_; (first | rw [← Ny240.out] at ho12 | (simp only [Int.reduceToNat] at ho12; rw [← Ny240.out] at ho12)); have n0_ := Aside0.mk (Kd.R_elder' (by (with_reducible repeat (first | apply Kd.R_alloc | apply Kd.R_drewN | apply Kd.R_drew)); exact HO238.out) (Kd.R_base ho12) hb); have n1_ := Aside0.mk (Kd.R_lower (Kd.R_new' ho12 (Kd.R_lt (by (with_reducible repeat (first | apply Kd.R_alloc | apply Kd.R_drewN | apply Kd.R_drew)); exact HO238.out))) (below_size (by repeat (first | (with_reducible first | exact HB.out | apply below_alloc | apply pw_below_drewN | apply below_drew1) | exact HB.out)))); have n2_ := Aside0.mk (below_step (by repeat (first | (with_reducible first | exact HB.out | apply below_alloc | apply pw_below_drewN | apply below_drew1) | exact HB.out)) hb); clear HO238; clear HB; have HO238 := n0_; have HO242 := n1_; have HB := n2_; clear n0_ n1_ n2_; clear hb ho12)); go_ret2; exact ⟨_, by first | rfl | (simp [errW_none, errW_some] <;> rfl) | (simp [*, errW_none, errW_some] <;> rfl), by (with_reducible repeat (first | apply Kd.R_alloc | apply Kd.R_drewN | apply Kd.R_drew)); exact Kd.R_mono HO242.out (fun _ hk => trivial), by repeat (first | (with_reducible first | exact HB.out | apply below_alloc | apply pw_below_drewN | apply below_drew1) | exact HB.out)⟩
  ·rw [if_neg c6] at H; have c6b0 : decide (t239 < 0) = false := decide_eq_false c6; clear c6; replace H := Option.bind_eq_some_iff.mp H; obtain ⟨t243, A130, H⟩ := H; replace H : (if t243.toList = a0.toList then (some (t236, true)) else (some ((([] : List (S75))), false))) = some (r1, r2) := H; have A13 := Aside0.mk A130; clear A130; by_cases c14 : t243.toList = a0.toList
   ·rw [if_pos c14] at H; have c14b0 : (t243.toList == a0.toList) = true := beq_iff_eq.mpr c14; have c14b1 : (t243.toList != a0.toList) = false := bne_eq_false_iff_eq.mpr c14; clear c14; simp only [Option.some.injEq, Prod.mk.injEq] at H; obtain ⟨rfl, rfl⟩ := H; go_enter Tryd.func17, Tryd.ntmps17; go_wp2_with (first | ((with_reducible refine gate_dst (N := 12) rfl ?_); refine Kd.R_lit k75 _ 75 ?hg (N := 12) ?hd (xs := ([] : List (S75))) (inner := []) (ok := fun _ => True) (okp := fun _ => True) ?hr ?hp (fun _ hk => hk) trivial (Below.refl _ _) (Nat.le_refl _) (by simp) ?_; (case hd => rfl); (case hg => rfl); (case hr => first | (go_simp; done) | (go_simp; rfl)); (case hp => exact (Reps.none _ _)); intro v234 w15 ho16 hb hg_ hnew_; clear hg_ hnew_; (first | rw [← Ny233.out] at ho16 | (simp only [Int.reduceToNat] at ho16; rw [← Ny233.out] at ho16)); have n0_ := Aside0.mk (Kd.R_lower ho16 (below_size (by repeat (first | (with_reducible first | exact HB.out | apply below_alloc | apply pw_below_drewN | apply below_drew1) | exact HB.out)))); have n1_ := Aside0.mk (below_step (by repeat (first | (with_reducible first | exact HB.out | apply below_alloc | apply pw_below_drewN | apply below_drew1) | exact HB.out)) hb); clear HB; have HO235 := n0_; have HB := n1_; clear n0_ n1_; clear hb ho16; obtain ⟨Ao17, co17, eo17⟩ := Kd.R_slice HO235.out; subst eo17) | ((with_reducible refine gate_callee (f := 55) rfl ?_); refine goesL_ (some 13) rfl rfl Tryd.func55 (by kernel_rfl) rfl #[.string a0, .int .i64 0, .slice Ao17 y233.length co17] rfl (by (try simp only [List.map_toArray, List.map_cons, List.map_nil]); first | done | rfl | (simp only [List.length_drop, List.length_take]; rfl)) ?_; (with_reducible refine (spec_l16Read.calls k a0 0 (fun k_ => some k_ = (.slice Ao17 y233.length co17 : Value).ownBlock) (.slice Ao17 y233.length co17) y233 t236 t239 w _ ?side1 ?side2 A5.out).mono ?_); (case side1 => repeat (first | (with_reducible first | exact HB.out | apply below_alloc | apply pw_below_drewN | apply below_drew1) | exact HB.out)); (case side2 => exact Kd.R_tight rfl HO235.out); rintro e w18 ⟨v237, vx_, rfl, ho0, hvx_, hb, hkp⟩; (first | (have h0_ := hvx_ (nn_ (by first | (with_reducible assumption) | assumption : decide (t239 < 0) = false)); subst h0_) | clear hvx_); refine ⟨_, rfl, ?_⟩; have n0_ := Aside0.mk (Kd.R_mono (ok' := fun k_ => True) ho0 (fun k_ hk_ => trivial)); have n1_ := Aside0.mk (hb); clear HB; clear HO235; have HO238 := n0_; have HB := n1_; clear n0_ n1_; (try clear hb); (try clear hkp); (try clear ho0); obtain ⟨Ao19, co19, eo19⟩ := Kd.R_slice HO238.out; subst eo19) | (go_at_call 47; (with_reducible refine (spec_FormatFormula.calls k _ _ t236 t243 _ ?side1 ?side2 A13.out).mono ?_); (case side1 => repeat (first | exact (Kd.R_reads' HO238.out).2.2 | (with_reducible refine Kd.C_alloc ?_ _) | (with_reducible refine Kd.C_drewN ?_ _) | (with_reducible refine Kd.C_drew ?_))); (case side2 => exact (Kd.R_reads' HO238.out).2.1); rintro e w20 ⟨rfl, hb⟩; have n0_ := Aside0.mk (Kd.R_below (by (with_reducible repeat (first | apply Kd.R_alloc | apply Kd.R_drewN | apply Kd.R_drew)); exact HO238.out) hb); have n1_ := Aside0.mk (below_step (by repeat (first | (with_reducible first | exact HB.out | apply below_alloc | apply pw_below_drewN | apply below_drew1) | exact HB.out)) hb); clear HO238; clear HB; have HO238 := n0_; have HB := n1_; clear n0_ n1_; (try clear hb); (try clear hb2); (try clear hk); (try clear hi))); go_ret2; exact ⟨_, by first | rfl | (simp [errW_none, errW_some] <;> rfl) | (simp [*, errW_none, errW_some] <;> rfl), by (with_reducible repeat (first | apply Kd.R_alloc | apply Kd.R_drewN | apply Kd.R_drew)); exact HO238.out, by repeat (first | (with_reducible first | exact HB.out | apply below_alloc | apply pw_below_drewN | apply below_drew1) | exact HB.out)⟩
   ·rw [if_neg c14] at H; have c14b0 : (t243.toList == a0.toList) = false := beq_eq_false_iff_ne.mpr c14; have c14b1 : (t243.toList != a0.toList) = true := bne_iff_ne.mpr c14; obtain ⟨y244, hy244⟩ : ∃ y_ : List (S75), y_ = (([] : List (S75))) := ⟨_, rfl⟩; replace H : (some (y244, false)) = some (r1, r2) := by first | (rw [hy244]; with_reducible exact H) | (have H2_ := (Option.bind_some _ _).symm.trans H; rw [hy244]; with_reducible exact H2_) | (have H2_ := (Option.bind_some _ _).symm.trans H; with_reducible exact H2_) | with_reducible exact H | (rw [hy244]; exact H) | exact H
    have Ny244 := Aside0.mk hy244; clear hy244; simp only [Option.some.injEq, Prod.mk.injEq] at H; obtain ⟨rfl, rfl⟩ := H; go_enter Tryd.func17, Tryd.ntmps17; go_wp2_with (first | ((with_reducible refine gate_dst (N := 12) rfl ?_); refine Kd.R_lit k75 _ 75 ?hg (N := 12) ?hd (xs := ([] : List (S75))) (inner := []) (ok := fun _ => True) (okp := fun _ => True) ?hr ?hp (fun _ hk => hk) trivial (Below.refl _ _) (Nat.le_refl _) (by simp) ?_; (case hd => rfl); (case hg => rfl); (case hr => first | (go_simp; done) | (go_simp; rfl)); (case hp => exact (Reps.none _ _)); intro v234 w21 ho22 hb hg_ hnew_; clear hg_ hnew_; (first | rw [← Ny233.out] at ho22 | (simp only [Int.reduceToNat] at ho22; rw [← Ny233.out] at ho22)); have n0_ := Aside0.mk (Kd.R_lower ho22 (below_size (by repeat (first | (with_reducible first | exact HB.out | apply below_alloc | apply pw_below_drewN | apply below_drew1) | exact HB.out)))); have n1_ := Aside0.mk (below_step (by repeat (first | (with_reducible first | exact HB.out | apply below_alloc | apply pw_below_drewN | apply below_drew1) | exact HB.out)) hb); clear HB; have HO235 := n0_; have HB := n1_; clear n0_ n1_; clear hb ho22; obtain ⟨Ao23, co23, eo23⟩ := Kd.R_slice HO235.out; subst eo23) | ((with_reducible refine gate_callee (f := 55) rfl ?_); refine goesL_ (some 13) rfl rfl Tryd.func55 (by kernel_rfl) rfl #[.string a0, .int .i64 0, .slice Ao23 y233.length co23] rfl (by (try simp only [List.map_toArray, List.map_cons, List.map_nil]); first | done | rfl | (simp only [List.length_drop, List.length_take]; rfl)) ?_; (with_reducible refine (spec_l16Read.calls k a0 0 (fun k_ => some k_ = (.slice Ao23 y233.length co23 : Value).ownBlock) (.slice Ao23 y233.length co23) y233 t236 t239 w _ ?side1 ?side2 A5.out).mono ?_); (case side1 => repeat (first | (with_reducible first | exact HB.out | apply below_alloc | apply pw_below_drewN | apply below_drew1) | exact HB.out)); (case side2 => exact Kd.R_tight rfl HO235.out); rintro e w24 ⟨v237, vx_, rfl, ho0, hvx_, hb, hkp⟩; (first | (have h0_ := hvx_ (nn_ (by first | (with_reducible assumption) | assumption : decide (t239 < 0) = false)); subst h0_) | clear hvx_); refine ⟨_, rfl, ?_⟩; have n0_ := Aside0.mk (Kd.R_mono (ok' := fun k_ => True) ho0 (fun k_ hk_ => trivial)); have n1_ := Aside0.mk (hb); clear HB; clear HO235; have HO238 := n0_; have HB := n1_; clear n0_ n1_; (try clear hb); (try clear hkp); (try clear ho0); obtain ⟨Ao25, co25, eo25⟩ := Kd.R_slice HO238.out; subst eo25) | (go_at_call 47; (with_reducible refine (spec_FormatFormula.calls k _ _ t236 t243 _ ?side1 ?side2 A13.out).mono ?_); (case side1 => repeat (first | exact (Kd.R_reads' HO238.out).2.2 | (with_reducible refine Kd.C_alloc ?_ _) | (with_reducible refine Kd.C_drewN ?_ _) | (with_reducible refine Kd.C_drew ?_))); (case side2 => exact (Kd.R_reads' HO238.out).2.1); rintro e w26 ⟨rfl, hb⟩; have n0_ := Aside0.mk (Kd.R_below (by (with_reducible repeat (first | apply Kd.R_alloc | apply Kd.R_drewN | apply Kd.R_drew)); exact HO238.out) hb); have n1_ := Aside0.mk (below_step (by repeat (first | (with_reducible first | exact HB.out | apply below_alloc | apply pw_below_drewN | apply below_drew1) | exact HB.out)) hb); clear HO238; clear HB; have HO238 := n0_; have HB := n1_; clear n0_ n1_; (try clear hb); (try clear hb2); (try clear hk); (try clear hi)) | ((with_reducible refine gate_dst (N := 24) rfl ?_); refine Kd.R_lit k75 _ 75 ?hg (N := 24) ?hd (xs := ([] : List (S75))) (inner := []) (ok := fun _ => True) (okp := fun _ => True) ?hr ?hp (fun _ hk => hk) trivial (Below.refl _ _) (Nat.le_refl _) (by simp) ?_; (case hd => rfl); (case hg => rfl); (case hr => first | (go_simp; done) | (go_simp; rfl)); (case hp => exact (Reps.none _ _)); intro v245 w27 ho28 hb hg_ hnew_; clear hg_ hnew_; (first | rw [← Ny244.out] at ho28 | (simp only [Int.reduceToNat] at ho28; rw [← Ny244.out] at ho28)); have n0_ := Aside0.mk (Kd.R_elder' (by (with_reducible repeat (first | apply Kd.R_alloc | apply Kd.R_drewN | apply Kd.R_drew)); exact HO238.out) (Kd.R_base ho28) hb); have n1_ := Aside0.mk (Kd.R_lower (Kd.R_new' ho28 (Kd.R_lt (by (with_reducible repeat (first | apply Kd.R_alloc | apply Kd.R_drewN | apply Kd.R_drew)); exact HO238.out))) (below_size (by repeat (first | (with_reducible first | exact HB.out | apply below_alloc | apply pw_below_drewN | apply below_drew1) | exact HB.out)))); have n2_ := Aside0.mk (below_step (by repeat (first | (with_reducible first | exact HB.out | apply below_alloc | apply pw_below_drewN | apply below_drew1) | exact HB.out)) hb); clear HO238; clear HB; have HO238 := n0_; have HO246 := n1_; have HB := n2_; clear n0_ n1_ n2_; clear hb ho28)); go_ret2; exact ⟨_, by first | rfl | (simp [errW_none, errW_some] <;> rfl) | (simp [*, errW_none, errW_some] <;> rfl), by (with_reducible repeat (first | apply Kd.R_alloc | apply Kd.R_drewN | apply Kd.R_drew)); exact Kd.R_mono HO246.out (fun _ hk => trivial), by repeat (first | (with_reducible first | exact HB.out | apply below_alloc | apply pw_below_drewN | apply below_drew1) | exact HB.out)⟩
end Go.Proofs.YtdekenijnbhpfaaDoor.M
/- A row of rows that is the call's own: where its cells lie and what they say, for walks that turn its cells about (a sort, a compaction); 'Off': no block but one has turned. No condition. -/
namespace Go.Proofs.YtdekenijnbhpfaaDoor.M
open Go.RowKit Go.Proofs.YtdekenijnbhpfaaDoorW.PrintWords
set_option linter.unusedVariables false
/-- Of the first n blocks every one but one is as it was; the streams are as they were. -/
structure Off (blk n : Nat) (w w' : World) : Prop where
 os : w'.os = w.os
 tape : w'.tape = w.tape
 output : w'.output = w.output
 size : w.heap.size ≤ w'.heap.size
 block : ∀ k, k ≠ blk → k < n → w'.heap[k]? = w.heap[k]?
theorem Off.refl (blk n : Nat) (w : World) : Off blk n w w := ⟨rfl, rfl, rfl, Nat.le_refl _, fun _ _ _ => rfl⟩
theorem Off.trans {blk n : Nat} {a b c : World} (h : Off blk n a b) (k : Off blk n b c) : Off blk n a c :=
 ⟨k.os.trans h.os, k.tape.trans h.tape, k.output.trans h.output, Nat.le_trans h.size k.size, fun i hi hn => (k.block i hi hn).trans (h.block i hi hn)⟩
theorem Off.drew {blk n : Nat} {a b : World} (h : Off blk n a b) : Off blk n a b.drew := ⟨h.os, h.tape, h.output, h.size, h.block⟩
theorem Off.drewN {blk n : Nat} {a b : World} (h : Off blk n a b) (q : Nat) : Off blk n a (b.drewN q) := ⟨h.os, h.tape, h.output, h.size, h.block⟩
theorem Off.set {blk n : Nat} {a b : World} (h : Off blk n a b) (j : Nat) (u : Value) : Off blk n a (b.setCell ⟨blk, j, none⟩ u) :=
 h.trans ⟨rfl, rfl, rfl, by simp [World.setCell], fun k hk _ => Below.heap_setCell _ _ _ _ hk⟩
theorem Off.below {blk n B : Nat} {a b : World} (h : Off blk n a b) (h1 : B ≤ blk) (h2 : B ≤ n) : Below B a b :=
 ⟨h.os, h.tape, h.output, h.size, fun k hk => h.block k (by omega) (by omega)⟩
end Go.Proofs.YtdekenijnbhpfaaDoor.M
/- The formula parser's state in memory (a block of four cells), and its small steps walked: one, digit. 'v' is the slice value of the nodes read so far: these steps leave it. Condition: a text of at most 300 bytes. -/
namespace Go.Proofs.YtdekenijnbhpfaaDoor.M
open Go.RowKit Go.Proofs.YtdekenijnbhpfaaDoorW.PrintWords Go.Proofs.YtdekenijnbhpfaaDoorW.PrintLast Go.Proofs.YtdekenijnbhpfaaDoorW.PrintMore
set_option linter.unusedVariables false
set_option linter.unusedSimpArgs false
def PB (W : World) (g : Nat) (s : ByteArray) (i : Int) (b : Bool) (v : Value) : Prop := W.heap[g]? = some (.cells #[.string s, .int .i64 i, .bool b, v] 71 (0, 0))
section
variable {W W' : World} {g blk n : Nat} {s : ByteArray} {i : Int} {b : Bool} {v : Value}
theorem PB.drew (h : PB W g s i b v) : PB W.drew g s i b v := h
theorem PB.drewN (h : PB W g s i b v) (q : Nat) : PB (W.drewN q) g s i b v := h
theorem PB.set1 (h : PB W g s i b v) (x : Int) : PB (W.setCell ⟨g, 1, none⟩ (.int .i64 x)) g s x b v := by simpa [PB] using blk_set h 1 (.int .i64 x)
theorem PB.set2 (h : PB W g s i b v) (x : Bool) : PB (W.setCell ⟨g, 2, none⟩ (.bool x)) g s i x v := by simpa [PB] using blk_set h 2 (.bool x)
theorem PB.set3 (h : PB W g s i b v) (x : Value) : PB (W.setCell ⟨g, 3, none⟩ x) g s i b x := by simpa [PB] using blk_set h 3 x
theorem PB.c0 (h : PB W g s i b v) : W.cell? ⟨g, 0, none⟩ = some (.string s) := (blk_cell h 0).trans rfl
theorem PB.c1 (h : PB W g s i b v) : W.cell? ⟨g, 1, none⟩ = some (.int .i64 i) := (blk_cell h 1).trans rfl
theorem PB.c2 (h : PB W g s i b v) : W.cell? ⟨g, 2, none⟩ = some (.bool b) := (blk_cell h 2).trans rfl
theorem PB.c3 (h : PB W g s i b v) : W.cell? ⟨g, 3, none⟩ = some v := (blk_cell h 3).trans rfl
theorem PB.lt (h : PB W g s i b v) : g < W.heap.size := blk_lt h
theorem PB.off (h : PB W g s i b v) (ho : Off blk n W W') (hne : g ≠ blk) (hlt : g < n) : PB W' g s i b v := (ho.block g hne hlt).trans h
theorem PB.below (h : PB W g s i b v) (ho : Below W.heap.size W W') : PB W' g s i b v := (ho.block g (blk_lt h)).trans h
end
/-- A byte taken: the byte (0 where there is none), the place, whether it is bad. -/
def pone (s : ByteArray) (i : Nat) (b : Bool) : Int × Nat × Bool := if b = true then (0, i, true) else if i = s.size then (0, i, true) else (bt s (i : Int), i + 1, false)
def pdig (s : ByteArray) (i : Nat) (b : Bool) : Int × Nat × Bool := if (pone s i b).1 < 48 then (0, (pone s i b).2.1, true) else if (pone s i b).1 > 57 then (0, (pone s i b).2.1, true) else ((pone s i b).1 - 48, (pone s i b).2.1, (pone s i b).2.2)
theorem pone_le (s : ByteArray) (i : Nat) (b : Bool) (h : i ≤ s.size) : (pone s i b).2.1 ≤ s.size := by
 unfold pone; split
 ·exact h
 ·split
  ·exact h
  ·show i + 1 ≤ s.size; omega
theorem pdig_le (s : ByteArray) (i : Nat) (b : Bool) (h : i ≤ s.size) : (pdig s i b).2.1 ≤ s.size := by
 unfold pdig; split
 ·exact pone_le s i b h
 ·split <;> exact pone_le s i b h
set_option maxHeartbeats 4000000 in
set_option maxRecDepth 100000 in
theorem one_calls (W : World) (g : Nat) (s : ByteArray) (i : Nat) (b : Bool) (v : Value) (hi : i ≤ s.size) (hs : s.size ≤ 300) (hP : PB W g s i b v) :
  Calls Tryd.prog 110 #[.pointer (some ⟨g, 0, none⟩)] W fun e W' => e = .returned (.int .u8 (pone s i b).1) ∧ PB W' g s ((pone s i b).2.1 : Nat) (pone s i b).2.2 v ∧ Off g W.heap.size W W' := by
 have HP := Aside0.mk hP; have hc0 := hP.c0; have hc1 := hP.c1; have hc2 := hP.c2; have hf1 := blk_frozen hP 1; have hf2 := blk_frozen hP 2; clear hP; cases b with
 | true =>
  go_enter Tryd.func110, Tryd.ntmps110; go_wp2
  repeat (go_quiet (fail); try go_wp2)
  go_ret; exact ⟨rfl, by repeat (first | exact PB.set2 (PB.drewN HP.out _) true | exact HP.out.set2 true | apply PB.drew | apply PB.drewN), by repeat (first | exact Off.refl _ _ _ | apply Off.set | apply Off.drewN | apply Off.drew)⟩
 | false =>
  by_cases h : i = s.size
  ·have e : pone s i false = (0, i, true) := by simp [pone, h]
   rw [e]; have h1 : ((i : Int) == (s.size : Int)) = true := by simp [h]
   go_enter Tryd.func110, Tryd.ntmps110; go_wp2
   repeat (go_quiet (fail); try go_wp2)
   go_ret; exact ⟨rfl, by repeat (first | exact PB.set2 (PB.drewN HP.out _) true | exact HP.out.set2 true | apply PB.drew | apply PB.drewN), by repeat (first | exact Off.refl _ _ _ | apply Off.set | apply Off.drewN | apply Off.drew)⟩
  ·have e : pone s i false = (bt s (i : Int), i + 1, false) := by simp [pone, h]
   rw [e]; have h1 : ((i : Int) == (s.size : Int)) = false := by simp; omega
   have hw1 : IntKind.i64.wrap ((i : Int) + 1) = ((i + 1 : Nat) : Int) := by simp only [IntKind.wrap, IntKind.bits, IntKind.signed]; simp; omega
   have hw2 : IntKind.i64.wrap (((i + 1 : Nat) : Int) - 1) = (i : Int) := by simp only [IntKind.wrap, IntKind.bits, IntKind.signed]; simp; omega
   have p9 := eq_true (show 0 ≤ (i : Int) by omega); have q9 := eq_true (show (i : Int) < (s.size : Int) by omega); have hx9 := bt_at s (i : Int); go_enter Tryd.func110, Tryd.ntmps110; go_wp2
   repeat (go_quiet (fail); try go_wp2)
   go_ret; have hb : bt s (i : Int) = ((s[i]'(by omega)).toNat : Int) := by
    unfold bt; rw [dif_pos (by omega)]; rfl
   have hi1 : ((i + 1 : Nat) : Int) = (i : Int) + 1 := by omega
   rw [hb, hi1]; exact ⟨rfl, by repeat (first | exact HP.out | exact PB.set1 (PB.drewN HP.out _) _ | exact HP.out.set1 _ | apply PB.drew | apply PB.drewN), by repeat (first | exact Off.refl _ _ _ | apply Off.set | apply Off.drewN | apply Off.drew)⟩
set_option maxHeartbeats 4000000 in
set_option maxRecDepth 100000 in
theorem dig_calls (W : World) (g : Nat) (s : ByteArray) (i : Nat) (b : Bool) (v : Value) (hi : i ≤ s.size) (hs : s.size ≤ 300) (hP : PB W g s i b v) :
  Calls Tryd.prog 111 #[.pointer (some ⟨g, 0, none⟩)] W fun e W' => e = .returned (.int .i64 (pdig s i b).1) ∧ PB W' g s ((pdig s i b).2.1 : Nat) (pdig s i b).2.2 v ∧ Off g W.heap.size W W' := by
 have HO := Aside0.mk (one_calls W g s i b v hi hs hP); have hr : 0 ≤ (pone s i b).1 ∧ (pone s i b).1 ≤ 255 := by
  unfold pone; split
  ·exact ⟨by show (0 : Int) ≤ 0; omega, by show (0 : Int) ≤ 255; omega⟩
  ·split
   ·exact ⟨by show (0 : Int) ≤ 0; omega, by show (0 : Int) ≤ 255; omega⟩
   ·exact bt_range s i
 unfold pdig; generalize pone s i b = q at HO hr ⊢; obtain ⟨x, i', b'⟩ := q; have HR := Aside0.mk hr; clear hr hP; dsimp only at HO HR ⊢; by_cases h1 : x < 48
 ·rw [if_pos h1]; have t1 : decide (x < 48) = true := decide_eq_true h1; clear h1; go_enter Tryd.func111, Tryd.ntmps111; go_wp2_with (go_at_call 110; refine HO.out.mono ?_; rintro e W1 ⟨rfl, hp, hoff⟩; have HP := Aside0.mk hp; have HF := Aside0.mk hoff; have hf2 := blk_frozen hp 2; have hc2 := hp.c2; clear hp hoff); go_ret; exact ⟨rfl, HP.out.set2 true, HF.out.set 2 _⟩
 ·rw [if_neg h1]; have t1 : decide (x < 48) = false := decide_eq_false h1; by_cases h2 : x > 57
  ·rw [if_pos h2]; have t2 : decide (57 < x) = true := decide_eq_true h2; clear h1 h2; go_enter Tryd.func111, Tryd.ntmps111; go_wp2_with (go_at_call 110; refine HO.out.mono ?_; rintro e W1 ⟨rfl, hp, hoff⟩; have HP := Aside0.mk hp; have HF := Aside0.mk hoff; have hf2 := blk_frozen hp 2; have hc2 := hp.c2; clear hp hoff); go_ret; exact ⟨rfl, HP.out.set2 true, HF.out.set 2 _⟩
  ·rw [if_neg h2]; have t2 : decide (57 < x) = false := decide_eq_false h2; have hw : IntKind.u8.wrap (x - 48) = x - 48 := by have := HR.out; simp only [IntKind.wrap, IntKind.bits, IntKind.signed]; simp; omega
   have hw6 : wrap64 (x - 48) = x - 48 := by have := HR.out; unfold wrap64; omega
   clear h1 h2; go_enter Tryd.func111, Tryd.ntmps111; go_wp2_with (go_at_call 110; refine HO.out.mono ?_; rintro e W1 ⟨rfl, hp, hoff⟩; have HP := Aside0.mk hp; have HF := Aside0.mk hoff; have hf2 := blk_frozen hp 2; have hc2 := hp.c2; clear hp hoff); go_ret; rw [hw6]; exact ⟨rfl, HP.out, HF.out⟩
end Go.Proofs.YtdekenijnbhpfaaDoor.M
/- The program's ParseInt, walked over the library's Atoi and Itoa, and the formula parser's 'number'. Condition: what the library reads (TB) stands in the world. -/
namespace Go.Proofs.YtdekenijnbhpfaaDoor.M
open Go.RowKit Go.Proofs.YtdekenijnbhpfaaDoorW.PrintWords Go.Proofs.YtdekenijnbhpfaaDoorW.PrintLast Go.Proofs.YtdekenijnbhpfaaDoorW.PrintMore Go.Proofs.YtdekenijnbhpfaaDoor.KD
set_option linter.unusedVariables false
set_option linter.unusedSimpArgs false
/-- A number of at most nine digits, read strictly. -/
def pint (t : ByteArray) : Int × Bool :=
 if t.size > 10 then (0, false) else if t.size = 10 ∧ bt t 0 ≠ 45 then (0, false)
 else match Lib.atoi t.data.toList with
  | none => (0, false)
  | some n => if Lib.itoa n = t.toList then (n, true) else (0, false)
theorem atoi_small : ∀ (l : List UInt8) (n : Int), l.length ≤ 10 → Lib.atoi l = some n → -9223372036854775808 ≤ n ∧ n ≤ 9223372036854775807 := fun l n hl h => by
 have := Lib.atoi_bound h (by omega); omega
set_option maxHeartbeats 4000000 in
set_option maxRecDepth 100000 in
theorem pint_late (t : ByteArray) (w : World) (HT : TB w) (hs : t.size ≤ 10) (hg : ¬ (t.size = 10 ∧ bt t 0 ≠ 45)) :
  Calls Tryd.prog 141 #[.string t] w fun e w' => e = .returned (.tuple #[.int .i64 (pint t).1, .bool (pint t).2]) ∧ Below w.heap.size w w' := by
 have H1 := Aside0.mk HT.1; obtain ⟨tp, p, H2⟩ := HT.2; have HTT := Aside0.mk HT; have H2 := Aside0.mk H2; unfold pint; rw [if_neg (by omega), if_neg hg]; have t1 : decide (10 < t.size) = false := decide_eq_false (by omega); have t2 : decide ((10 : Int) < (t.size : Int)) = false := decide_eq_false (by omega); have hz : 0 ≤ (0 : Int) := Int.le_refl 0; cases ha : Lib.atoi t.data.toList with
 | none =>
  have HA := Aside0.mk (Tryd.strconv_Atoi_err_var t (by omega) ha tp p w H2.out); clear HT ha; by_cases h10 : t.size = 10
  ·have hq : bt t 0 = 45 := by
    by_cases q : bt t 0 = 45
    ·exact q
    ·exact absurd ⟨h10, q⟩ hg
   have t3 : ((t.size : Int) == 10) = true := by simp; omega
   have h0 : 0 < t.size := by omega
   have hx0 : ((t[0]'h0).toNat : Int) = 45 := by rw [← hq]; unfold bt; rw [dif_pos (show Int.toNat 0 < t.size from h0)]; rfl
   have t4 : (((t[0]'h0).toNat : Int) != 45) = false := by rw [hx0]; rfl
   have p9 := eq_true (show 0 ≤ (0 : Int) by omega); have q9 := eq_true (show (0 : Int) < (t.size : Int) by omega); clear hg h10 hq; go_enter Tryd.func141, Tryd.ntmps141; go_wp2_with (go_at_call 164; refine HA.out.mono ?_; rintro e w1 ⟨N, rfl, hN, hcell, hb⟩; have HB := Aside0.mk hb; clear hN hcell hb); go_ret2; exact ⟨rfl, HB.out⟩
  ·have t3 : ((t.size : Int) == 10) = false := by simp; omega
   clear hg h10; go_enter Tryd.func141, Tryd.ntmps141; go_wp2_with (go_at_call 164; refine HA.out.mono ?_; rintro e w1 ⟨N, rfl, hN, hcell, hb⟩; have HB := Aside0.mk hb; clear hN hcell hb); go_ret2; exact ⟨rfl, HB.out⟩
 | some n =>
  have HA := Aside0.mk (Tryd.strconv_Atoi t n (by omega) ha w); have HR := Aside0.mk (atoi_small t.data.toList n (by simpa using hs) ha); clear HT ha; dsimp only; by_cases hx : Lib.itoa n = t.toList
  ·rw [if_pos hx]; have t5 : (Lib.itoa n == t.toList) = true := by simp [hx]
   clear hx; by_cases h10 : t.size = 10
   ·have hq : bt t 0 = 45 := by
     by_cases q : bt t 0 = 45
     ·exact q
     ·exact absurd ⟨h10, q⟩ hg
    have t3 : ((t.size : Int) == 10) = true := by simp; omega
    have h0 : 0 < t.size := by omega
    have hx0 : ((t[0]'h0).toNat : Int) = 45 := by rw [← hq]; unfold bt; rw [dif_pos (show Int.toNat 0 < t.size from h0)]; rfl
    have t4 : (((t[0]'h0).toNat : Int) != 45) = false := by rw [hx0]; rfl
    have p9 := eq_true (show 0 ≤ (0 : Int) by omega); have q9 := eq_true (show (0 : Int) < (t.size : Int) by omega); clear hg h10 hq; go_enter Tryd.func141, Tryd.ntmps141; go_wp2_with (first | (go_at_call 164; refine HA.out.mono ?_; rintro e w1 ⟨rfl, tt, rfl⟩; have HB := Aside0.mk (bytes_below (Below.refl w.heap.size w) (Nat.le_refl _) 5 tt)) | (go_at_call 98; refine (Tryd.strconv_Itoa n HR.out.1 HR.out.2 _ (TB.below HTT.out HB.out).1).mono ?_; rintro e w2 ⟨rfl, k, os, rfl⟩; have HB2 := Aside0.mk (HB.out.trans ((below_grown _ k os).mono HB.out.size)))); go_ret2; exact ⟨rfl, HB2.out⟩
   ·have t3 : ((t.size : Int) == 10) = false := by simp; omega
    clear hg h10; go_enter Tryd.func141, Tryd.ntmps141; go_wp2_with (first | (go_at_call 164; refine HA.out.mono ?_; rintro e w1 ⟨rfl, tt, rfl⟩; have HB := Aside0.mk (bytes_below (Below.refl w.heap.size w) (Nat.le_refl _) 5 tt)) | (go_at_call 98; refine (Tryd.strconv_Itoa n HR.out.1 HR.out.2 _ (TB.below HTT.out HB.out).1).mono ?_; rintro e w2 ⟨rfl, k, os, rfl⟩; have HB2 := Aside0.mk (HB.out.trans ((below_grown _ k os).mono HB.out.size)))); go_ret2; exact ⟨rfl, HB2.out⟩
  ·rw [if_neg hx]; have t5 : (Lib.itoa n == t.toList) = false := by simp [hx]
   clear hx; by_cases h10 : t.size = 10
   ·have hq : bt t 0 = 45 := by
     by_cases q : bt t 0 = 45
     ·exact q
     ·exact absurd ⟨h10, q⟩ hg
    have t3 : ((t.size : Int) == 10) = true := by simp; omega
    have h0 : 0 < t.size := by omega
    have hx0 : ((t[0]'h0).toNat : Int) = 45 := by rw [← hq]; unfold bt; rw [dif_pos (show Int.toNat 0 < t.size from h0)]; rfl
    have t4 : (((t[0]'h0).toNat : Int) != 45) = false := by rw [hx0]; rfl
    have p9 := eq_true (show 0 ≤ (0 : Int) by omega); have q9 := eq_true (show (0 : Int) < (t.size : Int) by omega); clear hg h10 hq; go_enter Tryd.func141, Tryd.ntmps141; go_wp2_with (first | (go_at_call 164; refine HA.out.mono ?_; rintro e w1 ⟨rfl, tt, rfl⟩; have HB := Aside0.mk (bytes_below (Below.refl w.heap.size w) (Nat.le_refl _) 5 tt)) | (go_at_call 98; refine (Tryd.strconv_Itoa n HR.out.1 HR.out.2 _ (TB.below HTT.out HB.out).1).mono ?_; rintro e w2 ⟨rfl, k, os, rfl⟩; have HB2 := Aside0.mk (HB.out.trans ((below_grown _ k os).mono HB.out.size)))); go_ret2; exact ⟨rfl, HB2.out⟩
   ·have t3 : ((t.size : Int) == 10) = false := by simp; omega
    clear hg h10; go_enter Tryd.func141, Tryd.ntmps141; go_wp2_with (first | (go_at_call 164; refine HA.out.mono ?_; rintro e w1 ⟨rfl, tt, rfl⟩; have HB := Aside0.mk (bytes_below (Below.refl w.heap.size w) (Nat.le_refl _) 5 tt)) | (go_at_call 98; refine (Tryd.strconv_Itoa n HR.out.1 HR.out.2 _ (TB.below HTT.out HB.out).1).mono ?_; rintro e w2 ⟨rfl, k, os, rfl⟩; have HB2 := Aside0.mk (HB.out.trans ((below_grown _ k os).mono HB.out.size)))); go_ret2; exact ⟨rfl, HB2.out⟩
set_option maxHeartbeats 4000000 in
set_option maxRecDepth 100000 in
theorem pint_calls (t : ByteArray) (w : World) (HT : TB w) (hs : t.size ≤ 300) :
  Calls Tryd.prog 141 #[.string t] w fun e w' => e = .returned (.tuple #[.int .i64 (pint t).1, .bool (pint t).2]) ∧ Below w.heap.size w w' := by
 by_cases h1 : t.size > 10
 ·unfold pint; rw [if_pos h1]; have t2 : decide ((10 : Int) < (t.size : Int)) = true := decide_eq_true (by omega); have t1 : decide (10 < t.size) = true := decide_eq_true (by omega); clear h1 HT; go_enter Tryd.func141, Tryd.ntmps141; go_wp2; go_ret2; exact ⟨rfl, Below.refl _ _⟩
 ·by_cases h2 : t.size = 10 ∧ bt t 0 ≠ 45
  ·unfold pint; rw [if_neg h1, if_pos h2]; have t2 : decide ((10 : Int) < (t.size : Int)) = false := decide_eq_false (by omega); have t1 : decide (10 < t.size) = false := decide_eq_false (by omega); have t3 : ((t.size : Int) == 10) = true := by simp; omega
   have h0 : 0 < t.size := by omega
   have hx0 : bt t 0 = ((t[0]'h0).toNat : Int) := by unfold bt; rw [dif_pos (show Int.toNat 0 < t.size from h0)]; rfl
   have t4 : (((t[0]'h0).toNat : Int) != 45) = true := by rw [← hx0]; simp [h2.2]
   have p9 := eq_true (show 0 ≤ (0 : Int) by omega); have q9 := eq_true (show (0 : Int) < (t.size : Int) by omega); clear h1 h2 HT hx0; go_enter Tryd.func141, Tryd.ntmps141; go_wp2; go_ret2; exact ⟨rfl, Below.refl _ _⟩
  ·exact pint_late t w HT (by omega) h2
/-- A number and the full stop behind it. -/
def pnum (s : ByteArray) (i : Nat) (b : Bool) : Int × Nat × Bool :=
 if b = true ∨ Lib.indexByte (s.extract i s.size).data.toList 46 < 0 then (0, i, true)
 else ((pint (s.extract i (i + (Lib.indexByte (s.extract i s.size).data.toList 46).toNat))).1, i + (Lib.indexByte (s.extract i s.size).data.toList 46).toNat + 1, !(pint (s.extract i (i + (Lib.indexByte (s.extract i s.size).data.toList 46).toNat))).2)
set_option maxHeartbeats 4000000 in
set_option maxRecDepth 100000 in
theorem num_calls (W : World) (HT : TB W) (g : Nat) (s : ByteArray) (i : Nat) (b : Bool) (v : Value) (hi : i ≤ s.size) (hs : s.size ≤ 300) (hP : PB W g s i b v) :
  Calls Tryd.prog 112 #[.pointer (some ⟨g, 0, none⟩)] W fun e W' => e = .returned (.int .i64 (pnum s i b).1) ∧ PB W' g s ((pnum s i b).2.1 : Nat) (pnum s i b).2.2 v ∧ Off g W.heap.size W W' := by
 have HP := Aside0.mk hP; have HTT := Aside0.mk HT; have hc0 := hP.c0; have hc1 := hP.c1; have hc2 := hP.c2; have hf1 := blk_frozen hP 1; have hf2 := blk_frozen hP 2; have HI := Aside0.mk (fun w => Tryd.strings_IndexByte (s.extract i s.size) 46 w); clear hP HT; unfold pnum; have hge := Lib.indexByte_ge (s.extract i s.size).data.toList 46; have e46 : (46 : Int).toNat.toUInt8 = 46 := rfl; rw [e46] at HI; generalize hxe : Lib.indexByte (s.extract i s.size).data.toList 46 = x at HI hge ⊢; have HX := Aside0.mk hxe; clear hxe; have p1 := eq_true (show (i : Int) ≤ (s.size : Int) by omega); have p2 := eq_true (show 0 ≤ (i : Int) by omega); have mixed : Tryd.prog.follows Departure.mixedOrders = true := by kernel_rfl
 cases b with
 | true =>
  rw [if_pos (Or.inl rfl)]; go_enter Tryd.func112, Tryd.ntmps112; go_wp2_with fail; go_region_with_o (refine (HI.out _).mono ?_; rintro e W1 ⟨rfl, rfl⟩)
  all_goals (
   go_wp2; go_ret
   exact ⟨rfl, by repeat (first | exact PB.set2 HP.out true | exact PB.set2 (PB.drewN HP.out _) true | exact PB.set2 (PB.drew HP.out) true | apply PB.drew | apply PB.drewN), by repeat (first | exact Off.refl _ _ _ | apply Off.set | apply Off.drewN | apply Off.drew)⟩)
 | false =>
  by_cases hx : x < 0
  ·rw [if_pos (Or.inr hx)]; have t1 : decide (x < 0) = true := decide_eq_true hx; clear hx hge; go_enter Tryd.func112, Tryd.ntmps112; go_wp2_with fail; go_region_with_o (refine (HI.out _).mono ?_; rintro e W1 ⟨rfl, rfl⟩)
   all_goals (
    go_wp2; go_ret
    exact ⟨rfl, by repeat (first | exact PB.set2 HP.out true | exact PB.set2 (PB.drewN HP.out _) true | exact PB.set2 (PB.drew HP.out) true | apply PB.drew | apply PB.drewN), by repeat (first | exact Off.refl _ _ _ | apply Off.set | apply Off.drewN | apply Off.drew)⟩)
  ·rw [if_neg (fun h => h.elim (fun h => by cases h) hx)]; obtain ⟨e, rfl⟩ : ∃ e : Nat, x = (e : Int) := ⟨x.toNat, by omega⟩; have t1 : decide ((e : Int) < 0) = false := decide_eq_false hx; have hle : i + e ≤ s.size := by
    have h := (Lib.indexByte_some HX.out).1; have h2 := (List.getElem?_eq_some_iff.1 h).1; rw [Array.length_toList] at h2; have h3 : (s.extract i s.size).data.size = (s.extract i s.size).size := rfl; rw [h3, ByteArray.size_extract] at h2; omega
   have hw1 : IntKind.i64.wrap ((i : Int) + (e : Int)) = (i : Int) + (e : Int) := by simp only [IntKind.wrap, IntKind.bits, IntKind.signed]; simp; omega
   have p3 := eq_true (show (i : Int) + (e : Int) ≤ (s.size : Int) by omega); have p4 := eq_true (show (i : Int) ≤ (i : Int) + (e : Int) by omega); have hw2 : IntKind.i64.wrap ((e : Int) + 1) = (e : Int) + 1 := by simp only [IntKind.wrap, IntKind.bits, IntKind.signed]; simp; omega
   have hw3 : IntKind.i64.wrap ((i : Int) + ((e : Int) + 1)) = (i : Int) + ((e : Int) + 1) := by simp only [IntKind.wrap, IntKind.bits, IntKind.signed]; simp; omega
   have ht : ((i : Int) + (e : Int)).toNat = i + e := by omega
   rw [Int.toNat_natCast]; have HN := Aside0.mk (fun w (HT : TB w) => pint_calls (s.extract i (i + e)) w HT (by simp; omega)); generalize pint (s.extract i (i + e)) = q at HN ⊢; obtain ⟨qn, qb⟩ := q; have HLE := Aside0.mk hle; clear hx hge hle; dsimp only at HN ⊢; go_enter Tryd.func112, Tryd.ntmps112; go_wp2_with fail; go_region_with_o (refine (HI.out _).mono ?_; rintro e W1 ⟨rfl, rfl⟩)
   all_goals go_wp2
   all_goals (
    go_region_with_o (refine (HN.out _ (by first | exact HTT.out | exact TB.below HTT.out (by repeat (first | exact Below.refl _ _ | apply pw_below_drewN | apply below_drew1)))).mono ?_; rintro e W2 ⟨rfl, hb⟩; have HP2 := Aside0.mk (PB.below (by first | exact HP.out | exact PB.drewN HP.out _ | exact PB.drew HP.out) hb); have hc1' := HP2.out.c1; have hc2' := HP2.out.c2; have hf1' := blk_frozen HP2.out 1; have hf2' := blk_frozen HP2.out 2; have HB2 := Aside0.mk hb; clear hb)
    all_goals (
     go_wp2; go_ret; rw [show ((i + e + 1 : Nat) : Int) = (i : Int) + ((e : Int) + 1) by omega]
     exact ⟨rfl, by repeat (first | exact HP2.out | apply PB.drew | apply PB.drewN | apply PB.set2 | apply PB.set1), by repeat (first | exact (Off.refl g W.heap.size W).trans ⟨HB2.out.os, HB2.out.tape, HB2.out.output, HB2.out.size, fun k _ hk => HB2.out.block k hk⟩ | apply Off.set | apply Off.drewN | apply Off.drew)⟩))
end Go.Proofs.YtdekenijnbhpfaaDoor.M
/- The formula parser's 'node': what it computes (pnode), and what a walk of it carries from step to step. Condition: a text of at most 300 bytes. -/
namespace Go.Proofs.YtdekenijnbhpfaaDoor.M
open Go.RowKit Go.Proofs.YtdekenijnbhpfaaDoorW.PrintWords Go.Proofs.YtdekenijnbhpfaaDoorW.PrintLast Go.Proofs.YtdekenijnbhpfaaDoorW.PrintMore Go.Proofs.YtdekenijnbhpfaaDoor.KD
set_option linter.unusedVariables false
set_option linter.unusedSimpArgs false
def sgn : List UInt8 := [32, 61, 60, 43, 35, 83, 33, 38, 124, 69, 65]
def pfin (f : List S75) (n : S75) (i : Nat) (b : Bool) : Option (Int × Nat × Bool × List S75) := if f.length < 4398046511104 then some ((f.length : Int), i, b, f ++ [n]) else none
def psgn (s : ByteArray) (i : Nat) (b : Bool) : Int := Lib.indexByte sgn (pone s i b).1.toNat.toUInt8
def pnode (s : ByteArray) : Nat → Nat → Bool → List S75 → Option (Int × Nat × Bool × List S75)
 | 0, _, _, _ => none
 | k + 1, i, b, f =>
  let i1 := (pone s i b).2.1
  let b1 := (pone s i b).2.2
  let x := psgn s i b
  let d := pdig s i1 b1
  let e := pdig s d.2.1 d.2.2
  let e3 := pdig s e.2.1 e.2.2
  let m := pnum s d.2.1 d.2.2
  if x ≤ 0 then pfin f ⟨0, 0, 0, 0⟩ i1 true
  else if x = 1 ∨ x = 2 ∨ x = 5 then pfin f ⟨x, d.1, e.1, 0⟩ e.2.1 e.2.2
  else if x = 3 then pfin f ⟨3, d.1, e.1, e3.1⟩ e3.2.1 e3.2.2
  else if x = 4 then pfin f ⟨4, d.1, m.1, 0⟩ m.2.1 m.2.2
  else if x = 6 then (pnode s k i1 b1 f).bind fun q => pfin q.2.2.2 ⟨6, q.1, 0, 0⟩ q.2.1 q.2.2.1
  else if x = 7 ∨ x = 8 then (pnode s k i1 b1 f).bind fun q => (pnode s k q.2.1 q.2.2.1 q.2.2.2).bind fun r => pfin r.2.2.2 ⟨x, q.1, r.1, 0⟩ r.2.1 r.2.2.1
  else (pnode s k d.2.1 d.2.2 f).bind fun q => pfin q.2.2.2 ⟨x, d.1, q.1, 0⟩ q.2.1 q.2.2.1
theorem pnum_le (s : ByteArray) (i : Nat) (b : Bool) (h : i ≤ s.size) : (pnum s i b).2.1 ≤ s.size := by
 unfold pnum; split
 ·exact h
 ·rename_i hq; have hge : 0 ≤ Lib.indexByte (s.extract i s.size).data.toList 46 := by
   by_cases q : Lib.indexByte (s.extract i s.size).data.toList 46 < 0
   ·exact absurd (Or.inr q) hq
   ·omega
  have h1 := (Lib.indexByte_some (Int.toNat_of_nonneg hge).symm).1; have h2 := (List.getElem?_eq_some_iff.1 h1).1; rw [Array.length_toList] at h2; have h3 : (s.extract i s.size).data.size = (s.extract i s.size).size := rfl; rw [h3, ByteArray.size_extract] at h2; show i + _ + 1 ≤ s.size; omega
theorem psgn_range (s : ByteArray) (i : Nat) (b : Bool) : -1 ≤ psgn s i b ∧ psgn s i b ≤ 10 := by
 unfold psgn; have h1 := Lib.indexByte_ge sgn (pone s i b).1.toNat.toUInt8; refine ⟨h1, ?_⟩; by_cases h : Lib.indexByte sgn (pone s i b).1.toNat.toUInt8 < 0
 ·omega
 ·obtain ⟨o, ho⟩ : ∃ o : Nat, Lib.indexByte sgn (pone s i b).1.toNat.toUInt8 = (o : Int) := ⟨_, (Int.toNat_of_nonneg (by omega)).symm⟩; have h2 := (List.getElem?_eq_some_iff.1 (Lib.indexByte_some ho).1).1; have h3 : sgn.length = 11 := rfl; omega
/-- Of the blocks that are there, only the state's and one row's may turn. -/
structure Of2 (g : Nat) (v : Value) (w w' : World) : Prop where
 os : w'.os = w.os
 tape : w'.tape = w.tape
 output : w'.output = w.output
 size : w.heap.size ≤ w'.heap.size
 block : ∀ k, k ≠ g → some k ≠ v.ownBlock → k < w.heap.size → w'.heap[k]? = w.heap[k]?
/-- What the walk of node carries: W0 the caller's caller, W the world when node began, nb the node's own block. -/
structure NSt (W0 W : World) (g nb : Nat) (v : Value) (s : ByteArray) (Wc : World) (i : Nat) (b : Bool) (v1 : Value) (f : List S75) (cs : Array Value) : Prop where
 P : PB Wc g s (i : Int) b v1
 R : Kd.R k75 75 Wc W0.heap.size (fun k => k ≠ nb ∧ k ≠ g) v1 f
 N : Wc.heap[nb]? = some (.cells cs 75 (0, 0))
 B : Below W0.heap.size W0 Wc
 F : Of2 g v W Wc
 A : v1.ownBlock = v.ownBlock ∨ ∃ q, v1.ownBlock = some q ∧ W.heap.size ≤ q
 hn : W.heap.size ≤ nb
 hg : g < W.heap.size
 hg0 : W0.heap.size ≤ g
section
variable {W0 W Wc W' : World} {g nb : Nat} {v v1 v' : Value} {s : ByteArray} {i i' : Nat} {b b' : Bool} {f f' : List S75} {cs : Array Value}
theorem own_is {w : World} {base : Nat} {ok ok' : Nat → Prop} {u : Value} {l : List S75} (h : Kd.R k75 75 w base ok u l) (hk : ∀ k, u.ownBlock = some k → ok' k) : Kd.R k75 75 w base ok' u l :=
 Kd.R_mono (Kd.R_tight rfl h) (fun k e => hk k e.symm)
theorem NSt.off (h : NSt W0 W g nb v s Wc i b v1 f cs) (ho : Off g Wc.heap.size Wc W') (hp : PB W' g s (i' : Int) b' v1) : NSt W0 W g nb v s W' i' b' v1 f cs where
 P := hp
 R := Kd.R_step h.R fun k hk hl => ho.block k hk.2 hl
 N := (ho.block nb (by have := h.hn; have := h.hg; omega) (blk_lt h.N)).trans h.N
 B := h.B.trans (ho.below h.hg0 h.B.size)
 F := ⟨ho.os.trans h.F.os, ho.tape.trans h.F.tape, ho.output.trans h.F.output, Nat.le_trans h.F.size ho.size, fun k h1 h2 h3 => (ho.block k h1 (Nat.lt_of_lt_of_le h3 h.F.size)).trans (h.F.block k h1 h2 h3)⟩
 A := h.A
 hn := h.hn
 hg := h.hg
 hg0 := h.hg0
theorem NSt.setn (h : NSt W0 W g nb v s Wc i b v1 f cs) (j : Nat) (u : Value) : NSt W0 W g nb v s (Wc.setCell ⟨nb, j, none⟩ u) i b v1 f (cs.setIfInBounds j u) where
 P := (Below.heap_setCell _ _ _ _ (show g ≠ nb by have := h.hn; have := h.hg; omega)).trans h.P
 R := Kd.R_step h.R fun k hk _ => Below.heap_setCell _ _ _ _ hk.1
 N := blk_set h.N j u
 B := Below.setCell h.B (show W0.heap.size ≤ nb by have := h.hn; have := h.hg; have := h.hg0; omega) u
 F := ⟨h.F.os, h.F.tape, h.F.output, Nat.le_trans h.F.size (by simp [World.setCell]), fun k h1 h2 h3 => (Below.heap_setCell _ _ _ _ (show k ≠ nb by have := h.hn; omega)).trans (h.F.block k h1 h2 h3)⟩
 A := h.A
 hn := h.hn
 hg := h.hg
 hg0 := h.hg0
theorem NSt.drew (h : NSt W0 W g nb v s Wc i b v1 f cs) : NSt W0 W g nb v s Wc.drew i b v1 f cs := h.off (W' := Wc.drew) (Off.drew (Off.refl _ _ _)) h.P
theorem NSt.bad (h : NSt W0 W g nb v s Wc i b v1 f cs) (x : Bool) : NSt W0 W g nb v s (Wc.setCell ⟨g, 2, none⟩ (.bool x)) i x v1 f cs := h.off (Off.set (Off.refl _ _ _) 2 _) (h.P.set2 x)
/-- What a call of node tells. -/
def NodeTells (s : ByteArray) (W0 W : World) (g : Nat) (v : Value) (r : Int) (i' : Nat) (b' : Bool) (f' : List S75) (e : Ending) (W' : World) : Prop :=
 e = .returned (.int .i64 r) ∧ i' ≤ s.size ∧ ∃ v', PB W' g s (i' : Int) b' v' ∧ Kd.R k75 75 W' W0.heap.size (fun _ => True) v' f' ∧ Below W0.heap.size W0 W' ∧ Of2 g v W W' ∧ (v'.ownBlock = v.ownBlock ∨ ∃ q, v'.ownBlock = some q ∧ W.heap.size ≤ q)
theorem NSt.call (h : NSt W0 W g nb v s Wc i b v1 f cs) (hp : PB W' g s (i' : Int) b' v') (hr : Kd.R k75 75 W' W0.heap.size (fun _ => True) v' f') (hb : Below W0.heap.size W0 W') (ho : Of2 g v1 Wc W')
  (ha : v'.ownBlock = v1.ownBlock ∨ ∃ q, v'.ownBlock = some q ∧ Wc.heap.size ≤ q) : NSt W0 W g nb v s W' i' b' v' f' cs where
 P := hp
 R := own_is hr fun k hk => by
  have h1 := h.R.1; have h2 := blk_lt h.N; have h3 := h.P.lt; rcases ha with e | ⟨q, e, hq⟩
  ·exact h1 k (e ▸ hk)
  ·rw [hk] at e; obtain rfl := Option.some.inj e; exact ⟨by omega, by omega⟩
 N := (ho.block nb (by have := h.hn; have := h.hg; omega) (fun e => (h.R.1 nb e.symm).1 rfl) (blk_lt h.N)).trans h.N
 B := hb
 F := ⟨ho.os.trans h.F.os, ho.tape.trans h.F.tape, ho.output.trans h.F.output, Nat.le_trans h.F.size ho.size, fun k h1 h2 h3 => (ho.block k h1 (fun e => by
   rcases h.A with a | ⟨q, a, hq⟩
   ·exact h2 (e.trans a)
   ·rw [a] at e; have := Option.some.inj e; omega) (Nat.lt_of_lt_of_le h3 h.F.size)).trans (h.F.block k h1 h2 h3)⟩
 A := by
  rcases ha with e | ⟨q, e, hq⟩
  ·rw [e]; exact h.A
  ·exact Or.inr ⟨q, e, Nat.le_trans h.F.size hq⟩
 hn := h.hn
 hg := h.hg
 hg0 := h.hg0
/-- Where the node's own block has been laid. -/
theorem NSt.start {W1 W3 : World} (hP : PB W g s (i : Int) b v) (hR : Kd.R k75 75 W W0.heap.size (fun _ => True) v f) (hB : Below W0.heap.size W0 W) (hg0 : W0.heap.size ≤ g)
  (ho : Off g W.heap.size W W1) (hp : PB W1 g s (i' : Int) b' v) (hn : nb = W1.heap.size) (hc : W3.heap[nb]? = some (.cells cs 75 (0, 0))) (hb : Below W1.heap.size W1 W3) : NSt W0 W g nb v s W3 i' b' v f cs where
 P := hp.below hb
 R := own_is (Kd.R_below (Kd.R_step (own_is hR (ok' := fun k => k ≠ g ∧ k < W.heap.size) fun k hk => ⟨fun e => by
   have := Kd.R_ne hR (show W.heap[g]? = some (.cells _ 71 (0, 0)) from hP) (by decide)
   rw [e] at hk; exact this hk.symm, by obtain ⟨_, hown⟩ := Kd.R_own hR; exact own_lt hown k hk⟩) fun k hk hl => ho.block k hk.1 hk.2) hb) fun k hk => ⟨by
   obtain ⟨_, hown⟩ := Kd.R_own hR; have h1 := own_lt hown k hk; have h2 := ho.size; omega, fun e => by
   have := Kd.R_ne hR (show W.heap[g]? = some (.cells _ 71 (0, 0)) from hP) (by decide)
   rw [e] at hk; exact this hk.symm⟩
 N := hc
 B := hB.trans ((ho.below hg0 hB.size).trans (hb.mono (Nat.le_trans hB.size ho.size)))
 F := ⟨hb.os.trans ho.os, hb.tape.trans ho.tape, hb.output.trans ho.output, Nat.le_trans ho.size hb.size, fun k h1 _ h3 => (hb.block k (Nat.lt_of_lt_of_le h3 ho.size)).trans (ho.block k h1 h3)⟩
 A := Or.inl rfl
 hn := by rw [hn]; exact ho.size
 hg := hP.lt
 hg0 := hg0
/-- The node appended and the slice stored: what node tells. -/
theorem NSt.fin {Wa w2 : World} {v2 : Value} {f2 : List S75} {r : Int} (h : NSt W0 W g nb v s Wc i b v1 f cs) (hi : i ≤ s.size) (hr : Kd.R k75 75 w2 W0.heap.size (fun k => k ≠ nb ∧ k ≠ g) v2 f2) (hb : Below W0.heap.size W0 w2)
  (hg : Wa.grownBy w2 v1.ownBlock) (hat : v2.ownBlock = v1.ownBlock ∨ ∃ q, v2.ownBlock = some q ∧ Wa.heap.size ≤ q) (ha : Below Wc.heap.size Wc Wa) : NodeTells s W0 W g v r i b f2 (.returned (.int .i64 r)) (w2.setCell ⟨g, 3, none⟩ v2) := by
 have hlt := h.P.lt; have hgo : some g ≠ v1.ownBlock := fun e => (h.R.1 g e.symm).2 rfl
 have p1 : PB w2 g s (i : Int) b v1 := (hg.block g (Nat.lt_of_lt_of_le hlt ha.size) hgo).trans ((ha.block g hlt).trans h.P); refine ⟨rfl, hi, v2, p1.set3 v2, Kd.R_mono (Kd.R_step hr fun k hk _ => Below.heap_setCell _ _ _ _ hk.2) (fun _ _ => trivial), Below.setCell hb h.hg0 _, ?_, ?_⟩
 ·refine ⟨hg.os.trans (ha.os.trans h.F.os), hg.tape.trans (ha.tape.trans h.F.tape), hg.output.trans (ha.output.trans h.F.output), ?_, fun k h1 h2 h3 => ?_⟩
  ·have := h.F.size; have := ha.size; have := hg.size; simp [World.setCell]; omega
  ·have hk : k < Wc.heap.size := Nat.lt_of_lt_of_le h3 h.F.size; have hne : some k ≠ v1.ownBlock := fun e => by
    rcases h.A with a | ⟨q, a, hq⟩
    ·exact h2 (e.trans a)
    ·rw [a] at e; have := Option.some.inj e; omega
   exact (Below.heap_setCell _ _ _ _ h1).trans ((hg.block k (Nat.lt_of_lt_of_le hk ha.size) hne).trans ((ha.block k hk).trans (h.F.block k h1 h2 h3)))
 ·rcases hat with e | ⟨q, e, hq⟩
  ·rw [e]; exact h.A
  ·exact Or.inr ⟨q, e, by have := h.F.size; have := ha.size; omega⟩
/-- The row written: the state and the node's own block stay. -/
theorem NSt.keptP {w2 : World} (h : NSt W0 W g nb v s Wc i b v1 f cs) (hg : Wc.grownBy w2 v1.ownBlock) : PB w2 g s (i : Int) b v1 := (hg.block g h.P.lt (fun e => (h.R.1 g e.symm).2 rfl)).trans h.P
theorem NSt.keptN {w2 : World} (h : NSt W0 W g nb v s Wc i b v1 f cs) (hg : Wc.grownBy w2 v1.ownBlock) : w2.heap[nb]? = some (.cells cs 75 (0, 0)) := (hg.block nb (blk_lt h.N) (fun e => (h.R.1 nb e.symm).1 rfl)).trans h.N
end
end Go.Proofs.YtdekenijnbhpfaaDoor.M
/- The formula parser's 'node' walked, one way of its switch after the other; printed by a program of mine. Condition: a text of at most 300 bytes; what the library reads (TB) stands in the world. -/
namespace Go.Proofs.YtdekenijnbhpfaaDoor.M
open Go.RowKit Go.Proofs.YtdekenijnbhpfaaDoorW.PrintWords Go.Proofs.YtdekenijnbhpfaaDoorW.PrintLast Go.Proofs.YtdekenijnbhpfaaDoorW.PrintMore Go.Proofs.YtdekenijnbhpfaaDoor.KD
set_option linter.unusedVariables false
set_option linter.unusedSimpArgs false
def NodeOK (s : ByteArray) (k : Nat) : Prop := ∀ (W0 W : World) (g : Nat) (i : Nat) (b : Bool) (v : Value) (f : List S75) (r : Int) (i' : Nat) (b' : Bool) (f' : List S75), TB W0 → Below W0.heap.size W0 W → W0.heap.size ≤ g → i ≤ s.size → PB W g s (i : Int) b v → Kd.R k75 75 W W0.heap.size (fun _ => True) v f → pnode s k i b f = some (r, i', b', f') →
 Calls Tryd.prog 56 #[.pointer (some ⟨g, 0, none⟩)] W (NodeTells s W0 W g v r i' b' f')
set_option maxHeartbeats 8000000 in
set_option maxRecDepth 100000 in
theorem node_m1 (s : ByteArray) (k : Nat) (hs : s.size ≤ 300) (ih : NodeOK s k) (W0 W : World) (g : Nat) (i : Nat) (b : Bool) (v : Value) (f : List S75) (r : Int) (i' : Nat) (b' : Bool) (f' : List S75) (HT : TB W0) (hB : Below W0.heap.size W0 W) (hg0 : W0.heap.size ≤ g) (hi : i ≤ s.size) (hP : PB W g s (i : Int) b v) (hR : Kd.R k75 75 W W0.heap.size (fun _ => True) v f) (hx : psgn s i b = -1) (h : pnode s (k + 1) i b f = some (r, i', b', f')) :
  Calls Tryd.prog 56 #[.pointer (some ⟨g, 0, none⟩)] W (NodeTells s W0 W g v r i' b' f') := by
 have hs1 := one_calls W g s i b v hi hs hP; have hle := pone_le s i b hi; have e0 : Lib.indexByte (⟨#[32, 61, 60, 43, 35, 83, 33, 38, 124, 69, 65]⟩ : ByteArray).data.toList (pone s i b).1.toNat.toUInt8 = -1 := hx; have hI := fun w => Tryd.strings_IndexByte ⟨#[32, 61, 60, 43, 35, 83, 33, 38, 124, 69, 65]⟩ (pone s i b).1 w
 rw [e0] at hI; clear e0; simp only [pnode, hx] at h; rcases hq : pone s i b with ⟨c, i1, b1⟩; rw [hq] at hs1 hle hI h; dsimp only at hs1 hle hI h; clear hq hx; replace h : pfin f ⟨0, 0, 0, 0⟩ i1 true = some (r, i', b', f') := by simpa using h
 unfold pfin at h; split at h
 case isFalse => cases h
 rename_i hlim; simp only [Option.some.injEq, Prod.mk.injEq] at h; obtain ⟨rfl, rfl, rfl, rfl⟩ := h; have HS := Aside0.mk hs1; have HI := Aside0.mk hI; have HP := Aside0.mk hP; have HRR := Aside0.mk hR; have HB0 := Aside0.mk hB; have HLIM := Aside0.mk hlim; clear hs1 hI hR hP hB hlim; have mixed : Tryd.prog.follows Departure.mixedOrders = true := by kernel_rfl
 have hmx : max (0 : Int) (-1) = 0 := by decide
 go_enter Tryd.func56, Tryd.ntmps56; go_wp2_with (first | (go_at_call 110; refine HS.out.mono ?_; rintro e W1 ⟨rfl, hp, ho⟩; have HP1 := Aside0.mk hp; have HF1 := Aside0.mk ho; clear hp ho) | (go_at_call 109; refine (HI.out _).mono ?_; rintro e W2 ⟨rfl, rfl⟩) | ((with_reducible refine gate_dst (N := 3) rfl ?_); refine Aside0.out ?_)); refine Aside0.mk ?_; refine box_event ?hg (N := 3) ?hd (cs := #[.int .i64 0, .int .i64 0, .int .i64 0, .int .i64 0]) (t := 75) ?hr ?_
 case hd => rfl
 case hg => rfl
 case hr => first | (go_simp; done) | (go_simp; rfl)
 intro nb hnb W3 hbox hbl; have HN := Aside0.mk (NSt.start HP.out HRR.out HB0.out hg0 HF1.out HP1.out hnb hbox hbl); clear hnb hbox hbl; have hne : g ≠ nb := by have := HN.out.hn; have := HN.out.hg; omega
 have hn0 := (blk_cell HN.out.N 0).trans rfl; have hnf0 := blk_frozen HN.out.N 0; have hn1 := (blk_cell HN.out.N 1).trans rfl; have hnf1 := blk_frozen HN.out.N 1; have hn2 := (blk_cell HN.out.N 2).trans rfl; have hnf2 := blk_frozen HN.out.N 2; have hn3 := (blk_cell HN.out.N 3).trans rfl; have hnf3 := blk_frozen HN.out.N 3; go_upto_region 2 with (fail); replace HN := Aside0.mk (show NSt W0 W g nb v s ((((W3.setCell ⟨nb, 0, none⟩ (.int .i64 0)).setCell ⟨nb, 1, none⟩ (.int .i64 0)).setCell ⟨nb, 2, none⟩ (.int .i64 0)).setCell ⟨nb, 3, none⟩ (.int .i64 0)) i1 b1 v f #[.int .i64 0, .int .i64 0, .int .i64 0, .int .i64 0] from (((HN.out.setn 0 _).setn 1 _).setn 2 _).setn 3 _); generalize ((((W3.setCell ⟨nb, 0, none⟩ (.int .i64 0)).setCell ⟨nb, 1, none⟩ (.int .i64 0)).setCell ⟨nb, 2, none⟩ (.int .i64 0)).setCell ⟨nb, 3, none⟩ (.int .i64 0)) = W4 at HN ⊢; clear hn0 hn1 hn2 hn3 hnf0 hnf1 hnf2 hnf3; have hn0 := (blk_cell HN.out.N 0).trans rfl; have hg2 := HN.out.P.c2; have hgf2 := blk_frozen HN.out.P 2; go_wp2; replace HN := Aside0.mk (HN.out.bad true); generalize (W4.setCell ⟨g, 2, none⟩ (.bool true)) = W9 at HN ⊢; have hm0 : W9.cell? ⟨nb, 0, none⟩ = some (.int .i64 0) := (blk_cell HN.out.N 0).trans rfl; have hm1 : W9.cell? ⟨nb, 1, none⟩ = some (.int .i64 0) := (blk_cell HN.out.N 1).trans rfl; have hm2 : W9.cell? ⟨nb, 2, none⟩ = some (.int .i64 0) := (blk_cell HN.out.N 2).trans rfl; have hm3 : W9.cell? ⟨nb, 3, none⟩ = some (.int .i64 0) := (blk_cell HN.out.N 3).trans rfl; have hm4 : W9.cell? ⟨g, 3, none⟩ = some v := HN.out.P.c3; have hm5 := blk_frozen HN.out.P 3; have hm6 := HN.out.P.lt; go_wp2_with fail
 go_region_law (first
  | (
    (rw [show ∀ (w : World) (o : Obj), (w.alloc o).drew = w.drew.alloc o from fun _ _ => rfl])
    have HM := HN.out.drew; refine' Kd.R_append_step k75 (w0 := W0) W0.heap.size ?hw (.tmp 69) (.tmp 71) 36 75 (.agg #[(.int .i64 0), (.int .i64 0), (.int .i64 0), (.int .i64 0)]) 32 ?ho Tryd.underlying36 info75 rfl (by decide) (by omega) v f (⟨0, 0, 0, 0⟩ : S75) [.int .i64 0, .int .i64 0, .int .i64 0, .int .i64 0] (fun k => k ≠ nb ∧ k ≠ g) (fun _ => False) ?hs ?hx ?aP (fun _ hk => hk.elim) ?aF ?aO ?aB ?aS ?aL ?_
    case ho => rfl
    case hw => rfl
    case hs => rfl
    case hx => rfl
    case aP => exact k75_mkM _ _ _ (⟨0, 0, 0, 0⟩ : S75)
    case aF => exact fun k hk => ⟨fun e => by have := blk_lt HN.out.N; subst e; exact absurd hk (Nat.not_le.2 this), fun e => by have := HN.out.P.lt; subst e; exact absurd hk (Nat.not_le.2 this)⟩
    case aO => exact HM.R
    case aB => exact HM.B
    case aS => exact HM.B.size
    case aL => have := HLIM.out; omega
    intro v9 w9 ho9 hb9 hg9 hat9; obtain ⟨A9, c9, rfl⟩ := Kd.R_slice ho9; rw [show (f ++ [(⟨0, 0, 0, 0⟩ : S75)]).length = f.length + 1 from by simp] at ho9 hat9 ⊢; have hp9 := HM.keptP hg9; have hc9 := hp9.c3; have hf9 := blk_frozen hp9 3; have hk0 : w9.cell? ⟨nb, 0, none⟩ = some (.int .i64 0) := (blk_cell (HM.keptN hg9) 0).trans rfl; have hk1 : w9.cell? ⟨nb, 1, none⟩ = some (.int .i64 0) := (blk_cell (HM.keptN hg9) 1).trans rfl; have hk2 : w9.cell? ⟨nb, 2, none⟩ = some (.int .i64 0) := (blk_cell (HM.keptN hg9) 2).trans rfl
    have hk3 : w9.cell? ⟨nb, 3, none⟩ = some (.int .i64 0) := (blk_cell (HM.keptN hg9) 3).trans rfl))
 all_goals (
  have hw1 : IntKind.i64.wrap (((f.length + 1 : Nat) : Int) - 1) = (f.length : Int) := by have := HLIM.out; simp only [IntKind.wrap, IntKind.bits, IntKind.signed]; simp; omega
  have hw2 : IntKind.i64.wrap ((f.length : Int) + 1 - 1) = (f.length : Int) := by have := HLIM.out; simp only [IntKind.wrap, IntKind.bits, IntKind.signed]; simp; omega
  have hw3 : wrap64 (f.length : Int) = (f.length : Int) := by have := HLIM.out; unfold wrap64; omega
  go_wp2; go_ret; rw [hw3]
  exact HM.fin hle ho9 hb9 hg9 hat9 (Below.refl _ _))
set_option maxHeartbeats 8000000 in
set_option maxRecDepth 100000 in
theorem node_0 (s : ByteArray) (k : Nat) (hs : s.size ≤ 300) (ih : NodeOK s k) (W0 W : World) (g : Nat) (i : Nat) (b : Bool) (v : Value) (f : List S75) (r : Int) (i' : Nat) (b' : Bool) (f' : List S75) (HT : TB W0) (hB : Below W0.heap.size W0 W) (hg0 : W0.heap.size ≤ g) (hi : i ≤ s.size) (hP : PB W g s (i : Int) b v) (hR : Kd.R k75 75 W W0.heap.size (fun _ => True) v f) (hx : psgn s i b = 0) (h : pnode s (k + 1) i b f = some (r, i', b', f')) :
  Calls Tryd.prog 56 #[.pointer (some ⟨g, 0, none⟩)] W (NodeTells s W0 W g v r i' b' f') := by
 have hs1 := one_calls W g s i b v hi hs hP; have hle := pone_le s i b hi; have e0 : Lib.indexByte (⟨#[32, 61, 60, 43, 35, 83, 33, 38, 124, 69, 65]⟩ : ByteArray).data.toList (pone s i b).1.toNat.toUInt8 = 0 := hx; have hI := fun w => Tryd.strings_IndexByte ⟨#[32, 61, 60, 43, 35, 83, 33, 38, 124, 69, 65]⟩ (pone s i b).1 w
 rw [e0] at hI; clear e0; simp only [pnode, hx] at h; rcases hq : pone s i b with ⟨c, i1, b1⟩; rw [hq] at hs1 hle hI h; dsimp only at hs1 hle hI h; clear hq hx; replace h : pfin f ⟨0, 0, 0, 0⟩ i1 true = some (r, i', b', f') := by simpa using h
 unfold pfin at h; split at h
 case isFalse => cases h
 rename_i hlim; simp only [Option.some.injEq, Prod.mk.injEq] at h; obtain ⟨rfl, rfl, rfl, rfl⟩ := h; have HS := Aside0.mk hs1; have HI := Aside0.mk hI; have HP := Aside0.mk hP; have HRR := Aside0.mk hR; have HB0 := Aside0.mk hB; have HLIM := Aside0.mk hlim; clear hs1 hI hR hP hB hlim; have mixed : Tryd.prog.follows Departure.mixedOrders = true := by kernel_rfl
 have hmx : max (0 : Int) (0) = 0 := by decide
 go_enter Tryd.func56, Tryd.ntmps56; go_wp2_with (first | (go_at_call 110; refine HS.out.mono ?_; rintro e W1 ⟨rfl, hp, ho⟩; have HP1 := Aside0.mk hp; have HF1 := Aside0.mk ho; clear hp ho) | (go_at_call 109; refine (HI.out _).mono ?_; rintro e W2 ⟨rfl, rfl⟩) | ((with_reducible refine gate_dst (N := 3) rfl ?_); refine Aside0.out ?_)); refine Aside0.mk ?_; refine box_event ?hg (N := 3) ?hd (cs := #[.int .i64 0, .int .i64 0, .int .i64 0, .int .i64 0]) (t := 75) ?hr ?_
 case hd => rfl
 case hg => rfl
 case hr => first | (go_simp; done) | (go_simp; rfl)
 intro nb hnb W3 hbox hbl; have HN := Aside0.mk (NSt.start HP.out HRR.out HB0.out hg0 HF1.out HP1.out hnb hbox hbl); clear hnb hbox hbl; have hne : g ≠ nb := by have := HN.out.hn; have := HN.out.hg; omega
 have hn0 := (blk_cell HN.out.N 0).trans rfl; have hnf0 := blk_frozen HN.out.N 0; have hn1 := (blk_cell HN.out.N 1).trans rfl; have hnf1 := blk_frozen HN.out.N 1; have hn2 := (blk_cell HN.out.N 2).trans rfl; have hnf2 := blk_frozen HN.out.N 2; have hn3 := (blk_cell HN.out.N 3).trans rfl; have hnf3 := blk_frozen HN.out.N 3; go_upto_region 2 with (fail); replace HN := Aside0.mk (show NSt W0 W g nb v s ((((W3.setCell ⟨nb, 0, none⟩ (.int .i64 0)).setCell ⟨nb, 1, none⟩ (.int .i64 0)).setCell ⟨nb, 2, none⟩ (.int .i64 0)).setCell ⟨nb, 3, none⟩ (.int .i64 0)) i1 b1 v f #[.int .i64 0, .int .i64 0, .int .i64 0, .int .i64 0] from (((HN.out.setn 0 _).setn 1 _).setn 2 _).setn 3 _); generalize ((((W3.setCell ⟨nb, 0, none⟩ (.int .i64 0)).setCell ⟨nb, 1, none⟩ (.int .i64 0)).setCell ⟨nb, 2, none⟩ (.int .i64 0)).setCell ⟨nb, 3, none⟩ (.int .i64 0)) = W4 at HN ⊢; clear hn0 hn1 hn2 hn3 hnf0 hnf1 hnf2 hnf3; have hn0 := (blk_cell HN.out.N 0).trans rfl; have hg2 := HN.out.P.c2; have hgf2 := blk_frozen HN.out.P 2; go_wp2; replace HN := Aside0.mk (HN.out.bad true); generalize (W4.setCell ⟨g, 2, none⟩ (.bool true)) = W9 at HN ⊢; have hm0 : W9.cell? ⟨nb, 0, none⟩ = some (.int .i64 0) := (blk_cell HN.out.N 0).trans rfl; have hm1 : W9.cell? ⟨nb, 1, none⟩ = some (.int .i64 0) := (blk_cell HN.out.N 1).trans rfl; have hm2 : W9.cell? ⟨nb, 2, none⟩ = some (.int .i64 0) := (blk_cell HN.out.N 2).trans rfl; have hm3 : W9.cell? ⟨nb, 3, none⟩ = some (.int .i64 0) := (blk_cell HN.out.N 3).trans rfl; have hm4 : W9.cell? ⟨g, 3, none⟩ = some v := HN.out.P.c3; have hm5 := blk_frozen HN.out.P 3; have hm6 := HN.out.P.lt; go_wp2_with fail
 go_region_law (first
  | (
    (rw [show ∀ (w : World) (o : Obj), (w.alloc o).drew = w.drew.alloc o from fun _ _ => rfl])
    have HM := HN.out.drew; refine' Kd.R_append_step k75 (w0 := W0) W0.heap.size ?hw (.tmp 69) (.tmp 71) 36 75 (.agg #[(.int .i64 0), (.int .i64 0), (.int .i64 0), (.int .i64 0)]) 32 ?ho Tryd.underlying36 info75 rfl (by decide) (by omega) v f (⟨0, 0, 0, 0⟩ : S75) [.int .i64 0, .int .i64 0, .int .i64 0, .int .i64 0] (fun k => k ≠ nb ∧ k ≠ g) (fun _ => False) ?hs ?hx ?aP (fun _ hk => hk.elim) ?aF ?aO ?aB ?aS ?aL ?_
    case ho => rfl
    case hw => rfl
    case hs => rfl
    case hx => rfl
    case aP => exact k75_mkM _ _ _ (⟨0, 0, 0, 0⟩ : S75)
    case aF => exact fun k hk => ⟨fun e => by have := blk_lt HN.out.N; subst e; exact absurd hk (Nat.not_le.2 this), fun e => by have := HN.out.P.lt; subst e; exact absurd hk (Nat.not_le.2 this)⟩
    case aO => exact HM.R
    case aB => exact HM.B
    case aS => exact HM.B.size
    case aL => have := HLIM.out; omega
    intro v9 w9 ho9 hb9 hg9 hat9; obtain ⟨A9, c9, rfl⟩ := Kd.R_slice ho9; rw [show (f ++ [(⟨0, 0, 0, 0⟩ : S75)]).length = f.length + 1 from by simp] at ho9 hat9 ⊢; have hp9 := HM.keptP hg9; have hc9 := hp9.c3; have hf9 := blk_frozen hp9 3; have hk0 : w9.cell? ⟨nb, 0, none⟩ = some (.int .i64 0) := (blk_cell (HM.keptN hg9) 0).trans rfl; have hk1 : w9.cell? ⟨nb, 1, none⟩ = some (.int .i64 0) := (blk_cell (HM.keptN hg9) 1).trans rfl; have hk2 : w9.cell? ⟨nb, 2, none⟩ = some (.int .i64 0) := (blk_cell (HM.keptN hg9) 2).trans rfl
    have hk3 : w9.cell? ⟨nb, 3, none⟩ = some (.int .i64 0) := (blk_cell (HM.keptN hg9) 3).trans rfl))
 all_goals (
  have hw1 : IntKind.i64.wrap (((f.length + 1 : Nat) : Int) - 1) = (f.length : Int) := by have := HLIM.out; simp only [IntKind.wrap, IntKind.bits, IntKind.signed]; simp; omega
  have hw2 : IntKind.i64.wrap ((f.length : Int) + 1 - 1) = (f.length : Int) := by have := HLIM.out; simp only [IntKind.wrap, IntKind.bits, IntKind.signed]; simp; omega
  have hw3 : wrap64 (f.length : Int) = (f.length : Int) := by have := HLIM.out; unfold wrap64; omega
  go_wp2; go_ret; rw [hw3]
  exact HM.fin hle ho9 hb9 hg9 hat9 (Below.refl _ _))
set_option maxHeartbeats 8000000 in
set_option maxRecDepth 100000 in
theorem node_1 (s : ByteArray) (k : Nat) (hs : s.size ≤ 300) (ih : NodeOK s k) (W0 W : World) (g : Nat) (i : Nat) (b : Bool) (v : Value) (f : List S75) (r : Int) (i' : Nat) (b' : Bool) (f' : List S75) (HT : TB W0) (hB : Below W0.heap.size W0 W) (hg0 : W0.heap.size ≤ g) (hi : i ≤ s.size) (hP : PB W g s (i : Int) b v) (hR : Kd.R k75 75 W W0.heap.size (fun _ => True) v f) (hx : psgn s i b = 1) (h : pnode s (k + 1) i b f = some (r, i', b', f')) :
  Calls Tryd.prog 56 #[.pointer (some ⟨g, 0, none⟩)] W (NodeTells s W0 W g v r i' b' f') := by
 have hs1 := one_calls W g s i b v hi hs hP; have hle := pone_le s i b hi; have e0 : Lib.indexByte (⟨#[32, 61, 60, 43, 35, 83, 33, 38, 124, 69, 65]⟩ : ByteArray).data.toList (pone s i b).1.toNat.toUInt8 = 1 := hx; have hI := fun w => Tryd.strings_IndexByte ⟨#[32, 61, 60, 43, 35, 83, 33, 38, 124, 69, 65]⟩ (pone s i b).1 w
 rw [e0] at hI; clear e0; simp only [pnode, hx] at h; rcases hq : pone s i b with ⟨c, i1, b1⟩; rw [hq] at hs1 hle hI h; dsimp only at hs1 hle hI h; clear hq hx; have hle0 := pdig_le s i1 b1 hle; rcases hq0 : pdig s i1 b1 with ⟨x0, j0, c0⟩; rw [hq0] at hle0; simp only [hq0] at h; dsimp only at hle0; have hle1 := pdig_le s j0 c0 hle0; rcases hq1 : pdig s j0 c0 with ⟨x1, j1, c1⟩; rw [hq1] at hle1; simp only [hq1] at h; dsimp only at hle1; replace h : pfin f ⟨1, x0, x1, 0⟩ j1 c1 = some (r, i', b', f') := by simpa using h
 unfold pfin at h; split at h
 case isFalse => cases h
 rename_i hlim; simp only [Option.some.injEq, Prod.mk.injEq] at h; obtain ⟨rfl, rfl, rfl, rfl⟩ := h; have HS := Aside0.mk hs1; have HI := Aside0.mk hI; have HP := Aside0.mk hP; have HRR := Aside0.mk hR; have HB0 := Aside0.mk hB; have HLIM := Aside0.mk hlim; clear hs1 hI hR hP hB hlim; have HQ0 := Aside0.mk hq0; clear hq0; have HQ1 := Aside0.mk hq1; clear hq1; have mixed : Tryd.prog.follows Departure.mixedOrders = true := by kernel_rfl
 have hmx : max (0 : Int) (1) = 1 := by decide
 go_enter Tryd.func56, Tryd.ntmps56; go_wp2_with (first | (go_at_call 110; refine HS.out.mono ?_; rintro e W1 ⟨rfl, hp, ho⟩; have HP1 := Aside0.mk hp; have HF1 := Aside0.mk ho; clear hp ho) | (go_at_call 109; refine (HI.out _).mono ?_; rintro e W2 ⟨rfl, rfl⟩) | ((with_reducible refine gate_dst (N := 3) rfl ?_); refine Aside0.out ?_)); refine Aside0.mk ?_; refine box_event ?hg (N := 3) ?hd (cs := #[.int .i64 0, .int .i64 0, .int .i64 0, .int .i64 0]) (t := 75) ?hr ?_
 case hd => rfl
 case hg => rfl
 case hr => first | (go_simp; done) | (go_simp; rfl)
 intro nb hnb W3 hbox hbl; have HN := Aside0.mk (NSt.start HP.out HRR.out HB0.out hg0 HF1.out HP1.out hnb hbox hbl); clear hnb hbox hbl; have hne : g ≠ nb := by have := HN.out.hn; have := HN.out.hg; omega
 have hn0 := (blk_cell HN.out.N 0).trans rfl; have hnf0 := blk_frozen HN.out.N 0; have hn1 := (blk_cell HN.out.N 1).trans rfl; have hnf1 := blk_frozen HN.out.N 1; have hn2 := (blk_cell HN.out.N 2).trans rfl; have hnf2 := blk_frozen HN.out.N 2; have hn3 := (blk_cell HN.out.N 3).trans rfl; have hnf3 := blk_frozen HN.out.N 3; go_upto_region 2 with (fail); replace HN := Aside0.mk (show NSt W0 W g nb v s ((((W3.setCell ⟨nb, 0, none⟩ (.int .i64 1)).setCell ⟨nb, 1, none⟩ (.int .i64 0)).setCell ⟨nb, 2, none⟩ (.int .i64 0)).setCell ⟨nb, 3, none⟩ (.int .i64 0)) i1 b1 v f #[.int .i64 1, .int .i64 0, .int .i64 0, .int .i64 0] from (((HN.out.setn 0 _).setn 1 _).setn 2 _).setn 3 _); generalize ((((W3.setCell ⟨nb, 0, none⟩ (.int .i64 1)).setCell ⟨nb, 1, none⟩ (.int .i64 0)).setCell ⟨nb, 2, none⟩ (.int .i64 0)).setCell ⟨nb, 3, none⟩ (.int .i64 0)) = W4 at HN ⊢; clear hn0 hn1 hn2 hn3 hnf0 hnf1 hnf2 hnf3; have hn0 := (blk_cell HN.out.N 0).trans rfl; go_wp2_with (first | (go_at_call 111; have hcl_ := dig_calls _ g s i1 b1 _ hle hs HN.out.P; rw [HQ0.out] at hcl_; refine hcl_.mono ?_; clear hcl_; rintro e W10 ⟨rfl, hp, ho⟩; have HN1 := Aside0.mk (HN.out.off ho hp); clear hp ho; have hn10 := (blk_cell HN1.out.N 1).trans rfl; have hnf10 := blk_frozen HN1.out.N 1) | (go_at_call 111; have hcl_ := dig_calls _ g s j0 c0 _ hle0 hs (HN1.out.setn 1 (.int .i64 x0)).P; rw [HQ1.out] at hcl_; refine hcl_.mono ?_; clear hcl_; rintro e W11 ⟨rfl, hp, ho⟩; have HN2 := Aside0.mk ((HN1.out.setn 1 (.int .i64 x0)).off ho hp); clear hp ho; have hn21 := (blk_cell HN2.out.N 2).trans rfl; have hnf21 := blk_frozen HN2.out.N 2)); replace HN := Aside0.mk (HN2.out.setn 2 (.int .i64 x1)); generalize (W11.setCell ⟨nb, 2, none⟩ (.int .i64 x1)) = W9 at HN ⊢; have hm0 : W9.cell? ⟨nb, 0, none⟩ = some (.int .i64 1) := (blk_cell HN.out.N 0).trans rfl; have hm1 : W9.cell? ⟨nb, 1, none⟩ = some (.int .i64 x0) := (blk_cell HN.out.N 1).trans rfl; have hm2 : W9.cell? ⟨nb, 2, none⟩ = some (.int .i64 x1) := (blk_cell HN.out.N 2).trans rfl; have hm3 : W9.cell? ⟨nb, 3, none⟩ = some (.int .i64 0) := (blk_cell HN.out.N 3).trans rfl; have hm4 : W9.cell? ⟨g, 3, none⟩ = some v := HN.out.P.c3; have hm5 := blk_frozen HN.out.P 3; have hm6 := HN.out.P.lt; go_wp2_with fail
 go_region_law (first
  | (
    (rw [show ∀ (w : World) (o : Obj), (w.alloc o).drew = w.drew.alloc o from fun _ _ => rfl])
    have HM := HN.out.drew; refine' Kd.R_append_step k75 (w0 := W0) W0.heap.size ?hw (.tmp 69) (.tmp 71) 36 75 (.agg #[(.int .i64 0), (.int .i64 0), (.int .i64 0), (.int .i64 0)]) 32 ?ho Tryd.underlying36 info75 rfl (by decide) (by omega) v f (⟨1, x0, x1, 0⟩ : S75) [.int .i64 1, .int .i64 x0, .int .i64 x1, .int .i64 0] (fun k => k ≠ nb ∧ k ≠ g) (fun _ => False) ?hs ?hx ?aP (fun _ hk => hk.elim) ?aF ?aO ?aB ?aS ?aL ?_
    case ho => rfl
    case hw => rfl
    case hs => rfl
    case hx => rfl
    case aP => exact k75_mkM _ _ _ (⟨1, x0, x1, 0⟩ : S75)
    case aF => exact fun k hk => ⟨fun e => by have := blk_lt HN.out.N; subst e; exact absurd hk (Nat.not_le.2 this), fun e => by have := HN.out.P.lt; subst e; exact absurd hk (Nat.not_le.2 this)⟩
    case aO => exact HM.R
    case aB => exact HM.B
    case aS => exact HM.B.size
    case aL => have := HLIM.out; omega
    intro v9 w9 ho9 hb9 hg9 hat9; obtain ⟨A9, c9, rfl⟩ := Kd.R_slice ho9; rw [show (f ++ [(⟨1, x0, x1, 0⟩ : S75)]).length = f.length + 1 from by simp] at ho9 hat9 ⊢; have hp9 := HM.keptP hg9; have hc9 := hp9.c3; have hf9 := blk_frozen hp9 3; have hk0 : w9.cell? ⟨nb, 0, none⟩ = some (.int .i64 1) := (blk_cell (HM.keptN hg9) 0).trans rfl; have hk1 : w9.cell? ⟨nb, 1, none⟩ = some (.int .i64 x0) := (blk_cell (HM.keptN hg9) 1).trans rfl; have hk2 : w9.cell? ⟨nb, 2, none⟩ = some (.int .i64 x1) := (blk_cell (HM.keptN hg9) 2).trans rfl
    have hk3 : w9.cell? ⟨nb, 3, none⟩ = some (.int .i64 0) := (blk_cell (HM.keptN hg9) 3).trans rfl))
 all_goals (
  have hw1 : IntKind.i64.wrap (((f.length + 1 : Nat) : Int) - 1) = (f.length : Int) := by have := HLIM.out; simp only [IntKind.wrap, IntKind.bits, IntKind.signed]; simp; omega
  have hw2 : IntKind.i64.wrap ((f.length : Int) + 1 - 1) = (f.length : Int) := by have := HLIM.out; simp only [IntKind.wrap, IntKind.bits, IntKind.signed]; simp; omega
  have hw3 : wrap64 (f.length : Int) = (f.length : Int) := by have := HLIM.out; unfold wrap64; omega
  go_wp2; go_ret; rw [hw3]
  exact HM.fin hle1 ho9 hb9 hg9 hat9 (Below.refl _ _))
set_option maxHeartbeats 8000000 in
set_option maxRecDepth 100000 in
theorem node_2 (s : ByteArray) (k : Nat) (hs : s.size ≤ 300) (ih : NodeOK s k) (W0 W : World) (g : Nat) (i : Nat) (b : Bool) (v : Value) (f : List S75) (r : Int) (i' : Nat) (b' : Bool) (f' : List S75) (HT : TB W0) (hB : Below W0.heap.size W0 W) (hg0 : W0.heap.size ≤ g) (hi : i ≤ s.size) (hP : PB W g s (i : Int) b v) (hR : Kd.R k75 75 W W0.heap.size (fun _ => True) v f) (hx : psgn s i b = 2) (h : pnode s (k + 1) i b f = some (r, i', b', f')) :
  Calls Tryd.prog 56 #[.pointer (some ⟨g, 0, none⟩)] W (NodeTells s W0 W g v r i' b' f') := by
 have hs1 := one_calls W g s i b v hi hs hP; have hle := pone_le s i b hi; have e0 : Lib.indexByte (⟨#[32, 61, 60, 43, 35, 83, 33, 38, 124, 69, 65]⟩ : ByteArray).data.toList (pone s i b).1.toNat.toUInt8 = 2 := hx; have hI := fun w => Tryd.strings_IndexByte ⟨#[32, 61, 60, 43, 35, 83, 33, 38, 124, 69, 65]⟩ (pone s i b).1 w
 rw [e0] at hI; clear e0; simp only [pnode, hx] at h; rcases hq : pone s i b with ⟨c, i1, b1⟩; rw [hq] at hs1 hle hI h; dsimp only at hs1 hle hI h; clear hq hx; have hle0 := pdig_le s i1 b1 hle; rcases hq0 : pdig s i1 b1 with ⟨x0, j0, c0⟩; rw [hq0] at hle0; simp only [hq0] at h; dsimp only at hle0; have hle1 := pdig_le s j0 c0 hle0; rcases hq1 : pdig s j0 c0 with ⟨x1, j1, c1⟩; rw [hq1] at hle1; simp only [hq1] at h; dsimp only at hle1; replace h : pfin f ⟨2, x0, x1, 0⟩ j1 c1 = some (r, i', b', f') := by simpa using h
 unfold pfin at h; split at h
 case isFalse => cases h
 rename_i hlim; simp only [Option.some.injEq, Prod.mk.injEq] at h; obtain ⟨rfl, rfl, rfl, rfl⟩ := h; have HS := Aside0.mk hs1; have HI := Aside0.mk hI; have HP := Aside0.mk hP; have HRR := Aside0.mk hR; have HB0 := Aside0.mk hB; have HLIM := Aside0.mk hlim; clear hs1 hI hR hP hB hlim; have HQ0 := Aside0.mk hq0; clear hq0; have HQ1 := Aside0.mk hq1; clear hq1; have mixed : Tryd.prog.follows Departure.mixedOrders = true := by kernel_rfl
 have hmx : max (0 : Int) (2) = 2 := by decide
 go_enter Tryd.func56, Tryd.ntmps56; go_wp2_with (first | (go_at_call 110; refine HS.out.mono ?_; rintro e W1 ⟨rfl, hp, ho⟩; have HP1 := Aside0.mk hp; have HF1 := Aside0.mk ho; clear hp ho) | (go_at_call 109; refine (HI.out _).mono ?_; rintro e W2 ⟨rfl, rfl⟩) | ((with_reducible refine gate_dst (N := 3) rfl ?_); refine Aside0.out ?_)); refine Aside0.mk ?_; refine box_event ?hg (N := 3) ?hd (cs := #[.int .i64 0, .int .i64 0, .int .i64 0, .int .i64 0]) (t := 75) ?hr ?_
 case hd => rfl
 case hg => rfl
 case hr => first | (go_simp; done) | (go_simp; rfl)
 intro nb hnb W3 hbox hbl; have HN := Aside0.mk (NSt.start HP.out HRR.out HB0.out hg0 HF1.out HP1.out hnb hbox hbl); clear hnb hbox hbl; have hne : g ≠ nb := by have := HN.out.hn; have := HN.out.hg; omega
 have hn0 := (blk_cell HN.out.N 0).trans rfl; have hnf0 := blk_frozen HN.out.N 0; have hn1 := (blk_cell HN.out.N 1).trans rfl; have hnf1 := blk_frozen HN.out.N 1; have hn2 := (blk_cell HN.out.N 2).trans rfl; have hnf2 := blk_frozen HN.out.N 2; have hn3 := (blk_cell HN.out.N 3).trans rfl; have hnf3 := blk_frozen HN.out.N 3; go_upto_region 2 with (fail); replace HN := Aside0.mk (show NSt W0 W g nb v s ((((W3.setCell ⟨nb, 0, none⟩ (.int .i64 2)).setCell ⟨nb, 1, none⟩ (.int .i64 0)).setCell ⟨nb, 2, none⟩ (.int .i64 0)).setCell ⟨nb, 3, none⟩ (.int .i64 0)) i1 b1 v f #[.int .i64 2, .int .i64 0, .int .i64 0, .int .i64 0] from (((HN.out.setn 0 _).setn 1 _).setn 2 _).setn 3 _); generalize ((((W3.setCell ⟨nb, 0, none⟩ (.int .i64 2)).setCell ⟨nb, 1, none⟩ (.int .i64 0)).setCell ⟨nb, 2, none⟩ (.int .i64 0)).setCell ⟨nb, 3, none⟩ (.int .i64 0)) = W4 at HN ⊢; clear hn0 hn1 hn2 hn3 hnf0 hnf1 hnf2 hnf3; have hn0 := (blk_cell HN.out.N 0).trans rfl; go_wp2_with (first | (go_at_call 111; have hcl_ := dig_calls _ g s i1 b1 _ hle hs HN.out.P; rw [HQ0.out] at hcl_; refine hcl_.mono ?_; clear hcl_; rintro e W10 ⟨rfl, hp, ho⟩; have HN1 := Aside0.mk (HN.out.off ho hp); clear hp ho; have hn10 := (blk_cell HN1.out.N 1).trans rfl; have hnf10 := blk_frozen HN1.out.N 1) | (go_at_call 111; have hcl_ := dig_calls _ g s j0 c0 _ hle0 hs (HN1.out.setn 1 (.int .i64 x0)).P; rw [HQ1.out] at hcl_; refine hcl_.mono ?_; clear hcl_; rintro e W11 ⟨rfl, hp, ho⟩; have HN2 := Aside0.mk ((HN1.out.setn 1 (.int .i64 x0)).off ho hp); clear hp ho; have hn21 := (blk_cell HN2.out.N 2).trans rfl; have hnf21 := blk_frozen HN2.out.N 2)); replace HN := Aside0.mk (HN2.out.setn 2 (.int .i64 x1)); generalize (W11.setCell ⟨nb, 2, none⟩ (.int .i64 x1)) = W9 at HN ⊢; have hm0 : W9.cell? ⟨nb, 0, none⟩ = some (.int .i64 2) := (blk_cell HN.out.N 0).trans rfl; have hm1 : W9.cell? ⟨nb, 1, none⟩ = some (.int .i64 x0) := (blk_cell HN.out.N 1).trans rfl; have hm2 : W9.cell? ⟨nb, 2, none⟩ = some (.int .i64 x1) := (blk_cell HN.out.N 2).trans rfl; have hm3 : W9.cell? ⟨nb, 3, none⟩ = some (.int .i64 0) := (blk_cell HN.out.N 3).trans rfl; have hm4 : W9.cell? ⟨g, 3, none⟩ = some v := HN.out.P.c3; have hm5 := blk_frozen HN.out.P 3; have hm6 := HN.out.P.lt; go_wp2_with fail
 go_region_law (first
  | (
    (rw [show ∀ (w : World) (o : Obj), (w.alloc o).drew = w.drew.alloc o from fun _ _ => rfl])
    have HM := HN.out.drew; refine' Kd.R_append_step k75 (w0 := W0) W0.heap.size ?hw (.tmp 69) (.tmp 71) 36 75 (.agg #[(.int .i64 0), (.int .i64 0), (.int .i64 0), (.int .i64 0)]) 32 ?ho Tryd.underlying36 info75 rfl (by decide) (by omega) v f (⟨2, x0, x1, 0⟩ : S75) [.int .i64 2, .int .i64 x0, .int .i64 x1, .int .i64 0] (fun k => k ≠ nb ∧ k ≠ g) (fun _ => False) ?hs ?hx ?aP (fun _ hk => hk.elim) ?aF ?aO ?aB ?aS ?aL ?_
    case ho => rfl
    case hw => rfl
    case hs => rfl
    case hx => rfl
    case aP => exact k75_mkM _ _ _ (⟨2, x0, x1, 0⟩ : S75)
    case aF => exact fun k hk => ⟨fun e => by have := blk_lt HN.out.N; subst e; exact absurd hk (Nat.not_le.2 this), fun e => by have := HN.out.P.lt; subst e; exact absurd hk (Nat.not_le.2 this)⟩
    case aO => exact HM.R
    case aB => exact HM.B
    case aS => exact HM.B.size
    case aL => have := HLIM.out; omega
    intro v9 w9 ho9 hb9 hg9 hat9; obtain ⟨A9, c9, rfl⟩ := Kd.R_slice ho9; rw [show (f ++ [(⟨2, x0, x1, 0⟩ : S75)]).length = f.length + 1 from by simp] at ho9 hat9 ⊢; have hp9 := HM.keptP hg9; have hc9 := hp9.c3; have hf9 := blk_frozen hp9 3; have hk0 : w9.cell? ⟨nb, 0, none⟩ = some (.int .i64 2) := (blk_cell (HM.keptN hg9) 0).trans rfl; have hk1 : w9.cell? ⟨nb, 1, none⟩ = some (.int .i64 x0) := (blk_cell (HM.keptN hg9) 1).trans rfl; have hk2 : w9.cell? ⟨nb, 2, none⟩ = some (.int .i64 x1) := (blk_cell (HM.keptN hg9) 2).trans rfl
    have hk3 : w9.cell? ⟨nb, 3, none⟩ = some (.int .i64 0) := (blk_cell (HM.keptN hg9) 3).trans rfl))
 all_goals (
  have hw1 : IntKind.i64.wrap (((f.length + 1 : Nat) : Int) - 1) = (f.length : Int) := by have := HLIM.out; simp only [IntKind.wrap, IntKind.bits, IntKind.signed]; simp; omega
  have hw2 : IntKind.i64.wrap ((f.length : Int) + 1 - 1) = (f.length : Int) := by have := HLIM.out; simp only [IntKind.wrap, IntKind.bits, IntKind.signed]; simp; omega
  have hw3 : wrap64 (f.length : Int) = (f.length : Int) := by have := HLIM.out; unfold wrap64; omega
  go_wp2; go_ret; rw [hw3]
  exact HM.fin hle1 ho9 hb9 hg9 hat9 (Below.refl _ _))
set_option maxHeartbeats 8000000 in
set_option maxRecDepth 100000 in
theorem node_3 (s : ByteArray) (k : Nat) (hs : s.size ≤ 300) (ih : NodeOK s k) (W0 W : World) (g : Nat) (i : Nat) (b : Bool) (v : Value) (f : List S75) (r : Int) (i' : Nat) (b' : Bool) (f' : List S75) (HT : TB W0) (hB : Below W0.heap.size W0 W) (hg0 : W0.heap.size ≤ g) (hi : i ≤ s.size) (hP : PB W g s (i : Int) b v) (hR : Kd.R k75 75 W W0.heap.size (fun _ => True) v f) (hx : psgn s i b = 3) (h : pnode s (k + 1) i b f = some (r, i', b', f')) :
  Calls Tryd.prog 56 #[.pointer (some ⟨g, 0, none⟩)] W (NodeTells s W0 W g v r i' b' f') := by
 have hs1 := one_calls W g s i b v hi hs hP; have hle := pone_le s i b hi; have e0 : Lib.indexByte (⟨#[32, 61, 60, 43, 35, 83, 33, 38, 124, 69, 65]⟩ : ByteArray).data.toList (pone s i b).1.toNat.toUInt8 = 3 := hx; have hI := fun w => Tryd.strings_IndexByte ⟨#[32, 61, 60, 43, 35, 83, 33, 38, 124, 69, 65]⟩ (pone s i b).1 w
 rw [e0] at hI; clear e0; simp only [pnode, hx] at h; rcases hq : pone s i b with ⟨c, i1, b1⟩; rw [hq] at hs1 hle hI h; dsimp only at hs1 hle hI h; clear hq hx; have hle0 := pdig_le s i1 b1 hle; rcases hq0 : pdig s i1 b1 with ⟨x0, j0, c0⟩; rw [hq0] at hle0; simp only [hq0] at h; dsimp only at hle0; have hle1 := pdig_le s j0 c0 hle0; rcases hq1 : pdig s j0 c0 with ⟨x1, j1, c1⟩; rw [hq1] at hle1; simp only [hq1] at h; dsimp only at hle1; have hle2 := pdig_le s j1 c1 hle1; rcases hq2 : pdig s j1 c1 with ⟨x2, j2, c2⟩; rw [hq2] at hle2; simp only [hq2] at h; dsimp only at hle2; replace h : pfin f ⟨3, x0, x1, x2⟩ j2 c2 = some (r, i', b', f') := by simpa using h
 unfold pfin at h; split at h
 case isFalse => cases h
 rename_i hlim; simp only [Option.some.injEq, Prod.mk.injEq] at h; obtain ⟨rfl, rfl, rfl, rfl⟩ := h; have HS := Aside0.mk hs1; have HI := Aside0.mk hI; have HP := Aside0.mk hP; have HRR := Aside0.mk hR; have HB0 := Aside0.mk hB; have HLIM := Aside0.mk hlim; clear hs1 hI hR hP hB hlim; have HQ0 := Aside0.mk hq0; clear hq0; have HQ1 := Aside0.mk hq1; clear hq1; have HQ2 := Aside0.mk hq2; clear hq2; have mixed : Tryd.prog.follows Departure.mixedOrders = true := by kernel_rfl
 have hmx : max (0 : Int) (3) = 3 := by decide
 go_enter Tryd.func56, Tryd.ntmps56; go_wp2_with (first | (go_at_call 110; refine HS.out.mono ?_; rintro e W1 ⟨rfl, hp, ho⟩; have HP1 := Aside0.mk hp; have HF1 := Aside0.mk ho; clear hp ho) | (go_at_call 109; refine (HI.out _).mono ?_; rintro e W2 ⟨rfl, rfl⟩) | ((with_reducible refine gate_dst (N := 3) rfl ?_); refine Aside0.out ?_)); refine Aside0.mk ?_; refine box_event ?hg (N := 3) ?hd (cs := #[.int .i64 0, .int .i64 0, .int .i64 0, .int .i64 0]) (t := 75) ?hr ?_
 case hd => rfl
 case hg => rfl
 case hr => first | (go_simp; done) | (go_simp; rfl)
 intro nb hnb W3 hbox hbl; have HN := Aside0.mk (NSt.start HP.out HRR.out HB0.out hg0 HF1.out HP1.out hnb hbox hbl); clear hnb hbox hbl; have hne : g ≠ nb := by have := HN.out.hn; have := HN.out.hg; omega
 have hn0 := (blk_cell HN.out.N 0).trans rfl; have hnf0 := blk_frozen HN.out.N 0; have hn1 := (blk_cell HN.out.N 1).trans rfl; have hnf1 := blk_frozen HN.out.N 1; have hn2 := (blk_cell HN.out.N 2).trans rfl; have hnf2 := blk_frozen HN.out.N 2; have hn3 := (blk_cell HN.out.N 3).trans rfl; have hnf3 := blk_frozen HN.out.N 3; go_upto_region 2 with (fail); replace HN := Aside0.mk (show NSt W0 W g nb v s ((((W3.setCell ⟨nb, 0, none⟩ (.int .i64 3)).setCell ⟨nb, 1, none⟩ (.int .i64 0)).setCell ⟨nb, 2, none⟩ (.int .i64 0)).setCell ⟨nb, 3, none⟩ (.int .i64 0)) i1 b1 v f #[.int .i64 3, .int .i64 0, .int .i64 0, .int .i64 0] from (((HN.out.setn 0 _).setn 1 _).setn 2 _).setn 3 _); generalize ((((W3.setCell ⟨nb, 0, none⟩ (.int .i64 3)).setCell ⟨nb, 1, none⟩ (.int .i64 0)).setCell ⟨nb, 2, none⟩ (.int .i64 0)).setCell ⟨nb, 3, none⟩ (.int .i64 0)) = W4 at HN ⊢; clear hn0 hn1 hn2 hn3 hnf0 hnf1 hnf2 hnf3; have hn0 := (blk_cell HN.out.N 0).trans rfl; go_wp2_with (first | (go_at_call 111; have hcl_ := dig_calls _ g s i1 b1 _ hle hs HN.out.P; rw [HQ0.out] at hcl_; refine hcl_.mono ?_; clear hcl_; rintro e W10 ⟨rfl, hp, ho⟩; have HN1 := Aside0.mk (HN.out.off ho hp); clear hp ho; have hn10 := (blk_cell HN1.out.N 1).trans rfl; have hnf10 := blk_frozen HN1.out.N 1) | (go_at_call 111; have hcl_ := dig_calls _ g s j0 c0 _ hle0 hs (HN1.out.setn 1 (.int .i64 x0)).P; rw [HQ1.out] at hcl_; refine hcl_.mono ?_; clear hcl_; rintro e W11 ⟨rfl, hp, ho⟩; have HN2 := Aside0.mk ((HN1.out.setn 1 (.int .i64 x0)).off ho hp); clear hp ho; have hn21 := (blk_cell HN2.out.N 2).trans rfl; have hnf21 := blk_frozen HN2.out.N 2) | (go_at_call 111; have hcl_ := dig_calls _ g s j1 c1 _ hle1 hs (HN2.out.setn 2 (.int .i64 x1)).P; rw [HQ2.out] at hcl_; refine hcl_.mono ?_; clear hcl_; rintro e W12 ⟨rfl, hp, ho⟩; have HN3 := Aside0.mk ((HN2.out.setn 2 (.int .i64 x1)).off ho hp); clear hp ho; have hn32 := (blk_cell HN3.out.N 3).trans rfl; have hnf32 := blk_frozen HN3.out.N 3)); replace HN := Aside0.mk (HN3.out.setn 3 (.int .i64 x2)); generalize (W12.setCell ⟨nb, 3, none⟩ (.int .i64 x2)) = W9 at HN ⊢; have hm0 : W9.cell? ⟨nb, 0, none⟩ = some (.int .i64 3) := (blk_cell HN.out.N 0).trans rfl; have hm1 : W9.cell? ⟨nb, 1, none⟩ = some (.int .i64 x0) := (blk_cell HN.out.N 1).trans rfl; have hm2 : W9.cell? ⟨nb, 2, none⟩ = some (.int .i64 x1) := (blk_cell HN.out.N 2).trans rfl; have hm3 : W9.cell? ⟨nb, 3, none⟩ = some (.int .i64 x2) := (blk_cell HN.out.N 3).trans rfl; have hm4 : W9.cell? ⟨g, 3, none⟩ = some v := HN.out.P.c3; have hm5 := blk_frozen HN.out.P 3; have hm6 := HN.out.P.lt; go_wp2_with fail
 go_region_law (first
  | (
    (rw [show ∀ (w : World) (o : Obj), (w.alloc o).drew = w.drew.alloc o from fun _ _ => rfl])
    have HM := HN.out.drew; refine' Kd.R_append_step k75 (w0 := W0) W0.heap.size ?hw (.tmp 69) (.tmp 71) 36 75 (.agg #[(.int .i64 0), (.int .i64 0), (.int .i64 0), (.int .i64 0)]) 32 ?ho Tryd.underlying36 info75 rfl (by decide) (by omega) v f (⟨3, x0, x1, x2⟩ : S75) [.int .i64 3, .int .i64 x0, .int .i64 x1, .int .i64 x2] (fun k => k ≠ nb ∧ k ≠ g) (fun _ => False) ?hs ?hx ?aP (fun _ hk => hk.elim) ?aF ?aO ?aB ?aS ?aL ?_
    case ho => rfl
    case hw => rfl
    case hs => rfl
    case hx => rfl
    case aP => exact k75_mkM _ _ _ (⟨3, x0, x1, x2⟩ : S75)
    case aF => exact fun k hk => ⟨fun e => by have := blk_lt HN.out.N; subst e; exact absurd hk (Nat.not_le.2 this), fun e => by have := HN.out.P.lt; subst e; exact absurd hk (Nat.not_le.2 this)⟩
    case aO => exact HM.R
    case aB => exact HM.B
    case aS => exact HM.B.size
    case aL => have := HLIM.out; omega
    intro v9 w9 ho9 hb9 hg9 hat9; obtain ⟨A9, c9, rfl⟩ := Kd.R_slice ho9; rw [show (f ++ [(⟨3, x0, x1, x2⟩ : S75)]).length = f.length + 1 from by simp] at ho9 hat9 ⊢; have hp9 := HM.keptP hg9; have hc9 := hp9.c3; have hf9 := blk_frozen hp9 3; have hk0 : w9.cell? ⟨nb, 0, none⟩ = some (.int .i64 3) := (blk_cell (HM.keptN hg9) 0).trans rfl; have hk1 : w9.cell? ⟨nb, 1, none⟩ = some (.int .i64 x0) := (blk_cell (HM.keptN hg9) 1).trans rfl; have hk2 : w9.cell? ⟨nb, 2, none⟩ = some (.int .i64 x1) := (blk_cell (HM.keptN hg9) 2).trans rfl
    have hk3 : w9.cell? ⟨nb, 3, none⟩ = some (.int .i64 x2) := (blk_cell (HM.keptN hg9) 3).trans rfl))
 all_goals (
  have hw1 : IntKind.i64.wrap (((f.length + 1 : Nat) : Int) - 1) = (f.length : Int) := by have := HLIM.out; simp only [IntKind.wrap, IntKind.bits, IntKind.signed]; simp; omega
  have hw2 : IntKind.i64.wrap ((f.length : Int) + 1 - 1) = (f.length : Int) := by have := HLIM.out; simp only [IntKind.wrap, IntKind.bits, IntKind.signed]; simp; omega
  have hw3 : wrap64 (f.length : Int) = (f.length : Int) := by have := HLIM.out; unfold wrap64; omega
  go_wp2; go_ret; rw [hw3]
  exact HM.fin hle2 ho9 hb9 hg9 hat9 (Below.refl _ _))
set_option maxHeartbeats 8000000 in
set_option maxRecDepth 100000 in
theorem node_4 (s : ByteArray) (k : Nat) (hs : s.size ≤ 300) (ih : NodeOK s k) (W0 W : World) (g : Nat) (i : Nat) (b : Bool) (v : Value) (f : List S75) (r : Int) (i' : Nat) (b' : Bool) (f' : List S75) (HT : TB W0) (hB : Below W0.heap.size W0 W) (hg0 : W0.heap.size ≤ g) (hi : i ≤ s.size) (hP : PB W g s (i : Int) b v) (hR : Kd.R k75 75 W W0.heap.size (fun _ => True) v f) (hx : psgn s i b = 4) (h : pnode s (k + 1) i b f = some (r, i', b', f')) :
  Calls Tryd.prog 56 #[.pointer (some ⟨g, 0, none⟩)] W (NodeTells s W0 W g v r i' b' f') := by
 have hs1 := one_calls W g s i b v hi hs hP; have hle := pone_le s i b hi; have e0 : Lib.indexByte (⟨#[32, 61, 60, 43, 35, 83, 33, 38, 124, 69, 65]⟩ : ByteArray).data.toList (pone s i b).1.toNat.toUInt8 = 4 := hx; have hI := fun w => Tryd.strings_IndexByte ⟨#[32, 61, 60, 43, 35, 83, 33, 38, 124, 69, 65]⟩ (pone s i b).1 w
 rw [e0] at hI; clear e0; simp only [pnode, hx] at h; rcases hq : pone s i b with ⟨c, i1, b1⟩; rw [hq] at hs1 hle hI h; dsimp only at hs1 hle hI h; clear hq hx; have hle0 := pdig_le s i1 b1 hle; rcases hq0 : pdig s i1 b1 with ⟨x0, j0, c0⟩; rw [hq0] at hle0; simp only [hq0] at h; dsimp only at hle0; have hle1 := pnum_le s j0 c0 hle0; rcases hq1 : pnum s j0 c0 with ⟨x1, j1, c1⟩; rw [hq1] at hle1; simp only [hq1] at h; dsimp only at hle1; replace h : pfin f ⟨4, x0, x1, 0⟩ j1 c1 = some (r, i', b', f') := by simpa using h
 unfold pfin at h; split at h
 case isFalse => cases h
 rename_i hlim; simp only [Option.some.injEq, Prod.mk.injEq] at h; obtain ⟨rfl, rfl, rfl, rfl⟩ := h; have HS := Aside0.mk hs1; have HI := Aside0.mk hI; have HP := Aside0.mk hP; have HRR := Aside0.mk hR; have HB0 := Aside0.mk hB; have HLIM := Aside0.mk hlim; clear hs1 hI hR hP hB hlim; have HQ0 := Aside0.mk hq0; clear hq0; have HQ1 := Aside0.mk hq1; clear hq1; have mixed : Tryd.prog.follows Departure.mixedOrders = true := by kernel_rfl
 have hmx : max (0 : Int) (4) = 4 := by decide
 go_enter Tryd.func56, Tryd.ntmps56; go_wp2_with (first | (go_at_call 110; refine HS.out.mono ?_; rintro e W1 ⟨rfl, hp, ho⟩; have HP1 := Aside0.mk hp; have HF1 := Aside0.mk ho; clear hp ho) | (go_at_call 109; refine (HI.out _).mono ?_; rintro e W2 ⟨rfl, rfl⟩) | ((with_reducible refine gate_dst (N := 3) rfl ?_); refine Aside0.out ?_)); refine Aside0.mk ?_; refine box_event ?hg (N := 3) ?hd (cs := #[.int .i64 0, .int .i64 0, .int .i64 0, .int .i64 0]) (t := 75) ?hr ?_
 case hd => rfl
 case hg => rfl
 case hr => first | (go_simp; done) | (go_simp; rfl)
 intro nb hnb W3 hbox hbl; have HN := Aside0.mk (NSt.start HP.out HRR.out HB0.out hg0 HF1.out HP1.out hnb hbox hbl); clear hnb hbox hbl; have hne : g ≠ nb := by have := HN.out.hn; have := HN.out.hg; omega
 have hn0 := (blk_cell HN.out.N 0).trans rfl; have hnf0 := blk_frozen HN.out.N 0; have hn1 := (blk_cell HN.out.N 1).trans rfl; have hnf1 := blk_frozen HN.out.N 1; have hn2 := (blk_cell HN.out.N 2).trans rfl; have hnf2 := blk_frozen HN.out.N 2; have hn3 := (blk_cell HN.out.N 3).trans rfl; have hnf3 := blk_frozen HN.out.N 3; go_upto_region 2 with (fail); replace HN := Aside0.mk (show NSt W0 W g nb v s ((((W3.setCell ⟨nb, 0, none⟩ (.int .i64 4)).setCell ⟨nb, 1, none⟩ (.int .i64 0)).setCell ⟨nb, 2, none⟩ (.int .i64 0)).setCell ⟨nb, 3, none⟩ (.int .i64 0)) i1 b1 v f #[.int .i64 4, .int .i64 0, .int .i64 0, .int .i64 0] from (((HN.out.setn 0 _).setn 1 _).setn 2 _).setn 3 _); generalize ((((W3.setCell ⟨nb, 0, none⟩ (.int .i64 4)).setCell ⟨nb, 1, none⟩ (.int .i64 0)).setCell ⟨nb, 2, none⟩ (.int .i64 0)).setCell ⟨nb, 3, none⟩ (.int .i64 0)) = W4 at HN ⊢; clear hn0 hn1 hn2 hn3 hnf0 hnf1 hnf2 hnf3; have hn0 := (blk_cell HN.out.N 0).trans rfl; go_wp2_with (first | (go_at_call 111; have hcl_ := dig_calls _ g s i1 b1 _ hle hs HN.out.P; rw [HQ0.out] at hcl_; refine hcl_.mono ?_; clear hcl_; rintro e W10 ⟨rfl, hp, ho⟩; have HN1 := Aside0.mk (HN.out.off ho hp); clear hp ho; have hn10 := (blk_cell HN1.out.N 1).trans rfl; have hnf10 := blk_frozen HN1.out.N 1) | (go_at_call 112; have hcl_ := num_calls _ (TB.below HT (HN1.out.setn 1 (.int .i64 x0)).B) g s j0 c0 _ hle0 hs (HN1.out.setn 1 (.int .i64 x0)).P; rw [HQ1.out] at hcl_; refine hcl_.mono ?_; clear hcl_; rintro e W11 ⟨rfl, hp, ho⟩; have HN2 := Aside0.mk ((HN1.out.setn 1 (.int .i64 x0)).off ho hp); clear hp ho; have hn21 := (blk_cell HN2.out.N 2).trans rfl; have hnf21 := blk_frozen HN2.out.N 2)); replace HN := Aside0.mk (HN2.out.setn 2 (.int .i64 x1)); generalize (W11.setCell ⟨nb, 2, none⟩ (.int .i64 x1)) = W9 at HN ⊢; have hm0 : W9.cell? ⟨nb, 0, none⟩ = some (.int .i64 4) := (blk_cell HN.out.N 0).trans rfl; have hm1 : W9.cell? ⟨nb, 1, none⟩ = some (.int .i64 x0) := (blk_cell HN.out.N 1).trans rfl; have hm2 : W9.cell? ⟨nb, 2, none⟩ = some (.int .i64 x1) := (blk_cell HN.out.N 2).trans rfl; have hm3 : W9.cell? ⟨nb, 3, none⟩ = some (.int .i64 0) := (blk_cell HN.out.N 3).trans rfl; have hm4 : W9.cell? ⟨g, 3, none⟩ = some v := HN.out.P.c3; have hm5 := blk_frozen HN.out.P 3; have hm6 := HN.out.P.lt; go_wp2_with fail
 go_region_law (first
  | (
    (rw [show ∀ (w : World) (o : Obj), (w.alloc o).drew = w.drew.alloc o from fun _ _ => rfl])
    have HM := HN.out.drew; refine' Kd.R_append_step k75 (w0 := W0) W0.heap.size ?hw (.tmp 69) (.tmp 71) 36 75 (.agg #[(.int .i64 0), (.int .i64 0), (.int .i64 0), (.int .i64 0)]) 32 ?ho Tryd.underlying36 info75 rfl (by decide) (by omega) v f (⟨4, x0, x1, 0⟩ : S75) [.int .i64 4, .int .i64 x0, .int .i64 x1, .int .i64 0] (fun k => k ≠ nb ∧ k ≠ g) (fun _ => False) ?hs ?hx ?aP (fun _ hk => hk.elim) ?aF ?aO ?aB ?aS ?aL ?_
    case ho => rfl
    case hw => rfl
    case hs => rfl
    case hx => rfl
    case aP => exact k75_mkM _ _ _ (⟨4, x0, x1, 0⟩ : S75)
    case aF => exact fun k hk => ⟨fun e => by have := blk_lt HN.out.N; subst e; exact absurd hk (Nat.not_le.2 this), fun e => by have := HN.out.P.lt; subst e; exact absurd hk (Nat.not_le.2 this)⟩
    case aO => exact HM.R
    case aB => exact HM.B
    case aS => exact HM.B.size
    case aL => have := HLIM.out; omega
    intro v9 w9 ho9 hb9 hg9 hat9; obtain ⟨A9, c9, rfl⟩ := Kd.R_slice ho9; rw [show (f ++ [(⟨4, x0, x1, 0⟩ : S75)]).length = f.length + 1 from by simp] at ho9 hat9 ⊢; have hp9 := HM.keptP hg9; have hc9 := hp9.c3; have hf9 := blk_frozen hp9 3; have hk0 : w9.cell? ⟨nb, 0, none⟩ = some (.int .i64 4) := (blk_cell (HM.keptN hg9) 0).trans rfl; have hk1 : w9.cell? ⟨nb, 1, none⟩ = some (.int .i64 x0) := (blk_cell (HM.keptN hg9) 1).trans rfl; have hk2 : w9.cell? ⟨nb, 2, none⟩ = some (.int .i64 x1) := (blk_cell (HM.keptN hg9) 2).trans rfl
    have hk3 : w9.cell? ⟨nb, 3, none⟩ = some (.int .i64 0) := (blk_cell (HM.keptN hg9) 3).trans rfl))
 all_goals (
  have hw1 : IntKind.i64.wrap (((f.length + 1 : Nat) : Int) - 1) = (f.length : Int) := by have := HLIM.out; simp only [IntKind.wrap, IntKind.bits, IntKind.signed]; simp; omega
  have hw2 : IntKind.i64.wrap ((f.length : Int) + 1 - 1) = (f.length : Int) := by have := HLIM.out; simp only [IntKind.wrap, IntKind.bits, IntKind.signed]; simp; omega
  have hw3 : wrap64 (f.length : Int) = (f.length : Int) := by have := HLIM.out; unfold wrap64; omega
  go_wp2; go_ret; rw [hw3]
  exact HM.fin hle1 ho9 hb9 hg9 hat9 (Below.refl _ _))
set_option maxHeartbeats 8000000 in
set_option maxRecDepth 100000 in
theorem node_5 (s : ByteArray) (k : Nat) (hs : s.size ≤ 300) (ih : NodeOK s k) (W0 W : World) (g : Nat) (i : Nat) (b : Bool) (v : Value) (f : List S75) (r : Int) (i' : Nat) (b' : Bool) (f' : List S75) (HT : TB W0) (hB : Below W0.heap.size W0 W) (hg0 : W0.heap.size ≤ g) (hi : i ≤ s.size) (hP : PB W g s (i : Int) b v) (hR : Kd.R k75 75 W W0.heap.size (fun _ => True) v f) (hx : psgn s i b = 5) (h : pnode s (k + 1) i b f = some (r, i', b', f')) :
  Calls Tryd.prog 56 #[.pointer (some ⟨g, 0, none⟩)] W (NodeTells s W0 W g v r i' b' f') := by
 have hs1 := one_calls W g s i b v hi hs hP; have hle := pone_le s i b hi; have e0 : Lib.indexByte (⟨#[32, 61, 60, 43, 35, 83, 33, 38, 124, 69, 65]⟩ : ByteArray).data.toList (pone s i b).1.toNat.toUInt8 = 5 := hx; have hI := fun w => Tryd.strings_IndexByte ⟨#[32, 61, 60, 43, 35, 83, 33, 38, 124, 69, 65]⟩ (pone s i b).1 w
 rw [e0] at hI; clear e0; simp only [pnode, hx] at h; rcases hq : pone s i b with ⟨c, i1, b1⟩; rw [hq] at hs1 hle hI h; dsimp only at hs1 hle hI h; clear hq hx; have hle0 := pdig_le s i1 b1 hle; rcases hq0 : pdig s i1 b1 with ⟨x0, j0, c0⟩; rw [hq0] at hle0; simp only [hq0] at h; dsimp only at hle0; have hle1 := pdig_le s j0 c0 hle0; rcases hq1 : pdig s j0 c0 with ⟨x1, j1, c1⟩; rw [hq1] at hle1; simp only [hq1] at h; dsimp only at hle1; replace h : pfin f ⟨5, x0, x1, 0⟩ j1 c1 = some (r, i', b', f') := by simpa using h
 unfold pfin at h; split at h
 case isFalse => cases h
 rename_i hlim; simp only [Option.some.injEq, Prod.mk.injEq] at h; obtain ⟨rfl, rfl, rfl, rfl⟩ := h; have HS := Aside0.mk hs1; have HI := Aside0.mk hI; have HP := Aside0.mk hP; have HRR := Aside0.mk hR; have HB0 := Aside0.mk hB; have HLIM := Aside0.mk hlim; clear hs1 hI hR hP hB hlim; have HQ0 := Aside0.mk hq0; clear hq0; have HQ1 := Aside0.mk hq1; clear hq1; have mixed : Tryd.prog.follows Departure.mixedOrders = true := by kernel_rfl
 have hmx : max (0 : Int) (5) = 5 := by decide
 go_enter Tryd.func56, Tryd.ntmps56; go_wp2_with (first | (go_at_call 110; refine HS.out.mono ?_; rintro e W1 ⟨rfl, hp, ho⟩; have HP1 := Aside0.mk hp; have HF1 := Aside0.mk ho; clear hp ho) | (go_at_call 109; refine (HI.out _).mono ?_; rintro e W2 ⟨rfl, rfl⟩) | ((with_reducible refine gate_dst (N := 3) rfl ?_); refine Aside0.out ?_)); refine Aside0.mk ?_; refine box_event ?hg (N := 3) ?hd (cs := #[.int .i64 0, .int .i64 0, .int .i64 0, .int .i64 0]) (t := 75) ?hr ?_
 case hd => rfl
 case hg => rfl
 case hr => first | (go_simp; done) | (go_simp; rfl)
 intro nb hnb W3 hbox hbl; have HN := Aside0.mk (NSt.start HP.out HRR.out HB0.out hg0 HF1.out HP1.out hnb hbox hbl); clear hnb hbox hbl; have hne : g ≠ nb := by have := HN.out.hn; have := HN.out.hg; omega
 have hn0 := (blk_cell HN.out.N 0).trans rfl; have hnf0 := blk_frozen HN.out.N 0; have hn1 := (blk_cell HN.out.N 1).trans rfl; have hnf1 := blk_frozen HN.out.N 1; have hn2 := (blk_cell HN.out.N 2).trans rfl; have hnf2 := blk_frozen HN.out.N 2; have hn3 := (blk_cell HN.out.N 3).trans rfl; have hnf3 := blk_frozen HN.out.N 3; go_upto_region 2 with (fail); replace HN := Aside0.mk (show NSt W0 W g nb v s ((((W3.setCell ⟨nb, 0, none⟩ (.int .i64 5)).setCell ⟨nb, 1, none⟩ (.int .i64 0)).setCell ⟨nb, 2, none⟩ (.int .i64 0)).setCell ⟨nb, 3, none⟩ (.int .i64 0)) i1 b1 v f #[.int .i64 5, .int .i64 0, .int .i64 0, .int .i64 0] from (((HN.out.setn 0 _).setn 1 _).setn 2 _).setn 3 _); generalize ((((W3.setCell ⟨nb, 0, none⟩ (.int .i64 5)).setCell ⟨nb, 1, none⟩ (.int .i64 0)).setCell ⟨nb, 2, none⟩ (.int .i64 0)).setCell ⟨nb, 3, none⟩ (.int .i64 0)) = W4 at HN ⊢; clear hn0 hn1 hn2 hn3 hnf0 hnf1 hnf2 hnf3; have hn0 := (blk_cell HN.out.N 0).trans rfl; go_wp2_with (first | (go_at_call 111; have hcl_ := dig_calls _ g s i1 b1 _ hle hs HN.out.P; rw [HQ0.out] at hcl_; refine hcl_.mono ?_; clear hcl_; rintro e W10 ⟨rfl, hp, ho⟩; have HN1 := Aside0.mk (HN.out.off ho hp); clear hp ho; have hn10 := (blk_cell HN1.out.N 1).trans rfl; have hnf10 := blk_frozen HN1.out.N 1) | (go_at_call 111; have hcl_ := dig_calls _ g s j0 c0 _ hle0 hs (HN1.out.setn 1 (.int .i64 x0)).P; rw [HQ1.out] at hcl_; refine hcl_.mono ?_; clear hcl_; rintro e W11 ⟨rfl, hp, ho⟩; have HN2 := Aside0.mk ((HN1.out.setn 1 (.int .i64 x0)).off ho hp); clear hp ho; have hn21 := (blk_cell HN2.out.N 2).trans rfl; have hnf21 := blk_frozen HN2.out.N 2)); replace HN := Aside0.mk (HN2.out.setn 2 (.int .i64 x1)); generalize (W11.setCell ⟨nb, 2, none⟩ (.int .i64 x1)) = W9 at HN ⊢; have hm0 : W9.cell? ⟨nb, 0, none⟩ = some (.int .i64 5) := (blk_cell HN.out.N 0).trans rfl; have hm1 : W9.cell? ⟨nb, 1, none⟩ = some (.int .i64 x0) := (blk_cell HN.out.N 1).trans rfl; have hm2 : W9.cell? ⟨nb, 2, none⟩ = some (.int .i64 x1) := (blk_cell HN.out.N 2).trans rfl; have hm3 : W9.cell? ⟨nb, 3, none⟩ = some (.int .i64 0) := (blk_cell HN.out.N 3).trans rfl; have hm4 : W9.cell? ⟨g, 3, none⟩ = some v := HN.out.P.c3; have hm5 := blk_frozen HN.out.P 3; have hm6 := HN.out.P.lt; go_wp2_with fail
 go_region_law (first
  | (
    (rw [show ∀ (w : World) (o : Obj), (w.alloc o).drew = w.drew.alloc o from fun _ _ => rfl])
    have HM := HN.out.drew; refine' Kd.R_append_step k75 (w0 := W0) W0.heap.size ?hw (.tmp 69) (.tmp 71) 36 75 (.agg #[(.int .i64 0), (.int .i64 0), (.int .i64 0), (.int .i64 0)]) 32 ?ho Tryd.underlying36 info75 rfl (by decide) (by omega) v f (⟨5, x0, x1, 0⟩ : S75) [.int .i64 5, .int .i64 x0, .int .i64 x1, .int .i64 0] (fun k => k ≠ nb ∧ k ≠ g) (fun _ => False) ?hs ?hx ?aP (fun _ hk => hk.elim) ?aF ?aO ?aB ?aS ?aL ?_
    case ho => rfl
    case hw => rfl
    case hs => rfl
    case hx => rfl
    case aP => exact k75_mkM _ _ _ (⟨5, x0, x1, 0⟩ : S75)
    case aF => exact fun k hk => ⟨fun e => by have := blk_lt HN.out.N; subst e; exact absurd hk (Nat.not_le.2 this), fun e => by have := HN.out.P.lt; subst e; exact absurd hk (Nat.not_le.2 this)⟩
    case aO => exact HM.R
    case aB => exact HM.B
    case aS => exact HM.B.size
    case aL => have := HLIM.out; omega
    intro v9 w9 ho9 hb9 hg9 hat9; obtain ⟨A9, c9, rfl⟩ := Kd.R_slice ho9; rw [show (f ++ [(⟨5, x0, x1, 0⟩ : S75)]).length = f.length + 1 from by simp] at ho9 hat9 ⊢; have hp9 := HM.keptP hg9; have hc9 := hp9.c3; have hf9 := blk_frozen hp9 3; have hk0 : w9.cell? ⟨nb, 0, none⟩ = some (.int .i64 5) := (blk_cell (HM.keptN hg9) 0).trans rfl; have hk1 : w9.cell? ⟨nb, 1, none⟩ = some (.int .i64 x0) := (blk_cell (HM.keptN hg9) 1).trans rfl; have hk2 : w9.cell? ⟨nb, 2, none⟩ = some (.int .i64 x1) := (blk_cell (HM.keptN hg9) 2).trans rfl
    have hk3 : w9.cell? ⟨nb, 3, none⟩ = some (.int .i64 0) := (blk_cell (HM.keptN hg9) 3).trans rfl))
 all_goals (
  have hw1 : IntKind.i64.wrap (((f.length + 1 : Nat) : Int) - 1) = (f.length : Int) := by have := HLIM.out; simp only [IntKind.wrap, IntKind.bits, IntKind.signed]; simp; omega
  have hw2 : IntKind.i64.wrap ((f.length : Int) + 1 - 1) = (f.length : Int) := by have := HLIM.out; simp only [IntKind.wrap, IntKind.bits, IntKind.signed]; simp; omega
  have hw3 : wrap64 (f.length : Int) = (f.length : Int) := by have := HLIM.out; unfold wrap64; omega
  go_wp2; go_ret; rw [hw3]
  exact HM.fin hle1 ho9 hb9 hg9 hat9 (Below.refl _ _))
set_option maxHeartbeats 8000000 in
set_option maxRecDepth 100000 in
theorem node_6 (s : ByteArray) (k : Nat) (hs : s.size ≤ 300) (ih : NodeOK s k) (W0 W : World) (g : Nat) (i : Nat) (b : Bool) (v : Value) (f : List S75) (r : Int) (i' : Nat) (b' : Bool) (f' : List S75) (HT : TB W0) (hB : Below W0.heap.size W0 W) (hg0 : W0.heap.size ≤ g) (hi : i ≤ s.size) (hP : PB W g s (i : Int) b v) (hR : Kd.R k75 75 W W0.heap.size (fun _ => True) v f) (hx : psgn s i b = 6) (h : pnode s (k + 1) i b f = some (r, i', b', f')) :
  Calls Tryd.prog 56 #[.pointer (some ⟨g, 0, none⟩)] W (NodeTells s W0 W g v r i' b' f') := by
 have hs1 := one_calls W g s i b v hi hs hP; have hle := pone_le s i b hi; have e0 : Lib.indexByte (⟨#[32, 61, 60, 43, 35, 83, 33, 38, 124, 69, 65]⟩ : ByteArray).data.toList (pone s i b).1.toNat.toUInt8 = 6 := hx; have hI := fun w => Tryd.strings_IndexByte ⟨#[32, 61, 60, 43, 35, 83, 33, 38, 124, 69, 65]⟩ (pone s i b).1 w
 rw [e0] at hI; clear e0; simp only [pnode, hx] at h; rcases hq : pone s i b with ⟨c, i1, b1⟩; rw [hq] at hs1 hle hI h; dsimp only at hs1 hle hI h; clear hq hx; rcases hq0 : pnode s k i1 b1 f with _ | ⟨x0, j0, c0, f0⟩
 ·simp [hq0] at h
 simp only [hq0, Option.bind_some] at h; replace h : pfin f0 ⟨6, x0, 0, 0⟩ j0 c0 = some (r, i', b', f') := by simpa using h
 unfold pfin at h; split at h
 case isFalse => cases h
 rename_i hlim; simp only [Option.some.injEq, Prod.mk.injEq] at h; obtain ⟨rfl, rfl, rfl, rfl⟩ := h; have HS := Aside0.mk hs1; have HI := Aside0.mk hI; have HP := Aside0.mk hP; have HRR := Aside0.mk hR; have HB0 := Aside0.mk hB; have HLIM := Aside0.mk hlim; clear hs1 hI hR hP hB hlim; have HQ0 := Aside0.mk hq0; clear hq0; have mixed : Tryd.prog.follows Departure.mixedOrders = true := by kernel_rfl
 have hmx : max (0 : Int) (6) = 6 := by decide
 go_enter Tryd.func56, Tryd.ntmps56; go_wp2_with (first | (go_at_call 110; refine HS.out.mono ?_; rintro e W1 ⟨rfl, hp, ho⟩; have HP1 := Aside0.mk hp; have HF1 := Aside0.mk ho; clear hp ho) | (go_at_call 109; refine (HI.out _).mono ?_; rintro e W2 ⟨rfl, rfl⟩) | ((with_reducible refine gate_dst (N := 3) rfl ?_); refine Aside0.out ?_)); refine Aside0.mk ?_; refine box_event ?hg (N := 3) ?hd (cs := #[.int .i64 0, .int .i64 0, .int .i64 0, .int .i64 0]) (t := 75) ?hr ?_
 case hd => rfl
 case hg => rfl
 case hr => first | (go_simp; done) | (go_simp; rfl)
 intro nb hnb W3 hbox hbl; have HN := Aside0.mk (NSt.start HP.out HRR.out HB0.out hg0 HF1.out HP1.out hnb hbox hbl); clear hnb hbox hbl; have hne : g ≠ nb := by have := HN.out.hn; have := HN.out.hg; omega
 have hn0 := (blk_cell HN.out.N 0).trans rfl; have hnf0 := blk_frozen HN.out.N 0; have hn1 := (blk_cell HN.out.N 1).trans rfl; have hnf1 := blk_frozen HN.out.N 1; have hn2 := (blk_cell HN.out.N 2).trans rfl; have hnf2 := blk_frozen HN.out.N 2; have hn3 := (blk_cell HN.out.N 3).trans rfl; have hnf3 := blk_frozen HN.out.N 3; go_upto_region 2 with (fail); replace HN := Aside0.mk (show NSt W0 W g nb v s ((((W3.setCell ⟨nb, 0, none⟩ (.int .i64 6)).setCell ⟨nb, 1, none⟩ (.int .i64 0)).setCell ⟨nb, 2, none⟩ (.int .i64 0)).setCell ⟨nb, 3, none⟩ (.int .i64 0)) i1 b1 v f #[.int .i64 6, .int .i64 0, .int .i64 0, .int .i64 0] from (((HN.out.setn 0 _).setn 1 _).setn 2 _).setn 3 _); generalize ((((W3.setCell ⟨nb, 0, none⟩ (.int .i64 6)).setCell ⟨nb, 1, none⟩ (.int .i64 0)).setCell ⟨nb, 2, none⟩ (.int .i64 0)).setCell ⟨nb, 3, none⟩ (.int .i64 0)) = W4 at HN ⊢; clear hn0 hn1 hn2 hn3 hnf0 hnf1 hnf2 hnf3; have hn0 := (blk_cell HN.out.N 0).trans rfl; go_wp2_with (first | (go_at_call 56; refine (ih W0 _ g i1 b1 _ f x0 j0 c0 f0 HT HN.out.B hg0 hle HN.out.P (Kd.R_mono HN.out.R (fun _ _ => trivial)) HQ0.out).mono ?_; rintro e W10 ⟨rfl, hle0, v0, hp, hr, hb, ho, ha⟩; have HN1 := Aside0.mk (HN.out.call hp hr hb ho ha); clear hp hr hb ho ha; have hn10 := (blk_cell HN1.out.N 1).trans rfl; have hnf10 := blk_frozen HN1.out.N 1)); replace HN := Aside0.mk (HN1.out.setn 1 (.int .i64 x0)); generalize (W10.setCell ⟨nb, 1, none⟩ (.int .i64 x0)) = W9 at HN ⊢; have hm0 : W9.cell? ⟨nb, 0, none⟩ = some (.int .i64 6) := (blk_cell HN.out.N 0).trans rfl; have hm1 : W9.cell? ⟨nb, 1, none⟩ = some (.int .i64 x0) := (blk_cell HN.out.N 1).trans rfl; have hm2 : W9.cell? ⟨nb, 2, none⟩ = some (.int .i64 0) := (blk_cell HN.out.N 2).trans rfl; have hm3 : W9.cell? ⟨nb, 3, none⟩ = some (.int .i64 0) := (blk_cell HN.out.N 3).trans rfl; have hm4 : W9.cell? ⟨g, 3, none⟩ = some v0 := HN.out.P.c3; have hm5 := blk_frozen HN.out.P 3; have hm6 := HN.out.P.lt; go_wp2_with fail
 go_region_law (first
  | (
    (rw [show ∀ (w : World) (o : Obj), (w.alloc o).drew = w.drew.alloc o from fun _ _ => rfl])
    have HM := HN.out.drew; refine' Kd.R_append_step k75 (w0 := W0) W0.heap.size ?hw (.tmp 69) (.tmp 71) 36 75 (.agg #[(.int .i64 0), (.int .i64 0), (.int .i64 0), (.int .i64 0)]) 32 ?ho Tryd.underlying36 info75 rfl (by decide) (by omega) v0 f0 (⟨6, x0, 0, 0⟩ : S75) [.int .i64 6, .int .i64 x0, .int .i64 0, .int .i64 0] (fun k => k ≠ nb ∧ k ≠ g) (fun _ => False) ?hs ?hx ?aP (fun _ hk => hk.elim) ?aF ?aO ?aB ?aS ?aL ?_
    case ho => rfl
    case hw => rfl
    case hs => rfl
    case hx => rfl
    case aP => exact k75_mkM _ _ _ (⟨6, x0, 0, 0⟩ : S75)
    case aF => exact fun k hk => ⟨fun e => by have := blk_lt HN.out.N; subst e; exact absurd hk (Nat.not_le.2 this), fun e => by have := HN.out.P.lt; subst e; exact absurd hk (Nat.not_le.2 this)⟩
    case aO => exact HM.R
    case aB => exact HM.B
    case aS => exact HM.B.size
    case aL => have := HLIM.out; omega
    intro v9 w9 ho9 hb9 hg9 hat9; obtain ⟨A9, c9, rfl⟩ := Kd.R_slice ho9; rw [show (f0 ++ [(⟨6, x0, 0, 0⟩ : S75)]).length = f0.length + 1 from by simp] at ho9 hat9 ⊢; have hp9 := HM.keptP hg9; have hc9 := hp9.c3; have hf9 := blk_frozen hp9 3; have hk0 : w9.cell? ⟨nb, 0, none⟩ = some (.int .i64 6) := (blk_cell (HM.keptN hg9) 0).trans rfl; have hk1 : w9.cell? ⟨nb, 1, none⟩ = some (.int .i64 x0) := (blk_cell (HM.keptN hg9) 1).trans rfl; have hk2 : w9.cell? ⟨nb, 2, none⟩ = some (.int .i64 0) := (blk_cell (HM.keptN hg9) 2).trans rfl
    have hk3 : w9.cell? ⟨nb, 3, none⟩ = some (.int .i64 0) := (blk_cell (HM.keptN hg9) 3).trans rfl))
 all_goals (
  have hw1 : IntKind.i64.wrap (((f0.length + 1 : Nat) : Int) - 1) = (f0.length : Int) := by have := HLIM.out; simp only [IntKind.wrap, IntKind.bits, IntKind.signed]; simp; omega
  have hw2 : IntKind.i64.wrap ((f0.length : Int) + 1 - 1) = (f0.length : Int) := by have := HLIM.out; simp only [IntKind.wrap, IntKind.bits, IntKind.signed]; simp; omega
  have hw3 : wrap64 (f0.length : Int) = (f0.length : Int) := by have := HLIM.out; unfold wrap64; omega
  go_wp2; go_ret; rw [hw3]
  exact HM.fin hle0 ho9 hb9 hg9 hat9 (Below.refl _ _))
set_option maxHeartbeats 8000000 in
set_option maxRecDepth 100000 in
theorem node_7 (s : ByteArray) (k : Nat) (hs : s.size ≤ 300) (ih : NodeOK s k) (W0 W : World) (g : Nat) (i : Nat) (b : Bool) (v : Value) (f : List S75) (r : Int) (i' : Nat) (b' : Bool) (f' : List S75) (HT : TB W0) (hB : Below W0.heap.size W0 W) (hg0 : W0.heap.size ≤ g) (hi : i ≤ s.size) (hP : PB W g s (i : Int) b v) (hR : Kd.R k75 75 W W0.heap.size (fun _ => True) v f) (hx : psgn s i b = 7) (h : pnode s (k + 1) i b f = some (r, i', b', f')) :
  Calls Tryd.prog 56 #[.pointer (some ⟨g, 0, none⟩)] W (NodeTells s W0 W g v r i' b' f') := by
 have hs1 := one_calls W g s i b v hi hs hP; have hle := pone_le s i b hi; have e0 : Lib.indexByte (⟨#[32, 61, 60, 43, 35, 83, 33, 38, 124, 69, 65]⟩ : ByteArray).data.toList (pone s i b).1.toNat.toUInt8 = 7 := hx; have hI := fun w => Tryd.strings_IndexByte ⟨#[32, 61, 60, 43, 35, 83, 33, 38, 124, 69, 65]⟩ (pone s i b).1 w
 rw [e0] at hI; clear e0; simp only [pnode, hx] at h; rcases hq : pone s i b with ⟨c, i1, b1⟩; rw [hq] at hs1 hle hI h; dsimp only at hs1 hle hI h; clear hq hx; rcases hq0 : pnode s k i1 b1 f with _ | ⟨x0, j0, c0, f0⟩
 ·simp [hq0] at h
 simp only [hq0, Option.bind_some] at h; rcases hq1 : pnode s k j0 c0 f0 with _ | ⟨x1, j1, c1, f1⟩
 ·simp [hq1] at h
 simp only [hq1, Option.bind_some] at h; replace h : pfin f1 ⟨7, x0, x1, 0⟩ j1 c1 = some (r, i', b', f') := by simpa using h
 unfold pfin at h; split at h
 case isFalse => cases h
 rename_i hlim; simp only [Option.some.injEq, Prod.mk.injEq] at h; obtain ⟨rfl, rfl, rfl, rfl⟩ := h; have HS := Aside0.mk hs1; have HI := Aside0.mk hI; have HP := Aside0.mk hP; have HRR := Aside0.mk hR; have HB0 := Aside0.mk hB; have HLIM := Aside0.mk hlim; clear hs1 hI hR hP hB hlim; have HQ0 := Aside0.mk hq0; clear hq0; have HQ1 := Aside0.mk hq1; clear hq1; have mixed : Tryd.prog.follows Departure.mixedOrders = true := by kernel_rfl
 have hmx : max (0 : Int) (7) = 7 := by decide
 go_enter Tryd.func56, Tryd.ntmps56; go_wp2_with (first | (go_at_call 110; refine HS.out.mono ?_; rintro e W1 ⟨rfl, hp, ho⟩; have HP1 := Aside0.mk hp; have HF1 := Aside0.mk ho; clear hp ho) | (go_at_call 109; refine (HI.out _).mono ?_; rintro e W2 ⟨rfl, rfl⟩) | ((with_reducible refine gate_dst (N := 3) rfl ?_); refine Aside0.out ?_)); refine Aside0.mk ?_; refine box_event ?hg (N := 3) ?hd (cs := #[.int .i64 0, .int .i64 0, .int .i64 0, .int .i64 0]) (t := 75) ?hr ?_
 case hd => rfl
 case hg => rfl
 case hr => first | (go_simp; done) | (go_simp; rfl)
 intro nb hnb W3 hbox hbl; have HN := Aside0.mk (NSt.start HP.out HRR.out HB0.out hg0 HF1.out HP1.out hnb hbox hbl); clear hnb hbox hbl; have hne : g ≠ nb := by have := HN.out.hn; have := HN.out.hg; omega
 have hn0 := (blk_cell HN.out.N 0).trans rfl; have hnf0 := blk_frozen HN.out.N 0; have hn1 := (blk_cell HN.out.N 1).trans rfl; have hnf1 := blk_frozen HN.out.N 1; have hn2 := (blk_cell HN.out.N 2).trans rfl; have hnf2 := blk_frozen HN.out.N 2; have hn3 := (blk_cell HN.out.N 3).trans rfl; have hnf3 := blk_frozen HN.out.N 3; go_upto_region 2 with (fail); replace HN := Aside0.mk (show NSt W0 W g nb v s ((((W3.setCell ⟨nb, 0, none⟩ (.int .i64 7)).setCell ⟨nb, 1, none⟩ (.int .i64 0)).setCell ⟨nb, 2, none⟩ (.int .i64 0)).setCell ⟨nb, 3, none⟩ (.int .i64 0)) i1 b1 v f #[.int .i64 7, .int .i64 0, .int .i64 0, .int .i64 0] from (((HN.out.setn 0 _).setn 1 _).setn 2 _).setn 3 _); generalize ((((W3.setCell ⟨nb, 0, none⟩ (.int .i64 7)).setCell ⟨nb, 1, none⟩ (.int .i64 0)).setCell ⟨nb, 2, none⟩ (.int .i64 0)).setCell ⟨nb, 3, none⟩ (.int .i64 0)) = W4 at HN ⊢; clear hn0 hn1 hn2 hn3 hnf0 hnf1 hnf2 hnf3; have hn0 := (blk_cell HN.out.N 0).trans rfl; go_wp2_with (first | (go_at_call 56; refine (ih W0 _ g i1 b1 _ f x0 j0 c0 f0 HT HN.out.B hg0 hle HN.out.P (Kd.R_mono HN.out.R (fun _ _ => trivial)) HQ0.out).mono ?_; rintro e W10 ⟨rfl, hle0, v0, hp, hr, hb, ho, ha⟩; have HN1 := Aside0.mk (HN.out.call hp hr hb ho ha); clear hp hr hb ho ha; have hn10 := (blk_cell HN1.out.N 1).trans rfl; have hnf10 := blk_frozen HN1.out.N 1) | (go_at_call 56; refine (ih W0 _ g j0 c0 _ f0 x1 j1 c1 f1 HT (HN1.out.setn 1 (.int .i64 x0)).B hg0 hle0 (HN1.out.setn 1 (.int .i64 x0)).P (Kd.R_mono (HN1.out.setn 1 (.int .i64 x0)).R (fun _ _ => trivial)) HQ1.out).mono ?_; rintro e W11 ⟨rfl, hle1, v1, hp, hr, hb, ho, ha⟩; have HN2 := Aside0.mk ((HN1.out.setn 1 (.int .i64 x0)).call hp hr hb ho ha); clear hp hr hb ho ha; have hn21 := (blk_cell HN2.out.N 2).trans rfl; have hnf21 := blk_frozen HN2.out.N 2)); replace HN := Aside0.mk (HN2.out.setn 2 (.int .i64 x1)); generalize (W11.setCell ⟨nb, 2, none⟩ (.int .i64 x1)) = W9 at HN ⊢; have hm0 : W9.cell? ⟨nb, 0, none⟩ = some (.int .i64 7) := (blk_cell HN.out.N 0).trans rfl; have hm1 : W9.cell? ⟨nb, 1, none⟩ = some (.int .i64 x0) := (blk_cell HN.out.N 1).trans rfl; have hm2 : W9.cell? ⟨nb, 2, none⟩ = some (.int .i64 x1) := (blk_cell HN.out.N 2).trans rfl; have hm3 : W9.cell? ⟨nb, 3, none⟩ = some (.int .i64 0) := (blk_cell HN.out.N 3).trans rfl; have hm4 : W9.cell? ⟨g, 3, none⟩ = some v1 := HN.out.P.c3; have hm5 := blk_frozen HN.out.P 3; have hm6 := HN.out.P.lt; go_wp2_with fail
 go_region_law (first
  | (
    (rw [show ∀ (w : World) (o : Obj), (w.alloc o).drew = w.drew.alloc o from fun _ _ => rfl])
    have HM := HN.out.drew; refine' Kd.R_append_step k75 (w0 := W0) W0.heap.size ?hw (.tmp 69) (.tmp 71) 36 75 (.agg #[(.int .i64 0), (.int .i64 0), (.int .i64 0), (.int .i64 0)]) 32 ?ho Tryd.underlying36 info75 rfl (by decide) (by omega) v1 f1 (⟨7, x0, x1, 0⟩ : S75) [.int .i64 7, .int .i64 x0, .int .i64 x1, .int .i64 0] (fun k => k ≠ nb ∧ k ≠ g) (fun _ => False) ?hs ?hx ?aP (fun _ hk => hk.elim) ?aF ?aO ?aB ?aS ?aL ?_
    case ho => rfl
    case hw => rfl
    case hs => rfl
    case hx => rfl
    case aP => exact k75_mkM _ _ _ (⟨7, x0, x1, 0⟩ : S75)
    case aF => exact fun k hk => ⟨fun e => by have := blk_lt HN.out.N; subst e; exact absurd hk (Nat.not_le.2 this), fun e => by have := HN.out.P.lt; subst e; exact absurd hk (Nat.not_le.2 this)⟩
    case aO => exact HM.R
    case aB => exact HM.B
    case aS => exact HM.B.size
    case aL => have := HLIM.out; omega
    intro v9 w9 ho9 hb9 hg9 hat9; obtain ⟨A9, c9, rfl⟩ := Kd.R_slice ho9; rw [show (f1 ++ [(⟨7, x0, x1, 0⟩ : S75)]).length = f1.length + 1 from by simp] at ho9 hat9 ⊢; have hp9 := HM.keptP hg9; have hc9 := hp9.c3; have hf9 := blk_frozen hp9 3; have hk0 : w9.cell? ⟨nb, 0, none⟩ = some (.int .i64 7) := (blk_cell (HM.keptN hg9) 0).trans rfl; have hk1 : w9.cell? ⟨nb, 1, none⟩ = some (.int .i64 x0) := (blk_cell (HM.keptN hg9) 1).trans rfl; have hk2 : w9.cell? ⟨nb, 2, none⟩ = some (.int .i64 x1) := (blk_cell (HM.keptN hg9) 2).trans rfl
    have hk3 : w9.cell? ⟨nb, 3, none⟩ = some (.int .i64 0) := (blk_cell (HM.keptN hg9) 3).trans rfl))
 all_goals (
  have hw1 : IntKind.i64.wrap (((f1.length + 1 : Nat) : Int) - 1) = (f1.length : Int) := by have := HLIM.out; simp only [IntKind.wrap, IntKind.bits, IntKind.signed]; simp; omega
  have hw2 : IntKind.i64.wrap ((f1.length : Int) + 1 - 1) = (f1.length : Int) := by have := HLIM.out; simp only [IntKind.wrap, IntKind.bits, IntKind.signed]; simp; omega
  have hw3 : wrap64 (f1.length : Int) = (f1.length : Int) := by have := HLIM.out; unfold wrap64; omega
  go_wp2; go_ret; rw [hw3]
  exact HM.fin hle1 ho9 hb9 hg9 hat9 (Below.refl _ _))
set_option maxHeartbeats 8000000 in
set_option maxRecDepth 100000 in
theorem node_8 (s : ByteArray) (k : Nat) (hs : s.size ≤ 300) (ih : NodeOK s k) (W0 W : World) (g : Nat) (i : Nat) (b : Bool) (v : Value) (f : List S75) (r : Int) (i' : Nat) (b' : Bool) (f' : List S75) (HT : TB W0) (hB : Below W0.heap.size W0 W) (hg0 : W0.heap.size ≤ g) (hi : i ≤ s.size) (hP : PB W g s (i : Int) b v) (hR : Kd.R k75 75 W W0.heap.size (fun _ => True) v f) (hx : psgn s i b = 8) (h : pnode s (k + 1) i b f = some (r, i', b', f')) :
  Calls Tryd.prog 56 #[.pointer (some ⟨g, 0, none⟩)] W (NodeTells s W0 W g v r i' b' f') := by
 have hs1 := one_calls W g s i b v hi hs hP; have hle := pone_le s i b hi; have e0 : Lib.indexByte (⟨#[32, 61, 60, 43, 35, 83, 33, 38, 124, 69, 65]⟩ : ByteArray).data.toList (pone s i b).1.toNat.toUInt8 = 8 := hx; have hI := fun w => Tryd.strings_IndexByte ⟨#[32, 61, 60, 43, 35, 83, 33, 38, 124, 69, 65]⟩ (pone s i b).1 w
 rw [e0] at hI; clear e0; simp only [pnode, hx] at h; rcases hq : pone s i b with ⟨c, i1, b1⟩; rw [hq] at hs1 hle hI h; dsimp only at hs1 hle hI h; clear hq hx; rcases hq0 : pnode s k i1 b1 f with _ | ⟨x0, j0, c0, f0⟩
 ·simp [hq0] at h
 simp only [hq0, Option.bind_some] at h; rcases hq1 : pnode s k j0 c0 f0 with _ | ⟨x1, j1, c1, f1⟩
 ·simp [hq1] at h
 simp only [hq1, Option.bind_some] at h; replace h : pfin f1 ⟨8, x0, x1, 0⟩ j1 c1 = some (r, i', b', f') := by simpa using h
 unfold pfin at h; split at h
 case isFalse => cases h
 rename_i hlim; simp only [Option.some.injEq, Prod.mk.injEq] at h; obtain ⟨rfl, rfl, rfl, rfl⟩ := h; have HS := Aside0.mk hs1; have HI := Aside0.mk hI; have HP := Aside0.mk hP; have HRR := Aside0.mk hR; have HB0 := Aside0.mk hB; have HLIM := Aside0.mk hlim; clear hs1 hI hR hP hB hlim; have HQ0 := Aside0.mk hq0; clear hq0; have HQ1 := Aside0.mk hq1; clear hq1; have mixed : Tryd.prog.follows Departure.mixedOrders = true := by kernel_rfl
 have hmx : max (0 : Int) (8) = 8 := by decide
 go_enter Tryd.func56, Tryd.ntmps56; go_wp2_with (first | (go_at_call 110; refine HS.out.mono ?_; rintro e W1 ⟨rfl, hp, ho⟩; have HP1 := Aside0.mk hp; have HF1 := Aside0.mk ho; clear hp ho) | (go_at_call 109; refine (HI.out _).mono ?_; rintro e W2 ⟨rfl, rfl⟩) | ((with_reducible refine gate_dst (N := 3) rfl ?_); refine Aside0.out ?_)); refine Aside0.mk ?_; refine box_event ?hg (N := 3) ?hd (cs := #[.int .i64 0, .int .i64 0, .int .i64 0, .int .i64 0]) (t := 75) ?hr ?_
 case hd => rfl
 case hg => rfl
 case hr => first | (go_simp; done) | (go_simp; rfl)
 intro nb hnb W3 hbox hbl; have HN := Aside0.mk (NSt.start HP.out HRR.out HB0.out hg0 HF1.out HP1.out hnb hbox hbl); clear hnb hbox hbl; have hne : g ≠ nb := by have := HN.out.hn; have := HN.out.hg; omega
 have hn0 := (blk_cell HN.out.N 0).trans rfl; have hnf0 := blk_frozen HN.out.N 0; have hn1 := (blk_cell HN.out.N 1).trans rfl; have hnf1 := blk_frozen HN.out.N 1; have hn2 := (blk_cell HN.out.N 2).trans rfl; have hnf2 := blk_frozen HN.out.N 2; have hn3 := (blk_cell HN.out.N 3).trans rfl; have hnf3 := blk_frozen HN.out.N 3; go_upto_region 2 with (fail); replace HN := Aside0.mk (show NSt W0 W g nb v s ((((W3.setCell ⟨nb, 0, none⟩ (.int .i64 8)).setCell ⟨nb, 1, none⟩ (.int .i64 0)).setCell ⟨nb, 2, none⟩ (.int .i64 0)).setCell ⟨nb, 3, none⟩ (.int .i64 0)) i1 b1 v f #[.int .i64 8, .int .i64 0, .int .i64 0, .int .i64 0] from (((HN.out.setn 0 _).setn 1 _).setn 2 _).setn 3 _); generalize ((((W3.setCell ⟨nb, 0, none⟩ (.int .i64 8)).setCell ⟨nb, 1, none⟩ (.int .i64 0)).setCell ⟨nb, 2, none⟩ (.int .i64 0)).setCell ⟨nb, 3, none⟩ (.int .i64 0)) = W4 at HN ⊢; clear hn0 hn1 hn2 hn3 hnf0 hnf1 hnf2 hnf3; have hn0 := (blk_cell HN.out.N 0).trans rfl; go_wp2_with (first | (go_at_call 56; refine (ih W0 _ g i1 b1 _ f x0 j0 c0 f0 HT HN.out.B hg0 hle HN.out.P (Kd.R_mono HN.out.R (fun _ _ => trivial)) HQ0.out).mono ?_; rintro e W10 ⟨rfl, hle0, v0, hp, hr, hb, ho, ha⟩; have HN1 := Aside0.mk (HN.out.call hp hr hb ho ha); clear hp hr hb ho ha; have hn10 := (blk_cell HN1.out.N 1).trans rfl; have hnf10 := blk_frozen HN1.out.N 1) | (go_at_call 56; refine (ih W0 _ g j0 c0 _ f0 x1 j1 c1 f1 HT (HN1.out.setn 1 (.int .i64 x0)).B hg0 hle0 (HN1.out.setn 1 (.int .i64 x0)).P (Kd.R_mono (HN1.out.setn 1 (.int .i64 x0)).R (fun _ _ => trivial)) HQ1.out).mono ?_; rintro e W11 ⟨rfl, hle1, v1, hp, hr, hb, ho, ha⟩; have HN2 := Aside0.mk ((HN1.out.setn 1 (.int .i64 x0)).call hp hr hb ho ha); clear hp hr hb ho ha; have hn21 := (blk_cell HN2.out.N 2).trans rfl; have hnf21 := blk_frozen HN2.out.N 2)); replace HN := Aside0.mk (HN2.out.setn 2 (.int .i64 x1)); generalize (W11.setCell ⟨nb, 2, none⟩ (.int .i64 x1)) = W9 at HN ⊢; have hm0 : W9.cell? ⟨nb, 0, none⟩ = some (.int .i64 8) := (blk_cell HN.out.N 0).trans rfl; have hm1 : W9.cell? ⟨nb, 1, none⟩ = some (.int .i64 x0) := (blk_cell HN.out.N 1).trans rfl; have hm2 : W9.cell? ⟨nb, 2, none⟩ = some (.int .i64 x1) := (blk_cell HN.out.N 2).trans rfl; have hm3 : W9.cell? ⟨nb, 3, none⟩ = some (.int .i64 0) := (blk_cell HN.out.N 3).trans rfl; have hm4 : W9.cell? ⟨g, 3, none⟩ = some v1 := HN.out.P.c3; have hm5 := blk_frozen HN.out.P 3; have hm6 := HN.out.P.lt; go_wp2_with fail
 go_region_law (first
  | (
    (rw [show ∀ (w : World) (o : Obj), (w.alloc o).drew = w.drew.alloc o from fun _ _ => rfl])
    have HM := HN.out.drew; refine' Kd.R_append_step k75 (w0 := W0) W0.heap.size ?hw (.tmp 69) (.tmp 71) 36 75 (.agg #[(.int .i64 0), (.int .i64 0), (.int .i64 0), (.int .i64 0)]) 32 ?ho Tryd.underlying36 info75 rfl (by decide) (by omega) v1 f1 (⟨8, x0, x1, 0⟩ : S75) [.int .i64 8, .int .i64 x0, .int .i64 x1, .int .i64 0] (fun k => k ≠ nb ∧ k ≠ g) (fun _ => False) ?hs ?hx ?aP (fun _ hk => hk.elim) ?aF ?aO ?aB ?aS ?aL ?_
    case ho => rfl
    case hw => rfl
    case hs => rfl
    case hx => rfl
    case aP => exact k75_mkM _ _ _ (⟨8, x0, x1, 0⟩ : S75)
    case aF => exact fun k hk => ⟨fun e => by have := blk_lt HN.out.N; subst e; exact absurd hk (Nat.not_le.2 this), fun e => by have := HN.out.P.lt; subst e; exact absurd hk (Nat.not_le.2 this)⟩
    case aO => exact HM.R
    case aB => exact HM.B
    case aS => exact HM.B.size
    case aL => have := HLIM.out; omega
    intro v9 w9 ho9 hb9 hg9 hat9; obtain ⟨A9, c9, rfl⟩ := Kd.R_slice ho9; rw [show (f1 ++ [(⟨8, x0, x1, 0⟩ : S75)]).length = f1.length + 1 from by simp] at ho9 hat9 ⊢; have hp9 := HM.keptP hg9; have hc9 := hp9.c3; have hf9 := blk_frozen hp9 3; have hk0 : w9.cell? ⟨nb, 0, none⟩ = some (.int .i64 8) := (blk_cell (HM.keptN hg9) 0).trans rfl; have hk1 : w9.cell? ⟨nb, 1, none⟩ = some (.int .i64 x0) := (blk_cell (HM.keptN hg9) 1).trans rfl; have hk2 : w9.cell? ⟨nb, 2, none⟩ = some (.int .i64 x1) := (blk_cell (HM.keptN hg9) 2).trans rfl
    have hk3 : w9.cell? ⟨nb, 3, none⟩ = some (.int .i64 0) := (blk_cell (HM.keptN hg9) 3).trans rfl))
 all_goals (
  have hw1 : IntKind.i64.wrap (((f1.length + 1 : Nat) : Int) - 1) = (f1.length : Int) := by have := HLIM.out; simp only [IntKind.wrap, IntKind.bits, IntKind.signed]; simp; omega
  have hw2 : IntKind.i64.wrap ((f1.length : Int) + 1 - 1) = (f1.length : Int) := by have := HLIM.out; simp only [IntKind.wrap, IntKind.bits, IntKind.signed]; simp; omega
  have hw3 : wrap64 (f1.length : Int) = (f1.length : Int) := by have := HLIM.out; unfold wrap64; omega
  go_wp2; go_ret; rw [hw3]
  exact HM.fin hle1 ho9 hb9 hg9 hat9 (Below.refl _ _))
set_option maxHeartbeats 8000000 in
set_option maxRecDepth 100000 in
theorem node_9 (s : ByteArray) (k : Nat) (hs : s.size ≤ 300) (ih : NodeOK s k) (W0 W : World) (g : Nat) (i : Nat) (b : Bool) (v : Value) (f : List S75) (r : Int) (i' : Nat) (b' : Bool) (f' : List S75) (HT : TB W0) (hB : Below W0.heap.size W0 W) (hg0 : W0.heap.size ≤ g) (hi : i ≤ s.size) (hP : PB W g s (i : Int) b v) (hR : Kd.R k75 75 W W0.heap.size (fun _ => True) v f) (hx : psgn s i b = 9) (h : pnode s (k + 1) i b f = some (r, i', b', f')) :
  Calls Tryd.prog 56 #[.pointer (some ⟨g, 0, none⟩)] W (NodeTells s W0 W g v r i' b' f') := by
 have hs1 := one_calls W g s i b v hi hs hP; have hle := pone_le s i b hi; have e0 : Lib.indexByte (⟨#[32, 61, 60, 43, 35, 83, 33, 38, 124, 69, 65]⟩ : ByteArray).data.toList (pone s i b).1.toNat.toUInt8 = 9 := hx; have hI := fun w => Tryd.strings_IndexByte ⟨#[32, 61, 60, 43, 35, 83, 33, 38, 124, 69, 65]⟩ (pone s i b).1 w
 rw [e0] at hI; clear e0; simp only [pnode, hx] at h; rcases hq : pone s i b with ⟨c, i1, b1⟩; rw [hq] at hs1 hle hI h; dsimp only at hs1 hle hI h; clear hq hx; have hle0 := pdig_le s i1 b1 hle; rcases hq0 : pdig s i1 b1 with ⟨x0, j0, c0⟩; rw [hq0] at hle0; simp only [hq0] at h; dsimp only at hle0; rcases hq1 : pnode s k j0 c0 f with _ | ⟨x1, j1, c1, f1⟩
 ·simp [hq1] at h
 simp only [hq1, Option.bind_some] at h; replace h : pfin f1 ⟨9, x0, x1, 0⟩ j1 c1 = some (r, i', b', f') := by simpa using h
 unfold pfin at h; split at h
 case isFalse => cases h
 rename_i hlim; simp only [Option.some.injEq, Prod.mk.injEq] at h; obtain ⟨rfl, rfl, rfl, rfl⟩ := h; have HS := Aside0.mk hs1; have HI := Aside0.mk hI; have HP := Aside0.mk hP; have HRR := Aside0.mk hR; have HB0 := Aside0.mk hB; have HLIM := Aside0.mk hlim; clear hs1 hI hR hP hB hlim; have HQ0 := Aside0.mk hq0; clear hq0; have HQ1 := Aside0.mk hq1; clear hq1; have mixed : Tryd.prog.follows Departure.mixedOrders = true := by kernel_rfl
 have hmx : max (0 : Int) (9) = 9 := by decide
 go_enter Tryd.func56, Tryd.ntmps56; go_wp2_with (first | (go_at_call 110; refine HS.out.mono ?_; rintro e W1 ⟨rfl, hp, ho⟩; have HP1 := Aside0.mk hp; have HF1 := Aside0.mk ho; clear hp ho) | (go_at_call 109; refine (HI.out _).mono ?_; rintro e W2 ⟨rfl, rfl⟩) | ((with_reducible refine gate_dst (N := 3) rfl ?_); refine Aside0.out ?_)); refine Aside0.mk ?_; refine box_event ?hg (N := 3) ?hd (cs := #[.int .i64 0, .int .i64 0, .int .i64 0, .int .i64 0]) (t := 75) ?hr ?_
 case hd => rfl
 case hg => rfl
 case hr => first | (go_simp; done) | (go_simp; rfl)
 intro nb hnb W3 hbox hbl; have HN := Aside0.mk (NSt.start HP.out HRR.out HB0.out hg0 HF1.out HP1.out hnb hbox hbl); clear hnb hbox hbl; have hne : g ≠ nb := by have := HN.out.hn; have := HN.out.hg; omega
 have hn0 := (blk_cell HN.out.N 0).trans rfl; have hnf0 := blk_frozen HN.out.N 0; have hn1 := (blk_cell HN.out.N 1).trans rfl; have hnf1 := blk_frozen HN.out.N 1; have hn2 := (blk_cell HN.out.N 2).trans rfl; have hnf2 := blk_frozen HN.out.N 2; have hn3 := (blk_cell HN.out.N 3).trans rfl; have hnf3 := blk_frozen HN.out.N 3; go_upto_region 2 with (fail); replace HN := Aside0.mk (show NSt W0 W g nb v s ((((W3.setCell ⟨nb, 0, none⟩ (.int .i64 9)).setCell ⟨nb, 1, none⟩ (.int .i64 0)).setCell ⟨nb, 2, none⟩ (.int .i64 0)).setCell ⟨nb, 3, none⟩ (.int .i64 0)) i1 b1 v f #[.int .i64 9, .int .i64 0, .int .i64 0, .int .i64 0] from (((HN.out.setn 0 _).setn 1 _).setn 2 _).setn 3 _); generalize ((((W3.setCell ⟨nb, 0, none⟩ (.int .i64 9)).setCell ⟨nb, 1, none⟩ (.int .i64 0)).setCell ⟨nb, 2, none⟩ (.int .i64 0)).setCell ⟨nb, 3, none⟩ (.int .i64 0)) = W4 at HN ⊢; clear hn0 hn1 hn2 hn3 hnf0 hnf1 hnf2 hnf3; have hn0 := (blk_cell HN.out.N 0).trans rfl; go_wp2_with (first | (go_at_call 111; have hcl_ := dig_calls _ g s i1 b1 _ hle hs HN.out.P; rw [HQ0.out] at hcl_; refine hcl_.mono ?_; clear hcl_; rintro e W10 ⟨rfl, hp, ho⟩; have HN1 := Aside0.mk (HN.out.off ho hp); clear hp ho; have hn10 := (blk_cell HN1.out.N 1).trans rfl; have hnf10 := blk_frozen HN1.out.N 1) | (go_at_call 56; refine (ih W0 _ g j0 c0 _ f x1 j1 c1 f1 HT (HN1.out.setn 1 (.int .i64 x0)).B hg0 hle0 (HN1.out.setn 1 (.int .i64 x0)).P (Kd.R_mono (HN1.out.setn 1 (.int .i64 x0)).R (fun _ _ => trivial)) HQ1.out).mono ?_; rintro e W11 ⟨rfl, hle1, v1, hp, hr, hb, ho, ha⟩; have HN2 := Aside0.mk ((HN1.out.setn 1 (.int .i64 x0)).call hp hr hb ho ha); clear hp hr hb ho ha; have hn21 := (blk_cell HN2.out.N 2).trans rfl; have hnf21 := blk_frozen HN2.out.N 2)); replace HN := Aside0.mk (HN2.out.setn 2 (.int .i64 x1)); generalize (W11.setCell ⟨nb, 2, none⟩ (.int .i64 x1)) = W9 at HN ⊢; have hm0 : W9.cell? ⟨nb, 0, none⟩ = some (.int .i64 9) := (blk_cell HN.out.N 0).trans rfl; have hm1 : W9.cell? ⟨nb, 1, none⟩ = some (.int .i64 x0) := (blk_cell HN.out.N 1).trans rfl; have hm2 : W9.cell? ⟨nb, 2, none⟩ = some (.int .i64 x1) := (blk_cell HN.out.N 2).trans rfl; have hm3 : W9.cell? ⟨nb, 3, none⟩ = some (.int .i64 0) := (blk_cell HN.out.N 3).trans rfl; have hm4 : W9.cell? ⟨g, 3, none⟩ = some v1 := HN.out.P.c3; have hm5 := blk_frozen HN.out.P 3; have hm6 := HN.out.P.lt; go_wp2_with fail
 go_region_law (first
  | (
    (rw [show ∀ (w : World) (o : Obj), (w.alloc o).drew = w.drew.alloc o from fun _ _ => rfl])
    have HM := HN.out.drew; refine' Kd.R_append_step k75 (w0 := W0) W0.heap.size ?hw (.tmp 69) (.tmp 71) 36 75 (.agg #[(.int .i64 0), (.int .i64 0), (.int .i64 0), (.int .i64 0)]) 32 ?ho Tryd.underlying36 info75 rfl (by decide) (by omega) v1 f1 (⟨9, x0, x1, 0⟩ : S75) [.int .i64 9, .int .i64 x0, .int .i64 x1, .int .i64 0] (fun k => k ≠ nb ∧ k ≠ g) (fun _ => False) ?hs ?hx ?aP (fun _ hk => hk.elim) ?aF ?aO ?aB ?aS ?aL ?_
    case ho => rfl
    case hw => rfl
    case hs => rfl
    case hx => rfl
    case aP => exact k75_mkM _ _ _ (⟨9, x0, x1, 0⟩ : S75)
    case aF => exact fun k hk => ⟨fun e => by have := blk_lt HN.out.N; subst e; exact absurd hk (Nat.not_le.2 this), fun e => by have := HN.out.P.lt; subst e; exact absurd hk (Nat.not_le.2 this)⟩
    case aO => exact HM.R
    case aB => exact HM.B
    case aS => exact HM.B.size
    case aL => have := HLIM.out; omega
    intro v9 w9 ho9 hb9 hg9 hat9; obtain ⟨A9, c9, rfl⟩ := Kd.R_slice ho9; rw [show (f1 ++ [(⟨9, x0, x1, 0⟩ : S75)]).length = f1.length + 1 from by simp] at ho9 hat9 ⊢; have hp9 := HM.keptP hg9; have hc9 := hp9.c3; have hf9 := blk_frozen hp9 3; have hk0 : w9.cell? ⟨nb, 0, none⟩ = some (.int .i64 9) := (blk_cell (HM.keptN hg9) 0).trans rfl; have hk1 : w9.cell? ⟨nb, 1, none⟩ = some (.int .i64 x0) := (blk_cell (HM.keptN hg9) 1).trans rfl; have hk2 : w9.cell? ⟨nb, 2, none⟩ = some (.int .i64 x1) := (blk_cell (HM.keptN hg9) 2).trans rfl
    have hk3 : w9.cell? ⟨nb, 3, none⟩ = some (.int .i64 0) := (blk_cell (HM.keptN hg9) 3).trans rfl))
 all_goals (
  have hw1 : IntKind.i64.wrap (((f1.length + 1 : Nat) : Int) - 1) = (f1.length : Int) := by have := HLIM.out; simp only [IntKind.wrap, IntKind.bits, IntKind.signed]; simp; omega
  have hw2 : IntKind.i64.wrap ((f1.length : Int) + 1 - 1) = (f1.length : Int) := by have := HLIM.out; simp only [IntKind.wrap, IntKind.bits, IntKind.signed]; simp; omega
  have hw3 : wrap64 (f1.length : Int) = (f1.length : Int) := by have := HLIM.out; unfold wrap64; omega
  go_wp2; go_ret; rw [hw3]
  exact HM.fin hle1 ho9 hb9 hg9 hat9 (Below.refl _ _))
set_option maxHeartbeats 8000000 in
set_option maxRecDepth 100000 in
theorem node_10 (s : ByteArray) (k : Nat) (hs : s.size ≤ 300) (ih : NodeOK s k) (W0 W : World) (g : Nat) (i : Nat) (b : Bool) (v : Value) (f : List S75) (r : Int) (i' : Nat) (b' : Bool) (f' : List S75) (HT : TB W0) (hB : Below W0.heap.size W0 W) (hg0 : W0.heap.size ≤ g) (hi : i ≤ s.size) (hP : PB W g s (i : Int) b v) (hR : Kd.R k75 75 W W0.heap.size (fun _ => True) v f) (hx : psgn s i b = 10) (h : pnode s (k + 1) i b f = some (r, i', b', f')) :
  Calls Tryd.prog 56 #[.pointer (some ⟨g, 0, none⟩)] W (NodeTells s W0 W g v r i' b' f') := by
 have hs1 := one_calls W g s i b v hi hs hP; have hle := pone_le s i b hi; have e0 : Lib.indexByte (⟨#[32, 61, 60, 43, 35, 83, 33, 38, 124, 69, 65]⟩ : ByteArray).data.toList (pone s i b).1.toNat.toUInt8 = 10 := hx; have hI := fun w => Tryd.strings_IndexByte ⟨#[32, 61, 60, 43, 35, 83, 33, 38, 124, 69, 65]⟩ (pone s i b).1 w
 rw [e0] at hI; clear e0; simp only [pnode, hx] at h; rcases hq : pone s i b with ⟨c, i1, b1⟩; rw [hq] at hs1 hle hI h; dsimp only at hs1 hle hI h; clear hq hx; have hle0 := pdig_le s i1 b1 hle; rcases hq0 : pdig s i1 b1 with ⟨x0, j0, c0⟩; rw [hq0] at hle0; simp only [hq0] at h; dsimp only at hle0; rcases hq1 : pnode s k j0 c0 f with _ | ⟨x1, j1, c1, f1⟩
 ·simp [hq1] at h
 simp only [hq1, Option.bind_some] at h; replace h : pfin f1 ⟨10, x0, x1, 0⟩ j1 c1 = some (r, i', b', f') := by simpa using h
 unfold pfin at h; split at h
 case isFalse => cases h
 rename_i hlim; simp only [Option.some.injEq, Prod.mk.injEq] at h; obtain ⟨rfl, rfl, rfl, rfl⟩ := h; have HS := Aside0.mk hs1; have HI := Aside0.mk hI; have HP := Aside0.mk hP; have HRR := Aside0.mk hR; have HB0 := Aside0.mk hB; have HLIM := Aside0.mk hlim; clear hs1 hI hR hP hB hlim; have HQ0 := Aside0.mk hq0; clear hq0; have HQ1 := Aside0.mk hq1; clear hq1; have mixed : Tryd.prog.follows Departure.mixedOrders = true := by kernel_rfl
 have hmx : max (0 : Int) (10) = 10 := by decide
 go_enter Tryd.func56, Tryd.ntmps56; go_wp2_with (first | (go_at_call 110; refine HS.out.mono ?_; rintro e W1 ⟨rfl, hp, ho⟩; have HP1 := Aside0.mk hp; have HF1 := Aside0.mk ho; clear hp ho) | (go_at_call 109; refine (HI.out _).mono ?_; rintro e W2 ⟨rfl, rfl⟩) | ((with_reducible refine gate_dst (N := 3) rfl ?_); refine Aside0.out ?_)); refine Aside0.mk ?_; refine box_event ?hg (N := 3) ?hd (cs := #[.int .i64 0, .int .i64 0, .int .i64 0, .int .i64 0]) (t := 75) ?hr ?_
 case hd => rfl
 case hg => rfl
 case hr => first | (go_simp; done) | (go_simp; rfl)
 intro nb hnb W3 hbox hbl; have HN := Aside0.mk (NSt.start HP.out HRR.out HB0.out hg0 HF1.out HP1.out hnb hbox hbl); clear hnb hbox hbl; have hne : g ≠ nb := by have := HN.out.hn; have := HN.out.hg; omega
 have hn0 := (blk_cell HN.out.N 0).trans rfl; have hnf0 := blk_frozen HN.out.N 0; have hn1 := (blk_cell HN.out.N 1).trans rfl; have hnf1 := blk_frozen HN.out.N 1; have hn2 := (blk_cell HN.out.N 2).trans rfl; have hnf2 := blk_frozen HN.out.N 2; have hn3 := (blk_cell HN.out.N 3).trans rfl; have hnf3 := blk_frozen HN.out.N 3; go_upto_region 2 with (fail); replace HN := Aside0.mk (show NSt W0 W g nb v s ((((W3.setCell ⟨nb, 0, none⟩ (.int .i64 10)).setCell ⟨nb, 1, none⟩ (.int .i64 0)).setCell ⟨nb, 2, none⟩ (.int .i64 0)).setCell ⟨nb, 3, none⟩ (.int .i64 0)) i1 b1 v f #[.int .i64 10, .int .i64 0, .int .i64 0, .int .i64 0] from (((HN.out.setn 0 _).setn 1 _).setn 2 _).setn 3 _); generalize ((((W3.setCell ⟨nb, 0, none⟩ (.int .i64 10)).setCell ⟨nb, 1, none⟩ (.int .i64 0)).setCell ⟨nb, 2, none⟩ (.int .i64 0)).setCell ⟨nb, 3, none⟩ (.int .i64 0)) = W4 at HN ⊢; clear hn0 hn1 hn2 hn3 hnf0 hnf1 hnf2 hnf3; have hn0 := (blk_cell HN.out.N 0).trans rfl; go_wp2_with (first | (go_at_call 111; have hcl_ := dig_calls _ g s i1 b1 _ hle hs HN.out.P; rw [HQ0.out] at hcl_; refine hcl_.mono ?_; clear hcl_; rintro e W10 ⟨rfl, hp, ho⟩; have HN1 := Aside0.mk (HN.out.off ho hp); clear hp ho; have hn10 := (blk_cell HN1.out.N 1).trans rfl; have hnf10 := blk_frozen HN1.out.N 1) | (go_at_call 56; refine (ih W0 _ g j0 c0 _ f x1 j1 c1 f1 HT (HN1.out.setn 1 (.int .i64 x0)).B hg0 hle0 (HN1.out.setn 1 (.int .i64 x0)).P (Kd.R_mono (HN1.out.setn 1 (.int .i64 x0)).R (fun _ _ => trivial)) HQ1.out).mono ?_; rintro e W11 ⟨rfl, hle1, v1, hp, hr, hb, ho, ha⟩; have HN2 := Aside0.mk ((HN1.out.setn 1 (.int .i64 x0)).call hp hr hb ho ha); clear hp hr hb ho ha; have hn21 := (blk_cell HN2.out.N 2).trans rfl; have hnf21 := blk_frozen HN2.out.N 2)); replace HN := Aside0.mk (HN2.out.setn 2 (.int .i64 x1)); generalize (W11.setCell ⟨nb, 2, none⟩ (.int .i64 x1)) = W9 at HN ⊢; have hm0 : W9.cell? ⟨nb, 0, none⟩ = some (.int .i64 10) := (blk_cell HN.out.N 0).trans rfl; have hm1 : W9.cell? ⟨nb, 1, none⟩ = some (.int .i64 x0) := (blk_cell HN.out.N 1).trans rfl; have hm2 : W9.cell? ⟨nb, 2, none⟩ = some (.int .i64 x1) := (blk_cell HN.out.N 2).trans rfl; have hm3 : W9.cell? ⟨nb, 3, none⟩ = some (.int .i64 0) := (blk_cell HN.out.N 3).trans rfl; have hm4 : W9.cell? ⟨g, 3, none⟩ = some v1 := HN.out.P.c3; have hm5 := blk_frozen HN.out.P 3; have hm6 := HN.out.P.lt; go_wp2_with fail
 go_region_law (first
  | (
    (rw [show ∀ (w : World) (o : Obj), (w.alloc o).drew = w.drew.alloc o from fun _ _ => rfl])
    have HM := HN.out.drew; refine' Kd.R_append_step k75 (w0 := W0) W0.heap.size ?hw (.tmp 69) (.tmp 71) 36 75 (.agg #[(.int .i64 0), (.int .i64 0), (.int .i64 0), (.int .i64 0)]) 32 ?ho Tryd.underlying36 info75 rfl (by decide) (by omega) v1 f1 (⟨10, x0, x1, 0⟩ : S75) [.int .i64 10, .int .i64 x0, .int .i64 x1, .int .i64 0] (fun k => k ≠ nb ∧ k ≠ g) (fun _ => False) ?hs ?hx ?aP (fun _ hk => hk.elim) ?aF ?aO ?aB ?aS ?aL ?_
    case ho => rfl
    case hw => rfl
    case hs => rfl
    case hx => rfl
    case aP => exact k75_mkM _ _ _ (⟨10, x0, x1, 0⟩ : S75)
    case aF => exact fun k hk => ⟨fun e => by have := blk_lt HN.out.N; subst e; exact absurd hk (Nat.not_le.2 this), fun e => by have := HN.out.P.lt; subst e; exact absurd hk (Nat.not_le.2 this)⟩
    case aO => exact HM.R
    case aB => exact HM.B
    case aS => exact HM.B.size
    case aL => have := HLIM.out; omega
    intro v9 w9 ho9 hb9 hg9 hat9; obtain ⟨A9, c9, rfl⟩ := Kd.R_slice ho9; rw [show (f1 ++ [(⟨10, x0, x1, 0⟩ : S75)]).length = f1.length + 1 from by simp] at ho9 hat9 ⊢; have hp9 := HM.keptP hg9; have hc9 := hp9.c3; have hf9 := blk_frozen hp9 3; have hk0 : w9.cell? ⟨nb, 0, none⟩ = some (.int .i64 10) := (blk_cell (HM.keptN hg9) 0).trans rfl; have hk1 : w9.cell? ⟨nb, 1, none⟩ = some (.int .i64 x0) := (blk_cell (HM.keptN hg9) 1).trans rfl; have hk2 : w9.cell? ⟨nb, 2, none⟩ = some (.int .i64 x1) := (blk_cell (HM.keptN hg9) 2).trans rfl
    have hk3 : w9.cell? ⟨nb, 3, none⟩ = some (.int .i64 0) := (blk_cell (HM.keptN hg9) 3).trans rfl))
 all_goals (
  have hw1 : IntKind.i64.wrap (((f1.length + 1 : Nat) : Int) - 1) = (f1.length : Int) := by have := HLIM.out; simp only [IntKind.wrap, IntKind.bits, IntKind.signed]; simp; omega
  have hw2 : IntKind.i64.wrap ((f1.length : Int) + 1 - 1) = (f1.length : Int) := by have := HLIM.out; simp only [IntKind.wrap, IntKind.bits, IntKind.signed]; simp; omega
  have hw3 : wrap64 (f1.length : Int) = (f1.length : Int) := by have := HLIM.out; unfold wrap64; omega
  go_wp2; go_ret; rw [hw3]
  exact HM.fin hle1 ho9 hb9 hg9 hat9 (Below.refl _ _))
theorem node_ok (s : ByteArray) (hs : s.size ≤ 300) : ∀ k, NodeOK s k := by
 intro k
 induction k with
 | zero => intro W0 W g i b v f r i' b' f' _ _ _ _ _ _ h; cases h
 | succ k ih =>
  intro W0 W g i b v f r i' b' f' HT hB hg0 hi hP hR h; have hr := psgn_range s i b; rcases (show psgn s i b = -1 ∨ psgn s i b = 0 ∨ psgn s i b = 1 ∨ psgn s i b = 2 ∨ psgn s i b = 3 ∨ psgn s i b = 4 ∨ psgn s i b = 5 ∨ psgn s i b = 6 ∨ psgn s i b = 7 ∨ psgn s i b = 8 ∨ psgn s i b = 9 ∨ psgn s i b = 10 by omega) with hx | hx | hx | hx | hx | hx | hx | hx | hx | hx | hx | hx
  ·exact node_m1 s k hs ih W0 W g i b v f r i' b' f' HT hB hg0 hi hP hR hx h
  ·exact node_0 s k hs ih W0 W g i b v f r i' b' f' HT hB hg0 hi hP hR hx h
  ·exact node_1 s k hs ih W0 W g i b v f r i' b' f' HT hB hg0 hi hP hR hx h
  ·exact node_2 s k hs ih W0 W g i b v f r i' b' f' HT hB hg0 hi hP hR hx h
  ·exact node_3 s k hs ih W0 W g i b v f r i' b' f' HT hB hg0 hi hP hR hx h
  ·exact node_4 s k hs ih W0 W g i b v f r i' b' f' HT hB hg0 hi hP hR hx h
  ·exact node_5 s k hs ih W0 W g i b v f r i' b' f' HT hB hg0 hi hP hR hx h
  ·exact node_6 s k hs ih W0 W g i b v f r i' b' f' HT hB hg0 hi hP hR hx h
  ·exact node_7 s k hs ih W0 W g i b v f r i' b' f' HT hB hg0 hi hP hR hx h
  ·exact node_8 s k hs ih W0 W g i b v f r i' b' f' HT hB hg0 hi hP hR hx h
  ·exact node_9 s k hs ih W0 W g i b v f r i' b' f' HT hB hg0 hi hP hR hx h
  ·exact node_10 s k hs ih W0 W g i b v f r i' b' f' HT hB hg0 hi hP hR hx h
end Go.Proofs.YtdekenijnbhpfaaDoor.M
namespace Go.Proofs.YtdekenijnbhpfaaDoor.M
open Go.RowKit Go.Proofs.YtdekenijnbhpfaaDoorW.PrintWords Go.Proofs.YtdekenijnbhpfaaDoorW.PrintLast Go.Proofs.YtdekenijnbhpfaaDoorW.PrintMore
attribute [local go_sem] max2_int min2_int max_two min_two max_three min_three max_four min_four
set_option linter.unusedVariables false
set_option linter.unusedSimpArgs false
def impl_isVariable.f (a0 : Int) : Option (Bool) := if a0 ≥ 0 then (some (decide (a0 < 3))) else (some false)
set_option maxHeartbeats 8000000 in
set_option maxRecDepth 100000 in
theorem impl_isVariable.calls (a0 : Int) (r : Bool) (w : World) (h : impl_isVariable.f a0 = some r) :
  Calls Tryd.prog 161 #[.int .i64 a0] w fun e w' => e = .returned (.bool r) ∧ Drawn0 w w' := by
 have H : (if a0 ≥ 0 then (some (decide (a0 < 3))) else (some false)) = some r := h; clear h; by_cases c2 : a0 ≥ 0
 ·rw [if_pos c2] at H; have c2b0 : decide (0 ≤ a0) = true := decide_eq_true c2; clear c2; obtain rfl := Option.some.inj H; go_enter Tryd.func161, Tryd.ntmps161; go_wp2; go_ret; exact ⟨by first | rfl | (simp; done) | (simp [*]; done), by repeat (first | exact Drawn0.refl _ | apply Drawn0.step)⟩
 ·rw [if_neg c2] at H; have c2b0 : decide (0 ≤ a0) = false := decide_eq_false c2; clear c2; obtain rfl := Option.some.inj H; go_enter Tryd.func161, Tryd.ntmps161; go_wp2; go_ret; exact ⟨by first | rfl | (simp; done) | (simp [*]; done), by repeat (first | exact Drawn0.refl _ | apply Drawn0.step)⟩
def impl_isTerm.f (a0 : Int) : Option (Bool) := if a0 ≥ 0 then (some (decide (a0 ≤ 3))) else (some false)
set_option maxHeartbeats 8000000 in
set_option maxRecDepth 100000 in
theorem impl_isTerm.calls (a0 : Int) (r : Bool) (w : World) (h : impl_isTerm.f a0 = some r) :
  Calls Tryd.prog 162 #[.int .i64 a0] w fun e w' => e = .returned (.bool r) ∧ Drawn0 w w' := by
 have H : (if a0 ≥ 0 then (some (decide (a0 ≤ 3))) else (some false)) = some r := h; clear h; by_cases c2 : a0 ≥ 0
 ·rw [if_pos c2] at H; have c2b0 : decide (0 ≤ a0) = true := decide_eq_true c2; clear c2; obtain rfl := Option.some.inj H; go_enter Tryd.func162, Tryd.ntmps162; go_wp2; go_ret; exact ⟨by first | rfl | (simp; done) | (simp [*]; done), by repeat (first | exact Drawn0.refl _ | apply Drawn0.step)⟩
 ·rw [if_neg c2] at H; have c2b0 : decide (0 ≤ a0) = false := decide_eq_false c2; clear c2; obtain rfl := Option.some.inj H; go_enter Tryd.func162, Tryd.ntmps162; go_wp2; go_ret; exact ⟨by first | rfl | (simp; done) | (simp [*]; done), by repeat (first | exact Drawn0.refl _ | apply Drawn0.step)⟩
end Go.Proofs.YtdekenijnbhpfaaDoor.M
