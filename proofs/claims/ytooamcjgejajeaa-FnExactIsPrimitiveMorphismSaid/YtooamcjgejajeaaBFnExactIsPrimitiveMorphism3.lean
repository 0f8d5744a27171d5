/- Texts of the claim on FnExactIsPrimitiveMorphism, joined (part 3 of 4): walks of the functions, what they come to, and in the last part the row. No condition of mine. -/
import Derived.Test.YtooamcjgejajeaaBFnExactIsPrimitiveMorphism0
import Derived.Test.YtooamcjgejajeaaBFnExactIsPrimitiveMorphism1
import Derived.Test.YtooamcjgejajeaaBFnExactIsPrimitiveMorphism2
/- Walks for this claim, written by a program of mine over the kit's print. No condition of mine. -/
namespace Go.Proofs.Ytooamcjgejajeaa.M
open Go.RowKit Go.Proofs.Ytooamcjgejajeaa.KW Go.Proofs.YtooamcjgejajeaaW.PrintWords Go.Proofs.YtooamcjgejajeaaW.PrintLast Go.Proofs.YtooamcjgejajeaaW.PrintMore
attribute [local go_sem] max2_int min2_int max_two min_two max_three min_three max_four min_four   -- for this text's walks alone
set_option linter.unusedVariables false
set_option linter.unusedSimpArgs false

/-! ### spec_HasOverlap: function 117 -/
mutual
def spec_HasOverlap.l0 : Nat → List Int → Int → Option (Bool)
 | 0, _, _ => none
 | k + 1, x0, x3 => if x3 < (x0.length : Int) then (spec_HasOverlap.j1 k x0 x3 (decide ((x0.length : Int) ≤ 128))) else (spec_HasOverlap.j1 k x0 x3 false)
def spec_HasOverlap.j1 : Nat → List Int → Int → Bool → Option (Bool)
 | 0, _, _, _ => none
 | k + 1, x0, x3, x13 => if x13 = true then (spec_HasOverlap.l1 k x0 x3 1) else (some false)
def spec_HasOverlap.l1 : Nat → List Int → Int → Int → Option (Bool)
 | 0, _, _, _ => none
 | k + 1, x0, x3, x4 => if (wrap64 (x3 + (wrap64 (2 * x4)))) < (x0.length : Int) then ((spec_l10Match.f k x0 x3 x4).bind fun t397 => (if t397 > (wrap64 (2 * x4)) then (some true) else (spec_HasOverlap.l1 k x0 x3 (wrap64 (x4 + 1))))) else (spec_HasOverlap.l0 k x0 (wrap64 (x3 + 1)))
end
def spec_HasOverlap.f (k : Nat) (l0 : List Int) : Option (Bool) := spec_HasOverlap.l0 k l0 0
theorem spec_HasOverlap.mono_l : ∀ k, (∀ y0 y1, LeO (spec_HasOverlap.l0 k y0 y1) (spec_HasOverlap.l0 (k + 1) y0 y1)) ∧ (∀ y0 y1 y2, LeO (spec_HasOverlap.j1 k y0 y1 y2) (spec_HasOverlap.j1 (k + 1) y0 y1 y2)) ∧ (∀ y0 y1 y2, LeO (spec_HasOverlap.l1 k y0 y1 y2) (spec_HasOverlap.l1 (k + 1) y0 y1 y2))
 | 0 => ⟨fun _ _ r h => by simp [spec_HasOverlap.l0] at h, fun _ _ _ r h => by simp [spec_HasOverlap.j1] at h, fun _ _ _ r h => by simp [spec_HasOverlap.l1] at h⟩
 | k + 1 => by
  obtain ⟨ih0, ih1, ih2⟩ := spec_HasOverlap.mono_l k
  refine ⟨?_, ?_, ?_⟩
  ·intro y0 y1
   unfold spec_HasOverlap.l0
   repeat' first
   | (with_reducible exact ih0 _ _)
   | (with_reducible exact ih1 _ _ _)
   | (with_reducible exact ih2 _ _ _)
   | (with_reducible exact spec_l10Match.mono _ _ _ _)
   | (with_reducible exact LeO.refl _)
   | (with_reducible exact LeO.none _)
   | (with_reducible refine LeO.ite ?_ ?_)
   | (with_reducible refine LeO.bind ?_ (fun _ => ?_))
   | exact ih0 _ _
   | exact ih1 _ _ _
   | exact ih2 _ _ _
   | exact spec_l10Match.mono _ _ _ _
   | exact LeO.none _
   | refine LeO.ite ?_ ?_
   | refine LeO.bind ?_ (fun _ => ?_)
  ·intro y0 y1 y2
   unfold spec_HasOverlap.j1
   repeat' first
   | (with_reducible exact ih0 _ _)
   | (with_reducible exact ih1 _ _ _)
   | (with_reducible exact ih2 _ _ _)
   | (with_reducible exact spec_l10Match.mono _ _ _ _)
   | (with_reducible exact LeO.refl _)
   | (with_reducible exact LeO.none _)
   | (with_reducible refine LeO.ite ?_ ?_)
   | (with_reducible refine LeO.bind ?_ (fun _ => ?_))
   | exact ih0 _ _
   | exact ih1 _ _ _
   | exact ih2 _ _ _
   | exact spec_l10Match.mono _ _ _ _
   | exact LeO.none _
   | refine LeO.ite ?_ ?_
   | refine LeO.bind ?_ (fun _ => ?_)
  ·intro y0 y1 y2
   unfold spec_HasOverlap.l1
   repeat' first
   | (with_reducible exact ih0 _ _)
   | (with_reducible exact ih1 _ _ _)
   | (with_reducible exact ih2 _ _ _)
   | (with_reducible exact spec_l10Match.mono _ _ _ _)
   | (with_reducible exact LeO.refl _)
   | (with_reducible exact LeO.none _)
   | (with_reducible refine LeO.ite ?_ ?_)
   | (with_reducible refine LeO.bind ?_ (fun _ => ?_))
   | exact ih0 _ _
   | exact ih1 _ _ _
   | exact ih2 _ _ _
   | exact spec_l10Match.mono _ _ _ _
   | exact LeO.none _
   | refine LeO.ite ?_ ?_
   | refine LeO.bind ?_ (fun _ => ?_)
theorem spec_HasOverlap.mono : ∀ a0 k, LeO (spec_HasOverlap.f k a0) (spec_HasOverlap.f (k + 1) a0) := by
 intro a0 k
 obtain ⟨ih0, ih1, ih2⟩ := spec_HasOverlap.mono_l k
 unfold spec_HasOverlap.f
 repeat' first
   | (with_reducible exact ih0 _ _)
   | (with_reducible exact ih1 _ _ _)
   | (with_reducible exact ih2 _ _ _)
   | (with_reducible exact spec_l10Match.mono _ _ _ _)
   | (with_reducible exact LeO.refl _)
   | (with_reducible exact LeO.none _)
   | (with_reducible refine LeO.ite ?_ ?_)
   | (with_reducible refine LeO.bind ?_ (fun _ => ?_))
   | exact ih0 _ _
   | exact ih1 _ _ _
   | exact ih2 _ _ _
   | exact spec_l10Match.mono _ _ _ _
   | exact LeO.none _
   | refine LeO.ite ?_ ?_
   | refine LeO.bind ?_ (fun _ => ?_)
set_option maxHeartbeats 8000000 in
set_option maxRecDepth 100000 in
theorem spec_HasOverlap.calls (k : Nat) (A0 : Option Addr) (c0 : Nat) (l0 : List Int) (r : Bool) (w : World) (hr0 : Kd.C (Kd.int .i64) w A0 l0.length l0) (hc0 : l0.length ≤ c0) (h : spec_HasOverlap.f k l0 = some r) :
  Calls Try.prog 117 #[.slice A0 l0.length c0] w fun e w' => e = .returned (.bool r) ∧ Below w.heap.size w w' := by
 have HR0 := Aside0.mk hr0
 have HC0 := Aside0.mk hc0
 clear hr0 hc0
 have HB := Aside0.mk (Below.refl w.heap.size w)
 have H : (spec_HasOverlap.l0 k l0 0) = some r := h
 clear h
 have H' := Aside0.mk H
 clear H
 go_enter Try.func117, Try.ntmps117
 go_wp2
 go_loopg [3] k (fun kq v3 w' => ∃ (x3_1 : Int), v3 = .int .i64 x3_1 ∧ Aside0 (spec_HasOverlap.l0 kq l0 x3_1 = some r) ∧ Aside0 (kq ≤ k) ∧ Aside0 (Below w.heap.size w w'))
 case atStart => exact ⟨(0), (by first | rfl | (simp; done) | (simp [*]; done)), H', ⟨Nat.le_refl _⟩, ⟨by repeat (first | (with_reducible first | exact HB.out | apply below_alloc | apply pw_below_drewN | apply below_drew1) | exact HB.out)⟩⟩
 case round =>
  clear H'
  try clear c1
  obtain ⟨x3_1, rfl, HA, HK1, HB⟩ := hrel
  cases gk with
  | zero => exact absurd HA.out (by simp [spec_HasOverlap.l0])
  | succ k1 =>
   have H := HA.out
   clear HA
   simp only [spec_HasOverlap.l0] at H
   have HC2 := Aside0.mk H
   clear H
   go_upto_region 2 with (fail)
   go_cut [13] (fun v13 wc => ∃ (kq : Nat) (x13_1 : Bool), v13 = .bool x13_1 ∧ Aside0 (spec_HasOverlap.j1 kq l0 x3_1 x13_1 = some r) ∧ Aside0 (kq ≤ k1) ∧ Aside0 (Below w.heap.size w wc))
   case first =>
    have H := HC2.out
    clear HC2
    by_cases c3 : x3_1 < (l0.length : Int)
    ·rw [if_pos c3] at H
     have c3b0 : decide (x3_1 < (l0.length : Int)) = true := decide_eq_true c3
     clear c3
     (first | rw [c3b0] | (simp only [i64_w, i32_w]; rw [c3b0]) | skip)
     have H' := Aside0.mk H
     clear H
     go_wp2
     go_meet
     case rel => exact ⟨_, (decide ((l0.length : Int) ≤ 128)), (by first | rfl | (simp; done) | (simp [*]; done)), H', ⟨by have := HK1.out; first | omega | exact Nat.le_refl _⟩, ⟨by repeat (first | (with_reducible first | exact HB.out | apply below_alloc | apply pw_below_drewN | apply below_drew1) | exact HB.out)⟩⟩
    ·rw [if_neg c3] at H
     have c3b0 : decide (x3_1 < (l0.length : Int)) = false := decide_eq_false c3
     clear c3
     (first | rw [c3b0] | (simp only [i64_w, i32_w]; rw [c3b0]) | skip)
     have H' := Aside0.mk H
     clear H
     go_wp2
     go_meet
     case rel => exact ⟨_, (false), (by first | rfl | (simp; done) | (simp [*]; done)), H', ⟨by have := HK1.out; first | omega | exact Nat.le_refl _⟩, ⟨by repeat (first | (with_reducible first | exact HB.out | apply below_alloc | apply pw_below_drewN | apply below_drew1) | exact HB.out)⟩⟩
   case rest =>
    clear HC2
    try clear c1
    try clear p2
    try clear c3
    try clear c3b0
    obtain ⟨kq, x13_1, rfl, HA, HJ1, HB⟩ := hcut
    cases kq with
    | zero => exact absurd HA.out (by simp [spec_HasOverlap.j1])
    | succ kj1 =>
     have H := HA.out
     clear HA
     simp only [spec_HasOverlap.j1] at H
     by_cases c4 : x13_1 = true
     ·subst c4
      have H1 : (spec_HasOverlap.l1 kj1 l0 x3_1 1) = some r := by rw [if_pos rfl] at H; exact H
      clear H
      have H := H1
      clear H1
      have H' := Aside0.mk H
      clear H
      go_wp2
      go_loopg [4] kj1 (fun kq v4 w' => ∃ (x4_3 : Int), v4 = .int .i64 x4_3 ∧ Aside0 (spec_HasOverlap.l1 kq l0 x3_1 x4_3 = some r) ∧ Aside0 (kq ≤ kj1) ∧ Aside0 (Below w.heap.size w w'))
      case atStart => exact ⟨(1), (by first | rfl | (simp; done) | (simp [*]; done)), H', ⟨Nat.le_refl _⟩, ⟨by repeat (first | (with_reducible first | exact HB.out | apply below_alloc | apply pw_below_drewN | apply below_drew1) | exact HB.out)⟩⟩
      case round =>
       clear H'
       try clear c1
       try clear p2
       try clear c3
       try clear c3b0
       try clear c4
       try clear p2
       obtain ⟨x4_3, rfl, HA, HK3, HB⟩ := hrel
       cases gk with
       | zero => exact absurd HA.out (by simp [spec_HasOverlap.l1])
       | succ k3 =>
        have H := HA.out
        clear HA
        simp only [spec_HasOverlap.l1] at H
        by_cases c5 : (wrap64 (x3_1 + (wrap64 (2 * x4_3)))) < (l0.length : Int)
        ·rw [if_pos c5] at H
         have c5b0 : decide ((wrap64 (x3_1 + (wrap64 (2 * x4_3)))) < (l0.length : Int)) = true := decide_eq_true c5
         clear c5
         replace H := Option.bind_eq_some_iff.mp H
         obtain ⟨t397, A60, H⟩ := H
         replace H : (if t397 > (wrap64 (2 * x4_3)) then (some true) else (spec_HasOverlap.l1 k3 l0 x3_1 (wrap64 (x4_3 + 1)))) = some r := H
         have A6 := Aside0.mk A60
         clear A60
         by_cases c7 : t397 > (wrap64 (2 * x4_3))
         ·rw [if_pos c7] at H
          have c7b0 : decide ((wrap64 (2 * x4_3)) < t397) = true := decide_eq_true c7
          clear c7
          obtain rfl := Option.some.inj H
          go_wp2_with (first | ((with_reducible refine gate_callee (f := 162) rfl ?_); refine goesL_ (some 28) rfl rfl Try.func162 (by kernel_rfl) rfl #[.slice A0 l0.length c0, .int .i64 x3_1, .int .i64 x4_3] rfl (by (try simp only [List.map_toArray, List.map_cons, List.map_nil]); first | done | rfl | (simp only [List.length_drop, List.length_take]; rfl)) ?_; (with_reducible refine (spec_l10Match.calls k3 _ _ l0 x3_1 x4_3 t397 _ ?side1 ?side2 A6.out).mono ?_); (case side1 => repeat (first | exact (Kd.C_below HR0.out HB.out) | (with_reducible refine Kd.C_alloc ?_ _) | (with_reducible refine Kd.C_drewN ?_ _) | (with_reducible refine Kd.C_drew ?_))); (case side2 => exact HC0.out); rintro e w8 ⟨rfl, hb⟩; refine ⟨_, rfl, ?_⟩; have n0_ := Aside0.mk (below_step (by repeat (first | (with_reducible first | exact HB.out | apply below_alloc | apply pw_below_drewN | apply below_drew1) | exact HB.out)) hb); clear HB; have HB := n0_; clear n0_; (try clear hb); (try clear hb2); (try clear hk); (try clear hi)))
          go_ret
          exact ⟨by first | rfl | (simp [errW_none, errW_some] <;> rfl) | (simp [*, errW_none, errW_some] <;> rfl), by repeat (first | (with_reducible first | exact HB.out | apply below_alloc | apply pw_below_drewN | apply below_drew1) | exact HB.out)⟩
         ·rw [if_neg c7] at H
          have c7b0 : decide ((wrap64 (2 * x4_3)) < t397) = false := decide_eq_false c7
          clear c7
          have H' := Aside0.mk H
          clear H
          go_wp2_with (first | ((with_reducible refine gate_callee (f := 162) rfl ?_); refine goesL_ (some 28) rfl rfl Try.func162 (by kernel_rfl) rfl #[.slice A0 l0.length c0, .int .i64 x3_1, .int .i64 x4_3] rfl (by (try simp only [List.map_toArray, List.map_cons, List.map_nil]); first | done | rfl | (simp only [List.length_drop, List.length_take]; rfl)) ?_; (with_reducible refine (spec_l10Match.calls k3 _ _ l0 x3_1 x4_3 t397 _ ?side1 ?side2 A6.out).mono ?_); (case side1 => repeat (first | exact (Kd.C_below HR0.out HB.out) | (with_reducible refine Kd.C_alloc ?_ _) | (with_reducible refine Kd.C_drewN ?_ _) | (with_reducible refine Kd.C_drew ?_))); (case side2 => exact HC0.out); rintro e w9 ⟨rfl, hb⟩; refine ⟨_, rfl, ?_⟩; have n0_ := Aside0.mk (below_step (by repeat (first | (with_reducible first | exact HB.out | apply below_alloc | apply pw_below_drewN | apply below_drew1) | exact HB.out)) hb); clear HB; have HB := n0_; clear n0_; (try clear hb); (try clear hb2); (try clear hk); (try clear hi)))
          go_roundg k3
          case measure => have := HK1.out; have := HJ1.out; have := HK3.out; omega
          case rel => exact ⟨(wrap64 (x4_3 + 1)), (by first | rfl | (simp; done) | (simp [*]; done)), H', ⟨by have := HK1.out; have := HJ1.out; have := HK3.out; omega⟩, ⟨by repeat (first | (with_reducible first | exact HB.out | apply below_alloc | apply pw_below_drewN | apply below_drew1) | exact HB.out)⟩⟩
        ·rw [if_neg c5] at H
         have c5b0 : decide ((wrap64 (x3_1 + (wrap64 (2 * x4_3)))) < (l0.length : Int)) = false := decide_eq_false c5
         clear c5
         have H' := Aside0.mk H
         clear H
         go_wp2
         go_roundg k3
         case measure => have := HK1.out; have := HJ1.out; have := HK3.out; omega
         case rel => exact ⟨(wrap64 (x3_1 + 1)), (by first | rfl | (simp; done) | (simp [*]; done)), H', ⟨by have := HK1.out; have := HJ1.out; have := HK3.out; omega⟩, ⟨by repeat (first | (with_reducible first | exact HB.out | apply below_alloc | apply pw_below_drewN | apply below_drew1) | exact HB.out)⟩⟩
     ·replace c4 := Bool.eq_false_iff.mpr c4
      subst c4
      have H1 : (some false) = some r := by rw [if_neg (show ¬ (false = true) by decide)] at H; exact H
      clear H
      have H := H1
      clear H1
      obtain rfl := Option.some.inj H
      go_wp2
      go_ret
      exact ⟨by first | rfl | (simp [errW_none, errW_some] <;> rfl) | (simp [*, errW_none, errW_some] <;> rfl), by repeat (first | (with_reducible first | exact HB.out | apply below_alloc | apply pw_below_drewN | apply below_drew1) | exact HB.out)⟩

end Go.Proofs.Ytooamcjgejajeaa.M
/- Walks for this claim, written by a program of mine over the kit's print. No condition of mine. -/
namespace Go.Proofs.Ytooamcjgejajeaa.M
open Go.RowKit Go.Proofs.Ytooamcjgejajeaa.KW Go.Proofs.YtooamcjgejajeaaW.PrintWords Go.Proofs.YtooamcjgejajeaaW.PrintLast Go.Proofs.YtooamcjgejajeaaW.PrintMore
attribute [local go_sem] max2_int min2_int max_two min_two max_three min_three max_four min_four   -- for this text's walks alone
set_option linter.unusedVariables false
set_option linter.unusedSimpArgs false

/-! ### impl_longestRepeat: function 124 -/
def impl_longestRepeat.l0 : Nat → List Int → Int → Int → Int → Int → Option (Int)
 | 0, _, _, _, _, _ => none
 | k + 1, x0, x1, x5, x6, x7 => if (wrap64 (x7 + x1)) < (x0.length : Int) then (if 0 ≤ x7 then (if x7 < (x0.length : Int) then (if 0 ≤ (wrap64 (x7 + x1)) then (if (rd x0 x7) = (rd x0 (wrap64 (x7 + x1))) then (impl_longestRepeat.l0 k x0 x1 (mx x5 (wrap64 (x6 + 1))) (wrap64 (x6 + 1)) (wrap64 (x7 + 1))) else (impl_longestRepeat.l0 k x0 x1 x5 0 (wrap64 (x7 + 1)))) else (none)) else (none)) else (none)) else (some (wrap64 (x5 + x1)))
def impl_longestRepeat.f (k : Nat) (l0 : List Int) (a1 : Int) : Option (Int) := impl_longestRepeat.l0 k l0 a1 0 0 0
theorem impl_longestRepeat.mono_l : ∀ k, (∀ y0 y1 y2 y3 y4, LeO (impl_longestRepeat.l0 k y0 y1 y2 y3 y4) (impl_longestRepeat.l0 (k + 1) y0 y1 y2 y3 y4))
 | 0 => fun _ _ _ _ _ r h => by simp [impl_longestRepeat.l0] at h
 | k + 1 => by
  have ih0 := impl_longestRepeat.mono_l k
  ·intro y0 y1 y2 y3 y4
   unfold impl_longestRepeat.l0
   repeat' first
   | (with_reducible exact ih0 _ _ _ _ _)
   | (with_reducible exact LeO.refl _)
   | (with_reducible exact LeO.none _)
   | (with_reducible refine LeO.ite ?_ ?_)
   | (with_reducible refine LeO.bind ?_ (fun _ => ?_))
   | exact ih0 _ _ _ _ _
   | exact LeO.none _
   | refine LeO.ite ?_ ?_
   | refine LeO.bind ?_ (fun _ => ?_)
theorem impl_longestRepeat.mono : ∀ a0 a1 k, LeO (impl_longestRepeat.f k a0 a1) (impl_longestRepeat.f (k + 1) a0 a1) := by
 intro a0 a1 k
 have ih0 := impl_longestRepeat.mono_l k
 unfold impl_longestRepeat.f
 repeat' first
   | (with_reducible exact ih0 _ _ _ _ _)
   | (with_reducible exact LeO.refl _)
   | (with_reducible exact LeO.none _)
   | (with_reducible refine LeO.ite ?_ ?_)
   | (with_reducible refine LeO.bind ?_ (fun _ => ?_))
   | exact ih0 _ _ _ _ _
   | exact LeO.none _
   | refine LeO.ite ?_ ?_
   | refine LeO.bind ?_ (fun _ => ?_)
set_option maxHeartbeats 8000000 in
set_option maxRecDepth 100000 in
theorem impl_longestRepeat.calls (k : Nat) (A0 : Option Addr) (c0 : Nat) (l0 : List Int) (a1 : Int) (r : Int) (w : World) (hr0 : Kd.C (Kd.int .i64) w A0 l0.length l0) (hc0 : l0.length ≤ c0) (h : impl_longestRepeat.f k l0 a1 = some r) :
  Calls Try.prog 124 #[.slice A0 l0.length c0, .int .i64 a1] w fun e w' => e = .returned (.int .i64 r) ∧ Below w.heap.size w w' := by
 have HR0 := Aside0.mk hr0
 have HC0 := Aside0.mk hc0
 clear hr0 hc0
 have HB := Aside0.mk (Below.refl w.heap.size w)
 have H : (impl_longestRepeat.l0 k l0 a1 0 0 0) = some r := h
 clear h
 have H' := Aside0.mk H
 clear H
 go_enter Try.func124, Try.ntmps124
 go_wp2
 repeat (go_quiet (fail); try go_wp2)
 go_loopg [5, 6, 7] k (fun kq v5 v6 v7 w' => ∃ (x5_1 : Int) (x6_1 : Int) (x7_1 : Int), v5 = .int .i64 x5_1 ∧ v6 = .int .i64 x6_1 ∧ v7 = .int .i64 x7_1 ∧ Aside0 (impl_longestRepeat.l0 kq l0 a1 x5_1 x6_1 x7_1 = some r) ∧ Aside0 (kq ≤ k) ∧ Aside0 (Below w.heap.size w w'))
 case atStart => exact ⟨(0), (0), (0), (by first | rfl | (simp; done) | (simp [*]; done)), (by first | rfl | (simp; done) | (simp [*]; done)), (by first | rfl | (simp; done) | (simp [*]; done)), H', ⟨Nat.le_refl _⟩, ⟨by repeat (first | (with_reducible first | exact HB.out | apply below_alloc | apply pw_below_drewN | apply below_drew1) | exact HB.out)⟩⟩
 case round =>
  clear H'
  try clear c1
  try clear p2
  obtain ⟨x5_1, x6_1, x7_1, rfl, rfl, rfl, HA, HK1, HB⟩ := hrel
  cases gk with
  | zero => exact absurd HA.out (by simp [impl_longestRepeat.l0])
  | succ k1 =>
   have H := HA.out
   clear HA
   simp only [impl_longestRepeat.l0] at H
   by_cases c3 : (wrap64 (x7_1 + a1)) < (l0.length : Int)
   ·rw [if_pos c3] at H
    have c3b0 : decide ((wrap64 (x7_1 + a1)) < (l0.length : Int)) = true := decide_eq_true c3
    clear c3
    by_cases c4 : 0 ≤ x7_1
    ·rw [if_pos c4] at H
     have c4b0 : decide (0 ≤ x7_1) = true := decide_eq_true c4
     clear c4
     by_cases c5 : x7_1 < (l0.length : Int)
     ·rw [if_pos c5] at H
      have c5b0 : decide (x7_1 < (l0.length : Int)) = true := decide_eq_true c5
      clear c5
      obtain ⟨ji6, hji6⟩ : ∃ j_ : Int, (wrap64 (x7_1 + a1)) = j_ := ⟨_, rfl⟩
      replace H : (if 0 ≤ (ji6) then (if (rd l0 x7_1) = (rd l0 (ji6)) then (impl_longestRepeat.l0 k1 l0 a1 (mx x5_1 (wrap64 (x6_1 + 1))) (wrap64 (x6_1 + 1)) (wrap64 (x7_1 + 1))) else (impl_longestRepeat.l0 k1 l0 a1 x5_1 0 (wrap64 (x7_1 + 1)))) else (none)) = some r := by first | (rw [hji6] at H; exact H) | (simp only [hji6] at H ⊢; exact H)
      (try rw [hji6] at c3b0)
      have hji6w : (IntKind.i64.wrap (x7_1 + a1)) = ji6 := (i64_w _).trans hji6
      by_cases c7 : 0 ≤ (ji6)
      ·rw [if_pos c7] at H
       have c7b0 : decide (0 ≤ (ji6)) = true := decide_eq_true c7
       clear c7
       by_cases c8 : (rd l0 x7_1) = (rd l0 (ji6))
       ·rw [if_pos c8] at H
        have c8b0 : ((rd l0 x7_1) == (rd l0 (ji6))) = true := beq_iff_eq.mpr c8
        have c8b1 : ((rd l0 x7_1) != (rd l0 (ji6))) = false := bne_eq_false_iff_eq.mpr c8
        clear c8
        obtain ⟨ji9, hji9⟩ : ∃ j_ : Int, (mx x5_1 (wrap64 (x6_1 + 1))) = j_ := ⟨_, rfl⟩
        replace H : (impl_longestRepeat.l0 k1 l0 a1 ji9 (wrap64 (x6_1 + 1)) (wrap64 (x7_1 + 1))) = some r := by first | (rw [hji9] at H; exact H) | (simp only [hji9] at H ⊢; exact H)
        have hji9_ : (if x5_1 < (wrap64 (x6_1 + 1)) then (wrap64 (x6_1 + 1)) else x5_1) = ji9 := hji9
        have H' := Aside0.mk H
        clear H
        have p437 : 0 ≤ (x7_1 : Int) := of_decide_eq_true (by first | (with_reducible assumption) | assumption)
        have q437 : x7_1 < (l0.length : Int) := of_decide_eq_true (by first | (with_reducible assumption) | assumption)
        obtain ⟨ad437, e437, hx437_0⟩ := Kd.at_int HR0.out x7_1 p437 q437
        cases e437
        replace hx437_0 := (HB.out.cell (World.block_lt_of_cell? w _ hx437_0)).trans hx437_0
        replace p437 := eq_true p437
        replace q437 := eq_true q437
        have p438 : 0 ≤ ((ji6) : Int) := of_decide_eq_true (by first | (with_reducible assumption) | assumption)
        have q438 : (ji6) < (l0.length : Int) := of_decide_eq_true (by first | (with_reducible assumption) | assumption)
        obtain ⟨ad438, e438, hx438_0⟩ := Kd.at_int HR0.out (ji6) p438 q438
        obtain rfl : ad437 = ad438 := (by injection e438)
        replace hx438_0 := (HB.out.cell (World.block_lt_of_cell? w _ hx438_0)).trans hx438_0
        replace p438 := eq_true p438
        replace q438 := eq_true q438
        go_wp2
        repeat (go_quiet (fail); try go_wp2)
        go_roundg k1
        case measure => have := HK1.out; omega
        case rel => exact ⟨(ji9), (wrap64 (x6_1 + 1)), (wrap64 (x7_1 + 1)), (by first | rfl | (simp; done) | (simp only [← hji9] <;> (first | rfl | simp)) | (simp [*]; done)), (by first | rfl | (simp; done) | (simp [*]; done)), (by first | rfl | (simp; done) | (simp [*]; done)), H', ⟨by have := HK1.out; omega⟩, ⟨by repeat (first | (with_reducible first | exact HB.out | apply below_alloc | apply pw_below_drewN | apply below_drew1) | exact HB.out)⟩⟩
       ·rw [if_neg c8] at H
        have c8b0 : ((rd l0 x7_1) == (rd l0 (ji6))) = false := beq_eq_false_iff_ne.mpr c8
        have c8b1 : ((rd l0 x7_1) != (rd l0 (ji6))) = true := bne_iff_ne.mpr c8
        have H' := Aside0.mk H
        clear H
        have p437 : 0 ≤ (x7_1 : Int) := of_decide_eq_true (by first | (with_reducible assumption) | assumption)
        have q437 : x7_1 < (l0.length : Int) := of_decide_eq_true (by first | (with_reducible assumption) | assumption)
        obtain ⟨ad437, e437, hx437_0⟩ := Kd.at_int HR0.out x7_1 p437 q437
        cases e437
        replace hx437_0 := (HB.out.cell (World.block_lt_of_cell? w _ hx437_0)).trans hx437_0
        replace p437 := eq_true p437
        replace q437 := eq_true q437
        have p438 : 0 ≤ ((ji6) : Int) := of_decide_eq_true (by first | (with_reducible assumption) | assumption)
        have q438 : (ji6) < (l0.length : Int) := of_decide_eq_true (by first | (with_reducible assumption) | assumption)
        obtain ⟨ad438, e438, hx438_0⟩ := Kd.at_int HR0.out (ji6) p438 q438
        obtain rfl : ad437 = ad438 := (by injection e438)
        replace hx438_0 := (HB.out.cell (World.block_lt_of_cell? w _ hx438_0)).trans hx438_0
        replace p438 := eq_true p438
        replace q438 := eq_true q438
        go_wp2
        repeat (go_quiet (fail); try go_wp2)
        go_roundg k1
        case measure => have := HK1.out; omega
        case rel => exact ⟨(x5_1), (0), (wrap64 (x7_1 + 1)), (by first | rfl | (simp; done) | (simp [*]; done)), (by first | rfl | (simp; done) | (simp [*]; done)), (by first | rfl | (simp; done) | (simp [*]; done)), H', ⟨by have := HK1.out; omega⟩, ⟨by repeat (first | (with_reducible first | exact HB.out | apply below_alloc | apply pw_below_drewN | apply below_drew1) | exact HB.out)⟩⟩
      ·rw [if_neg c7] at H
       exact absurd H (by simp)
     ·rw [if_neg c5] at H
      exact absurd H (by simp)
    ·rw [if_neg c4] at H
     exact absurd H (by simp)
   ·rw [if_neg c3] at H
    have c3b0 : decide ((wrap64 (x7_1 + a1)) < (l0.length : Int)) = false := decide_eq_false c3
    clear c3
    obtain rfl := Option.some.inj H
    go_wp2
    repeat (go_quiet (fail); try go_wp2)
    go_ret
    exact ⟨by first | rfl | (simp [errW_none, errW_some] <;> rfl) | (simp [*, errW_none, errW_some] <;> rfl), by repeat (first | (with_reducible first | exact HB.out | apply below_alloc | apply pw_below_drewN | apply below_drew1) | exact HB.out)⟩

end Go.Proofs.Ytooamcjgejajeaa.M
/- Walks for this claim, written by a program of mine over the kit's print. No condition of mine. -/
namespace Go.Proofs.Ytooamcjgejajeaa.M
open Go.RowKit Go.Proofs.Ytooamcjgejajeaa.KW Go.Proofs.YtooamcjgejajeaaW.PrintWords Go.Proofs.YtooamcjgejajeaaW.PrintLast Go.Proofs.YtooamcjgejajeaaW.PrintMore
attribute [local go_sem] max2_int min2_int max_two min_two max_three min_three max_four min_four   -- for this text's walks alone
set_option linter.unusedVariables false
set_option linter.unusedSimpArgs false

/-! ### impl_HasOverlap: function 52 -/
def impl_HasOverlap.l0 : Nat → List Int → Int → Option (Bool)
 | 0, _, _ => none
 | k + 1, x0, x3 => if x3 ≤ (x0.length : Int) then ((impl_longestRepeat.f k x0 x3).bind fun t439 => (if t439 > (wrap64 (2 * x3)) then (some true) else (impl_HasOverlap.l0 k x0 (wrap64 (x3 + 1))))) else (some false)
def impl_HasOverlap.f (k : Nat) (l0 : List Int) : Option (Bool) := if (l0.length : Int) > 128 then (some false) else (impl_HasOverlap.l0 k l0 1)
theorem impl_HasOverlap.mono_l : ∀ k, (∀ y0 y1, LeO (impl_HasOverlap.l0 k y0 y1) (impl_HasOverlap.l0 (k + 1) y0 y1))
 | 0 => fun _ _ r h => by simp [impl_HasOverlap.l0] at h
 | k + 1 => by
  have ih0 := impl_HasOverlap.mono_l k
  ·intro y0 y1
   unfold impl_HasOverlap.l0
   repeat' first
   | (with_reducible exact ih0 _ _)
   | (with_reducible exact impl_longestRepeat.mono _ _ _)
   | (with_reducible exact LeO.refl _)
   | (with_reducible exact LeO.none _)
   | (with_reducible refine LeO.ite ?_ ?_)
   | (with_reducible refine LeO.bind ?_ (fun _ => ?_))
   | exact ih0 _ _
   | exact impl_longestRepeat.mono _ _ _
   | exact LeO.none _
   | refine LeO.ite ?_ ?_
   | refine LeO.bind ?_ (fun _ => ?_)
theorem impl_HasOverlap.mono : ∀ a0 k, LeO (impl_HasOverlap.f k a0) (impl_HasOverlap.f (k + 1) a0) := by
 intro a0 k
 have ih0 := impl_HasOverlap.mono_l k
 unfold impl_HasOverlap.f
 repeat' first
   | (with_reducible exact ih0 _ _)
   | (with_reducible exact impl_longestRepeat.mono _ _ _)
   | (with_reducible exact LeO.refl _)
   | (with_reducible exact LeO.none _)
   | (with_reducible refine LeO.ite ?_ ?_)
   | (with_reducible refine LeO.bind ?_ (fun _ => ?_))
   | exact ih0 _ _
   | exact impl_longestRepeat.mono _ _ _
   | exact LeO.none _
   | refine LeO.ite ?_ ?_
   | refine LeO.bind ?_ (fun _ => ?_)
set_option maxHeartbeats 8000000 in
set_option maxRecDepth 100000 in
theorem impl_HasOverlap.calls (k : Nat) (A0 : Option Addr) (c0 : Nat) (l0 : List Int) (r : Bool) (w : World) (hr0 : Kd.C (Kd.int .i64) w A0 l0.length l0) (hc0 : l0.length ≤ c0) (h : impl_HasOverlap.f k l0 = some r) :
  Calls Try.prog 52 #[.slice A0 l0.length c0] w fun e w' => e = .returned (.bool r) ∧ Below w.heap.size w w' := by
 have HR0 := Aside0.mk hr0
 have HC0 := Aside0.mk hc0
 clear hr0 hc0
 have HB := Aside0.mk (Below.refl w.heap.size w)
 have H : (if (l0.length : Int) > 128 then (some false) else (impl_HasOverlap.l0 k l0 1)) = some r := h
 clear h
 by_cases c2 : (l0.length : Int) > 128
 ·rw [if_pos c2] at H
  have c2b0 : decide (128 < (l0.length : Int)) = true := decide_eq_true c2
  have c2b1 : decide (128 < l0.length) = true := decide_eq_true (by omega)
  clear c2
  obtain rfl := Option.some.inj H
  go_enter Try.func52, Try.ntmps52
  go_wp2
  go_ret
  exact ⟨by first | rfl | (simp [errW_none, errW_some] <;> rfl) | (simp [*, errW_none, errW_some] <;> rfl), by repeat (first | (with_reducible first | exact HB.out | apply below_alloc | apply pw_below_drewN | apply below_drew1) | exact HB.out)⟩
 ·rw [if_neg c2] at H
  have c2b0 : decide (128 < (l0.length : Int)) = false := decide_eq_false c2
  have c2b1 : decide (128 < l0.length) = false := decide_eq_false (by omega)
  clear c2
  have H' := Aside0.mk H
  clear H
  go_enter Try.func52, Try.ntmps52
  go_wp2
  go_loopg [3] k (fun kq v3 w' => ∃ (x3_1 : Int), v3 = .int .i64 x3_1 ∧ Aside0 (impl_HasOverlap.l0 kq l0 x3_1 = some r) ∧ Aside0 (kq ≤ k) ∧ Aside0 (Below w.heap.size w w'))
  case atStart => exact ⟨(1), (by first | rfl | (simp; done) | (simp [*]; done)), H', ⟨Nat.le_refl _⟩, ⟨by repeat (first | (with_reducible first | exact HB.out | apply below_alloc | apply pw_below_drewN | apply below_drew1) | exact HB.out)⟩⟩
  case round =>
   clear H'
   try clear c2
   try clear c2b0
   try clear c2b1
   try clear p2
   obtain ⟨x3_1, rfl, HA, HK1, HB⟩ := hrel
   cases gk with
   | zero => exact absurd HA.out (by simp [impl_HasOverlap.l0])
   | succ k1 =>
    have H := HA.out
    clear HA
    simp only [impl_HasOverlap.l0] at H
    by_cases c3 : x3_1 ≤ (l0.length : Int)
    ·rw [if_pos c3] at H
     have c3b0 : decide (x3_1 ≤ (l0.length : Int)) = true := decide_eq_true c3
     clear c3
     replace H := Option.bind_eq_some_iff.mp H
     obtain ⟨t439, A40, H⟩ := H
     replace H : (if t439 > (wrap64 (2 * x3_1)) then (some true) else (impl_HasOverlap.l0 k1 l0 (wrap64 (x3_1 + 1)))) = some r := H
     have A4 := Aside0.mk A40
     clear A40
     by_cases c5 : t439 > (wrap64 (2 * x3_1))
     ·rw [if_pos c5] at H
      have c5b0 : decide ((wrap64 (2 * x3_1)) < t439) = true := decide_eq_true c5
      clear c5
      obtain rfl := Option.some.inj H
      go_wp2_with (first | ((with_reducible refine gate_callee (f := 124) rfl ?_); refine goesL_ (some 15) rfl rfl Try.func124 (by kernel_rfl) rfl #[.slice A0 l0.length c0, .int .i64 x3_1] rfl (by (try simp only [List.map_toArray, List.map_cons, List.map_nil]); first | done | rfl | (simp only [List.length_drop, List.length_take]; rfl)) ?_; (with_reducible refine (impl_longestRepeat.calls k1 _ _ l0 x3_1 t439 _ ?side1 ?side2 A4.out).mono ?_); (case side1 => repeat (first | exact (Kd.C_below HR0.out HB.out) | (with_reducible refine Kd.C_alloc ?_ _) | (with_reducible refine Kd.C_drewN ?_ _) | (with_reducible refine Kd.C_drew ?_))); (case side2 => exact HC0.out); rintro e w6 ⟨rfl, hb⟩; refine ⟨_, rfl, ?_⟩; have n0_ := Aside0.mk (below_step (by repeat (first | (with_reducible first | exact HB.out | apply below_alloc | apply pw_below_drewN | apply below_drew1) | exact HB.out)) hb); clear HB; have HB := n0_; clear n0_; (try clear hb); (try clear hb2); (try clear hk); (try clear hi)))
      go_ret
      exact ⟨by first | rfl | (simp [errW_none, errW_some] <;> rfl) | (simp [*, errW_none, errW_some] <;> rfl), by repeat (first | (with_reducible first | exact HB.out | apply below_alloc | apply pw_below_drewN | apply below_drew1) | exact HB.out)⟩
     ·rw [if_neg c5] at H
      have c5b0 : decide ((wrap64 (2 * x3_1)) < t439) = false := decide_eq_false c5
      clear c5
      have H' := Aside0.mk H
      clear H
      go_wp2_with (first | ((with_reducible refine gate_callee (f := 124) rfl ?_); refine goesL_ (some 15) rfl rfl Try.func124 (by kernel_rfl) rfl #[.slice A0 l0.length c0, .int .i64 x3_1] rfl (by (try simp only [List.map_toArray, List.map_cons, List.map_nil]); first | done | rfl | (simp only [List.length_drop, List.length_take]; rfl)) ?_; (with_reducible refine (impl_longestRepeat.calls k1 _ _ l0 x3_1 t439 _ ?side1 ?side2 A4.out).mono ?_); (case side1 => repeat (first | exact (Kd.C_below HR0.out HB.out) | (with_reducible refine Kd.C_alloc ?_ _) | (with_reducible refine Kd.C_drewN ?_ _) | (with_reducible refine Kd.C_drew ?_))); (case side2 => exact HC0.out); rintro e w7 ⟨rfl, hb⟩; refine ⟨_, rfl, ?_⟩; have n0_ := Aside0.mk (below_step (by repeat (first | (with_reducible first | exact HB.out | apply below_alloc | apply pw_below_drewN | apply below_drew1) | exact HB.out)) hb); clear HB; have HB := n0_; clear n0_; (try clear hb); (try clear hb2); (try clear hk); (try clear hi)))
      go_roundg k1
      case measure => have := HK1.out; omega
      case rel => exact ⟨(wrap64 (x3_1 + 1)), (by first | rfl | (simp; done) | (simp [*]; done)), H', ⟨by have := HK1.out; omega⟩, ⟨by repeat (first | (with_reducible first | exact HB.out | apply below_alloc | apply pw_below_drewN | apply below_drew1) | exact HB.out)⟩⟩
    ·rw [if_neg c3] at H
     have c3b0 : decide (x3_1 ≤ (l0.length : Int)) = false := decide_eq_false c3
     clear c3
     obtain rfl := Option.some.inj H
     go_wp2
     go_ret
     exact ⟨by first | rfl | (simp [errW_none, errW_some] <;> rfl) | (simp [*, errW_none, errW_some] <;> rfl), by repeat (first | (with_reducible first | exact HB.out | apply below_alloc | apply pw_below_drewN | apply below_drew1) | exact HB.out)⟩

end Go.Proofs.Ytooamcjgejajeaa.M
/- Walks for this claim, written by a program of mine over the kit's print. No condition of mine. -/
namespace Go.Proofs.Ytooamcjgejajeaa.M
open Go.RowKit Go.Proofs.Ytooamcjgejajeaa.KW Go.Proofs.YtooamcjgejajeaaW.PrintWords Go.Proofs.YtooamcjgejajeaaW.PrintLast Go.Proofs.YtooamcjgejajeaaW.PrintMore
attribute [local go_sem] max2_int min2_int max_two min_two max_three min_three max_four min_four   -- for this text's walks alone
set_option linter.unusedVariables false
set_option linter.unusedSimpArgs false

/-! ### impl_HasPower: function 125 -/
mutual
def impl_HasPower.j0 : Nat → List Int → Int → Int → Bool → Option (Bool)
 | 0, _, _, _, _ => none
 | k + 1, x0, x1, x2, x27 => if x27 = true then (some false) else (impl_HasPower.l0 k x0 x1 x2 1)
def impl_HasPower.l0 : Nat → List Int → Int → Int → Int → Option (Bool)
 | 0, _, _, _, _ => none
 | k + 1, x0, x1, x2, x7 => if x7 ≤ (x0.length : Int) then ((impl_longestRepeat.f k x0 x7).bind fun t558 => (if (wrap64 (t558 * x2)) ≥ (wrap64 (x1 * x7)) then (some true) else (impl_HasPower.l0 k x0 x1 x2 (wrap64 (x7 + 1))))) else (some false)
end
def impl_HasPower.f (k : Nat) (l0 : List Int) (a1 : Int) (a2 : Int) : Option (Bool) := if (l0.length : Int) > 128 then (impl_HasPower.j0 k l0 a1 a2 true) else (if a1 < 2 then (impl_HasPower.j0 k l0 a1 a2 true) else (if a1 > 20 then (impl_HasPower.j0 k l0 a1 a2 true) else (if a2 < 1 then (impl_HasPower.j0 k l0 a1 a2 true) else (impl_HasPower.j0 k l0 a1 a2 (decide (a2 ≥ a1))))))
theorem impl_HasPower.mono_l : ∀ k, (∀ y0 y1 y2 y3, LeO (impl_HasPower.j0 k y0 y1 y2 y3) (impl_HasPower.j0 (k + 1) y0 y1 y2 y3)) ∧ (∀ y0 y1 y2 y3, LeO (impl_HasPower.l0 k y0 y1 y2 y3) (impl_HasPower.l0 (k + 1) y0 y1 y2 y3))
 | 0 => ⟨fun _ _ _ _ r h => by simp [impl_HasPower.j0] at h, fun _ _ _ _ r h => by simp [impl_HasPower.l0] at h⟩
 | k + 1 => by
  obtain ⟨ih0, ih1⟩ := impl_HasPower.mono_l k
  refine ⟨?_, ?_⟩
  ·intro y0 y1 y2 y3
   unfold impl_HasPower.j0
   repeat' first
   | (with_reducible exact ih0 _ _ _ _)
   | (with_reducible exact ih1 _ _ _ _)
   | (with_reducible exact impl_longestRepeat.mono _ _ _)
   | (with_reducible exact LeO.refl _)
   | (with_reducible exact LeO.none _)
   | (with_reducible refine LeO.ite ?_ ?_)
   | (with_reducible refine LeO.bind ?_ (fun _ => ?_))
   | exact ih0 _ _ _ _
   | exact ih1 _ _ _ _
   | exact impl_longestRepeat.mono _ _ _
   | exact LeO.none _
   | refine LeO.ite ?_ ?_
   | refine LeO.bind ?_ (fun _ => ?_)
  ·intro y0 y1 y2 y3
   unfold impl_HasPower.l0
   repeat' first
   | (with_reducible exact ih0 _ _ _ _)
   | (with_reducible exact ih1 _ _ _ _)
   | (with_reducible exact impl_longestRepeat.mono _ _ _)
   | (with_reducible exact LeO.refl _)
   | (with_reducible exact LeO.none _)
   | (with_reducible refine LeO.ite ?_ ?_)
   | (with_reducible refine LeO.bind ?_ (fun _ => ?_))
   | exact ih0 _ _ _ _
   | exact ih1 _ _ _ _
   | exact impl_longestRepeat.mono _ _ _
   | exact LeO.none _
   | refine LeO.ite ?_ ?_
   | refine LeO.bind ?_ (fun _ => ?_)
theorem impl_HasPower.mono : ∀ a0 a1 a2 k, LeO (impl_HasPower.f k a0 a1 a2) (impl_HasPower.f (k + 1) a0 a1 a2) := by
 intro a0 a1 a2 k
 obtain ⟨ih0, ih1⟩ := impl_HasPower.mono_l k
 unfold impl_HasPower.f
 repeat' first
   | (with_reducible exact ih0 _ _ _ _)
   | (with_reducible exact ih1 _ _ _ _)
   | (with_reducible exact impl_longestRepeat.mono _ _ _)
   | (with_reducible exact LeO.refl _)
   | (with_reducible exact LeO.none _)
   | (with_reducible refine LeO.ite ?_ ?_)
   | (with_reducible refine LeO.bind ?_ (fun _ => ?_))
   | exact ih0 _ _ _ _
   | exact ih1 _ _ _ _
   | exact impl_longestRepeat.mono _ _ _
   | exact LeO.none _
   | refine LeO.ite ?_ ?_
   | refine LeO.bind ?_ (fun _ => ?_)
set_option maxHeartbeats 8000000 in
set_option maxRecDepth 100000 in
theorem impl_HasPower.calls (k : Nat) (A0 : Option Addr) (c0 : Nat) (l0 : List Int) (a1 : Int) (a2 : Int) (r : Bool) (w : World) (hr0 : Kd.C (Kd.int .i64) w A0 l0.length l0) (hc0 : l0.length ≤ c0) (h : impl_HasPower.f k l0 a1 a2 = some r) :
  Calls Try.prog 125 #[.slice A0 l0.length c0, .int .i64 a1, .int .i64 a2] w fun e w' => e = .returned (.bool r) ∧ Below w.heap.size w w' := by
 have HR0 := Aside0.mk hr0
 have HC0 := Aside0.mk hc0
 clear hr0 hc0
 have HB := Aside0.mk (Below.refl w.heap.size w)
 have H : (if (l0.length : Int) > 128 then (impl_HasPower.j0 k l0 a1 a2 true) else (if a1 < 2 then (impl_HasPower.j0 k l0 a1 a2 true) else (if a1 > 20 then (impl_HasPower.j0 k l0 a1 a2 true) else (if a2 < 1 then (impl_HasPower.j0 k l0 a1 a2 true) else (impl_HasPower.j0 k l0 a1 a2 (decide (a2 ≥ a1))))))) = some r := h
 clear h
 have HC4 := Aside0.mk H
 clear H
 go_enter Try.func125, Try.ntmps125
 go_upto_region 1 with (fail)
 go_cut [27] (fun v27 wc => ∃ (kq : Nat) (x27_3 : Bool), v27 = .bool x27_3 ∧ Aside0 (impl_HasPower.j0 kq l0 a1 a2 x27_3 = some r) ∧ Aside0 (kq ≤ k) ∧ Aside0 (Below w.heap.size w wc))
 case first =>
  have H := HC4.out
  clear HC4
  by_cases c5 : (l0.length : Int) > 128
  ·rw [if_pos c5] at H
   have c5b0 : decide (128 < (l0.length : Int)) = true := decide_eq_true c5
   have c5b1 : decide (128 < l0.length) = true := decide_eq_true (by omega)
   clear c5
   (first | rw [c5b0] | (simp only [i64_w, i32_w]; rw [c5b0]) | skip)
   have H' := Aside0.mk H
   clear H
   go_wp2
   go_meet
   case rel => exact ⟨_, (true), (by first | rfl | (simp; done) | (simp [*]; done)), H', ⟨by first | omega | exact Nat.le_refl _⟩, ⟨by repeat (first | (with_reducible first | exact HB.out | apply below_alloc | apply pw_below_drewN | apply below_drew1) | exact HB.out)⟩⟩
  ·rw [if_neg c5] at H
   have c5b0 : decide (128 < (l0.length : Int)) = false := decide_eq_false c5
   have c5b1 : decide (128 < l0.length) = false := decide_eq_false (by omega)
   clear c5
   (first | rw [c5b0] | (simp only [i64_w, i32_w]; rw [c5b0]) | skip)
   by_cases c6 : a1 < 2
   ·rw [if_pos c6] at H
    have c6b0 : decide (a1 < 2) = true := decide_eq_true c6
    clear c6
    have H' := Aside0.mk H
    clear H
    go_wp2
    go_meet
    case rel => exact ⟨_, (true), (by first | rfl | (simp; done) | (simp [*]; done)), H', ⟨by first | omega | exact Nat.le_refl _⟩, ⟨by repeat (first | (with_reducible first | exact HB.out | apply below_alloc | apply pw_below_drewN | apply below_drew1) | exact HB.out)⟩⟩
   ·rw [if_neg c6] at H
    have c6b0 : decide (a1 < 2) = false := decide_eq_false c6
    clear c6
    by_cases c7 : a1 > 20
    ·rw [if_pos c7] at H
     have c7b0 : decide (20 < a1) = true := decide_eq_true c7
     clear c7
     have H' := Aside0.mk H
     clear H
     go_wp2
     go_meet
     case rel => exact ⟨_, (true), (by first | rfl | (simp; done) | (simp [*]; done)), H', ⟨by first | omega | exact Nat.le_refl _⟩, ⟨by repeat (first | (with_reducible first | exact HB.out | apply below_alloc | apply pw_below_drewN | apply below_drew1) | exact HB.out)⟩⟩
    ·rw [if_neg c7] at H
     have c7b0 : decide (20 < a1) = false := decide_eq_false c7
     clear c7
     by_cases c8 : a2 < 1
     ·rw [if_pos c8] at H
      have c8b0 : decide (a2 < 1) = true := decide_eq_true c8
      clear c8
      have H' := Aside0.mk H
      clear H
      go_wp2
      go_meet
      case rel => exact ⟨_, (true), (by first | rfl | (simp; done) | (simp [*]; done)), H', ⟨by first | omega | exact Nat.le_refl _⟩, ⟨by repeat (first | (with_reducible first | exact HB.out | apply below_alloc | apply pw_below_drewN | apply below_drew1) | exact HB.out)⟩⟩
     ·rw [if_neg c8] at H
      have c8b0 : decide (a2 < 1) = false := decide_eq_false c8
      clear c8
      have H' := Aside0.mk H
      clear H
      go_wp2
      go_meet
      case rel => exact ⟨_, (decide (a2 ≥ a1)), (by first | rfl | (simp; done) | (simp [*]; done)), H', ⟨by first | omega | exact Nat.le_refl _⟩, ⟨by repeat (first | (with_reducible first | exact HB.out | apply below_alloc | apply pw_below_drewN | apply below_drew1) | exact HB.out)⟩⟩
 case rest =>
  clear HC4
  try clear c1
  try clear p2
  try clear c5
  try clear c5b0
  try clear c5b1
  try clear c6
  try clear c6b0
  try clear c7
  try clear c7b0
  try clear c8
  try clear c8b0
  obtain ⟨kq, x27_3, rfl, HA, HJ3, HB⟩ := hcut
  cases kq with
  | zero => exact absurd HA.out (by simp [impl_HasPower.j0])
  | succ kj3 =>
   have H := HA.out
   clear HA
   simp only [impl_HasPower.j0] at H
   by_cases c9 : x27_3 = true
   ·subst c9
    have H1 : (some false) = some r := by rw [if_pos rfl] at H; exact H
    clear H
    have H := H1
    clear H1
    obtain rfl := Option.some.inj H
    go_wp2
    go_ret
    exact ⟨by first | rfl | (simp [errW_none, errW_some] <;> rfl) | (simp [*, errW_none, errW_some] <;> rfl), by repeat (first | (with_reducible first | exact HB.out | apply below_alloc | apply pw_below_drewN | apply below_drew1) | exact HB.out)⟩
   ·replace c9 := Bool.eq_false_iff.mpr c9
    subst c9
    have H1 : (impl_HasPower.l0 kj3 l0 a1 a2 1) = some r := by rw [if_neg (show ¬ (false = true) by decide)] at H; exact H
    clear H
    have H := H1
    clear H1
    have H' := Aside0.mk H
    clear H
    go_wp2
    go_loopg [7] kj3 (fun kq v7 w' => ∃ (x7_2 : Int), v7 = .int .i64 x7_2 ∧ Aside0 (impl_HasPower.l0 kq l0 a1 a2 x7_2 = some r) ∧ Aside0 (kq ≤ kj3) ∧ Aside0 (Below w.heap.size w w'))
    case atStart => exact ⟨(1), (by first | rfl | (simp; done) | (simp [*]; done)), H', ⟨Nat.le_refl _⟩, ⟨by repeat (first | (with_reducible first | exact HB.out | apply below_alloc | apply pw_below_drewN | apply below_drew1) | exact HB.out)⟩⟩
    case round =>
     clear H'
     try clear c1
     try clear p2
     try clear c5
     try clear c5b0
     try clear c5b1
     try clear c6
     try clear c6b0
     try clear c7
     try clear c7b0
     try clear c8
     try clear c8b0
     try clear c9
     try clear p2
     obtain ⟨x7_2, rfl, HA, HK2, HB⟩ := hrel
     cases gk with
     | zero => exact absurd HA.out (by simp [impl_HasPower.l0])
     | succ k2 =>
      have H := HA.out
      clear HA
      simp only [impl_HasPower.l0] at H
      by_cases c10 : x7_2 ≤ (l0.length : Int)
      ·rw [if_pos c10] at H
       have c10b0 : decide (x7_2 ≤ (l0.length : Int)) = true := decide_eq_true c10
       clear c10
       replace H := Option.bind_eq_some_iff.mp H
       obtain ⟨t558, A110, H⟩ := H
       replace H : (if (wrap64 (t558 * a2)) ≥ (wrap64 (a1 * x7_2)) then (some true) else (impl_HasPower.l0 k2 l0 a1 a2 (wrap64 (x7_2 + 1)))) = some r := H
       have A11 := Aside0.mk A110
       clear A110
       by_cases c12 : (wrap64 (t558 * a2)) ≥ (wrap64 (a1 * x7_2))
       ·rw [if_pos c12] at H
        have c12b0 : decide ((wrap64 (a1 * x7_2)) ≤ (wrap64 (t558 * a2))) = true := decide_eq_true c12
        clear c12
        obtain rfl := Option.some.inj H
        go_wp2_with (first | ((with_reducible refine gate_callee (f := 124) rfl ?_); refine goesL_ (some 36) rfl rfl Try.func124 (by kernel_rfl) rfl #[.slice A0 l0.length c0, .int .i64 x7_2] rfl (by (try simp only [List.map_toArray, List.map_cons, List.map_nil]); first | done | rfl | (simp only [List.length_drop, List.length_take]; rfl)) ?_; (with_reducible refine (impl_longestRepeat.calls k2 _ _ l0 x7_2 t558 _ ?side1 ?side2 A11.out).mono ?_); (case side1 => repeat (first | exact (Kd.C_below HR0.out HB.out) | (with_reducible refine Kd.C_alloc ?_ _) | (with_reducible refine Kd.C_drewN ?_ _) | (with_reducible refine Kd.C_drew ?_))); (case side2 => exact HC0.out); rintro e w13 ⟨rfl, hb⟩; refine ⟨_, rfl, ?_⟩; have n0_ := Aside0.mk (below_step (by repeat (first | (with_reducible first | exact HB.out | apply below_alloc | apply pw_below_drewN | apply below_drew1) | exact HB.out)) hb); clear HB; have HB := n0_; clear n0_; (try clear hb); (try clear hb2); (try clear hk); (try clear hi)))
        go_ret
        exact ⟨by first | rfl | (simp [errW_none, errW_some] <;> rfl) | (simp [*, errW_none, errW_some] <;> rfl), by repeat (first | (with_reducible first | exact HB.out | apply below_alloc | apply pw_below_drewN | apply below_drew1) | exact HB.out)⟩
       ·rw [if_neg c12] at H
        have c12b0 : decide ((wrap64 (a1 * x7_2)) ≤ (wrap64 (t558 * a2))) = false := decide_eq_false c12
        clear c12
        have H' := Aside0.mk H
        clear H
        go_wp2_with (first | ((with_reducible refine gate_callee (f := 124) rfl ?_); refine goesL_ (some 36) rfl rfl Try.func124 (by kernel_rfl) rfl #[.slice A0 l0.length c0, .int .i64 x7_2] rfl (by (try simp only [List.map_toArray, List.map_cons, List.map_nil]); first | done | rfl | (simp only [List.length_drop, List.length_take]; rfl)) ?_; (with_reducible refine (impl_longestRepeat.calls k2 _ _ l0 x7_2 t558 _ ?side1 ?side2 A11.out).mono ?_); (case side1 => repeat (first | exact (Kd.C_below HR0.out HB.out) | (with_reducible refine Kd.C_alloc ?_ _) | (with_reducible refine Kd.C_drewN ?_ _) | (with_reducible refine Kd.C_drew ?_))); (case side2 => exact HC0.out); rintro e w14 ⟨rfl, hb⟩; refine ⟨_, rfl, ?_⟩; have n0_ := Aside0.mk (below_step (by repeat (first | (with_reducible first | exact HB.out | apply below_alloc | apply pw_below_drewN | apply below_drew1) | exact HB.out)) hb); clear HB; have HB := n0_; clear n0_; (try clear hb); (try clear hb2); (try clear hk); (try clear hi)))
        go_roundg k2
        case measure => have := HJ3.out; have := HK2.out; omega
        case rel => exact ⟨(wrap64 (x7_2 + 1)), (by first | rfl | (simp; done) | (simp [*]; done)), H', ⟨by have := HJ3.out; have := HK2.out; omega⟩, ⟨by repeat (first | (with_reducible first | exact HB.out | apply below_alloc | apply pw_below_drewN | apply below_drew1) | exact HB.out)⟩⟩
      ·rw [if_neg c10] at H
       have c10b0 : decide (x7_2 ≤ (l0.length : Int)) = false := decide_eq_false c10
       clear c10
       obtain rfl := Option.some.inj H
       go_wp2
       go_ret
       exact ⟨by first | rfl | (simp [errW_none, errW_some] <;> rfl) | (simp [*, errW_none, errW_some] <;> rfl), by repeat (first | (with_reducible first | exact HB.out | apply below_alloc | apply pw_below_drewN | apply below_drew1) | exact HB.out)⟩

end Go.Proofs.Ytooamcjgejajeaa.M
/- Walks for this claim, written by a program of mine over the kit's print. No condition of mine. -/
namespace Go.Proofs.Ytooamcjgejajeaa.M
open Go.RowKit Go.Proofs.Ytooamcjgejajeaa.KW Go.Proofs.YtooamcjgejajeaaW.PrintWords Go.Proofs.YtooamcjgejajeaaW.PrintLast Go.Proofs.YtooamcjgejajeaaW.PrintMore
attribute [local go_sem] max2_int min2_int max_two min_two max_three min_three max_four min_four   -- for this text's walks alone
set_option linter.unusedVariables false
set_option linter.unusedSimpArgs false

/-! ### impl_HasSquare: function 53 -/
def impl_HasSquare.f (k : Nat) (l0 : List Int) : Option (Bool) := (impl_HasPower.f k l0 2 1).bind fun t559 => (some t559)
theorem impl_HasSquare.mono : ∀ a0 k, LeO (impl_HasSquare.f k a0) (impl_HasSquare.f (k + 1) a0) := by
 intro a0 k
 unfold impl_HasSquare.f
 repeat' first
   | (with_reducible exact impl_HasPower.mono _ _ _ _)
   | (with_reducible exact LeO.refl _)
   | (with_reducible exact LeO.none _)
   | (with_reducible refine LeO.ite ?_ ?_)
   | (with_reducible refine LeO.bind ?_ (fun _ => ?_))
   | exact impl_HasPower.mono _ _ _ _
   | exact LeO.none _
   | refine LeO.ite ?_ ?_
   | refine LeO.bind ?_ (fun _ => ?_)
set_option maxHeartbeats 8000000 in
set_option maxRecDepth 100000 in
theorem impl_HasSquare.calls (k : Nat) (A0 : Option Addr) (c0 : Nat) (l0 : List Int) (r : Bool) (w : World) (hr0 : Kd.C (Kd.int .i64) w A0 l0.length l0) (hc0 : l0.length ≤ c0) (h : impl_HasSquare.f k l0 = some r) :
  Calls Try.prog 53 #[.slice A0 l0.length c0] w fun e w' => e = .returned (.bool r) ∧ Below w.heap.size w w' := by
 have HR0 := Aside0.mk hr0
 have HC0 := Aside0.mk hc0
 clear hr0 hc0
 have HB := Aside0.mk (Below.refl w.heap.size w)
 have H : ((impl_HasPower.f k l0 2 1).bind fun t559 => (some t559)) = some r := h
 clear h
 replace H := Option.bind_eq_some_iff.mp H
 obtain ⟨t559, A20, H⟩ := H
 replace H : (some t559) = some r := H
 have A2 := Aside0.mk A20
 clear A20
 obtain rfl := Option.some.inj H
 go_enter Try.func53, Try.ntmps53
 go_wp2_with (first | ((with_reducible refine gate_callee (f := 125) rfl ?_); refine goesL_ (some 4) rfl rfl Try.func125 (by kernel_rfl) rfl #[.slice A0 l0.length c0, .int .i64 2, .int .i64 1] rfl (by (try simp only [List.map_toArray, List.map_cons, List.map_nil]); first | done | rfl | (simp only [List.length_drop, List.length_take]; rfl)) ?_; (with_reducible refine (impl_HasPower.calls k _ _ l0 2 1 t559 _ ?side1 ?side2 A2.out).mono ?_); (case side1 => repeat (first | exact HR0.out | (with_reducible refine Kd.C_alloc ?_ _) | (with_reducible refine Kd.C_drewN ?_ _) | (with_reducible refine Kd.C_drew ?_))); (case side2 => exact HC0.out); rintro e w3 ⟨rfl, hb⟩; refine ⟨_, rfl, ?_⟩; have n0_ := Aside0.mk (below_step (by repeat (first | (with_reducible first | exact HB.out | apply below_alloc | apply pw_below_drewN | apply below_drew1) | exact HB.out)) hb); clear HB; have HB := n0_; clear n0_; (try clear hb); (try clear hb2); (try clear hk); (try clear hi)))
 go_ret
 exact ⟨by first | rfl | (simp [errW_none, errW_some] <;> rfl) | (simp [*, errW_none, errW_some] <;> rfl), by repeat (first | (with_reducible first | exact HB.out | apply below_alloc | apply pw_below_drewN | apply below_drew1) | exact HB.out)⟩

end Go.Proofs.Ytooamcjgejajeaa.M
/- Powers, squares and overlaps in a word: program and reference find the same. No condition. -/
namespace Go.Proofs.Ytooamcjgejajeaa.M
open Go.RowKit Go.Proofs.YtooamcjgejajeaaW.PrintWords Go.Proofs.YtooamcjgejajeaaW.PrintMore Go.Proofs.Ytooamcjgejajeaa.K

/-- L letters from i on are those p further on. -/
def per (w : List Int) (p i L : Nat) : Prop := ∀ t, t < L → i + t + p < w.length ∧ w.getD (i + t) 0 = w.getD (i + t + p) 0
theorem per_zero (w : List Int) (p i : Nat) : per w p i 0 := fun t h => by omega
theorem per_le {w : List Int} {p i L M : Nat} (h : per w p i L) (hm : M ≤ L) : per w p i M := fun t ht => h t (by omega)
theorem per_succ {w : List Int} {p i L : Nat} (h : per w p i L) (h1 : i + L + p < w.length) (h2 : w.getD (i + L) 0 = w.getD (i + L + p) 0) : per w p i (L + 1) := fun t ht => by
  by_cases e : t = L
  · subst e; exact ⟨h1, h2⟩
  · exact h t (by omega)
theorem per_bound {w : List Int} {p i L : Nat} (h : per w p i L) (hl : 0 < L) : i + L + p ≤ w.length := by
  have := (h (L - 1) (by omega)).1
  omega
theorem rd_nat (xs : List Int) (n : Int) (i : Nat) (h : n = (i : Int)) : rd xs n = xs.getD i 0 := by rw [h, rd_at]

theorem l10_ev (w : List Int) (i p : Nat) (hp : 1 ≤ p) (hw : w.length ≤ 1048576) (hip : i + p < w.length) : ∃ M : Nat, per w p i M ∧ ¬ per w p i (M + 1) ∧ Ev (fun k => spec_l10Match.f k w (i : Int) (p : Int)) ((p + M : Nat) : Int) := by
  have key : ∀ d t, i + p + t + d = w.length → per w p i t → ∃ M : Nat, per w p i M ∧ ¬ per w p i (M + 1) ∧ Ev (fun k => spec_l10Match.l0 k w (i : Int) (p : Int) ((p + t : Nat) : Int)) ((p + M : Nat) : Int) := by
    intro d
    induction d with
    | zero =>
      intro t hd ht
      refine ⟨t, ht, fun h => by have := per_bound h (by omega); omega, ?_⟩
      refine Ev.step (fun k => by simp only [spec_l10Match.l0]; rw [w_id (by omega) (by omega), _root_.if_neg (by omega)]) (Ev.same (Ev.some _) ?_)
      unfold mn; rw [w_id (by omega) (by omega)]; split <;> omega
    | succ d ih =>
      intro t hd ht
      by_cases q : w.getD (i + t) 0 = w.getD (i + t + p) 0
      · obtain ⟨M, h1, h2, h3⟩ := ih (t + 1) (by omega) (per_succ ht (by omega) q)
        refine ⟨M, h1, h2, ?_⟩
        refine Ev.step (fun k => by
          simp only [spec_l10Match.l0]
          rw [w_id (a := (i : Int) + ((p + t : Nat) : Int)) (by omega) (by omega), w_id (a := (i : Int) + ((p + t : Nat) : Int) - (p : Int)) (by omega) (by omega), _root_.if_pos (by omega), _root_.if_pos (by omega), _root_.if_pos (by omega), _root_.if_pos (by omega),
            _root_.if_pos (by rw [rd_nat w _ (i + t + p) (by omega), rd_nat w _ (i + t) (by omega), q]), wsucc (by omega)]; rfl) h3
      · refine ⟨t, ht, fun h => q (h t (by omega)).2, ?_⟩
        refine Ev.step (fun k => by
          simp only [spec_l10Match.l0]
          rw [w_id (a := (i : Int) + ((p + t : Nat) : Int)) (by omega) (by omega), w_id (a := (i : Int) + ((p + t : Nat) : Int) - (p : Int)) (by omega) (by omega), _root_.if_pos (by omega), _root_.if_pos (by omega), _root_.if_pos (by omega), _root_.if_pos (by omega),
            _root_.if_neg (by rw [rd_nat w _ (i + t + p) (by omega), rd_nat w _ (i + t) (by omega)]; exact fun e => q e.symm)]) (Ev.same (Ev.some _) ?_)
        unfold mn; rw [w_id (by omega) (by omega)]; split <;> omega
  obtain ⟨M, h1, h2, h3⟩ := key (w.length - (i + p)) 0 (by omega) (per_zero _ _ _)
  exact ⟨M, h1, h2, h3⟩

theorem longest_ev (w : List Int) (p : Nat) (hp : 1 ≤ p) (hw : w.length ≤ 1048576) (hpl : p ≤ w.length) : ∃ M : Nat, M ≤ w.length ∧ (∃ i, per w p i M) ∧ (∀ i L, per w p i L → L ≤ M) ∧ Ev (fun k => impl_longestRepeat.f k w (p : Int)) ((M + p : Nat) : Int) := by
  have key : ∀ d i b c : Nat, i + p + d = w.length → c ≤ i → per w p (i - c) c → (∀ j L, j + L = i → per w p j L → L ≤ c) → (∃ j, per w p j b) → (∀ j L, j + L ≤ i → per w p j L → L ≤ b) → b ≤ i →
      ∃ M : Nat, M ≤ w.length ∧ (∃ i, per w p i M) ∧ (∀ i L, per w p i L → L ≤ M) ∧ Ev (fun k => impl_longestRepeat.l0 k w (p : Int) (b : Int) (c : Int) (i : Int)) ((M + p : Nat) : Int) := by
    intro d
    induction d with
    | zero =>
      intro i b c hd hci h1 h2 h3 h4 hbi
      refine ⟨b, by omega, h3, fun j L h => ?_, ?_⟩
      · by_cases hL : L = 0
        · omega
        · exact h4 j L (by have := per_bound h (by omega); omega) h
      · refine Ev.step (fun k => by simp only [impl_longestRepeat.l0]; rw [w_id (a := (i : Int) + (p : Int)) (by omega) (by omega), _root_.if_neg (by omega)]) (Ev.same (Ev.some _) ?_)
        rw [w_id (by omega) (by omega)]; omega
    | succ d ih =>
      intro i b c hd hci h1 h2 h3 h4 hbi
      by_cases q : w.getD i 0 = w.getD (i + p) 0
      · have hc1 : per w p (i + 1 - (c + 1)) (c + 1) := by
          rw [show i + 1 - (c + 1) = i - c from by omega]
          exact per_succ h1 (by omega) (by rw [show i - c + c = i from by omega]; exact q)
        have hc2 : ∀ j L, j + L = i + 1 → per w p j L → L ≤ c + 1 := fun j L hj h => by
          by_cases hL : L = 0
          · omega
          · have := h2 j (L - 1) (by omega) (per_le h (by omega)); omega
        obtain ⟨M, g0, g1, g2, g3⟩ := ih (i + 1) (if b < c + 1 then c + 1 else b) (c + 1) (by omega) (by omega) hc1 hc2
          (by split <;> first | exact h3 | exact ⟨_, hc1⟩)
          (fun j L hj h => by
            by_cases e : j + L = i + 1
            · have := hc2 j L e h; split <;> omega
            · have := h4 j L (by omega) h; split <;> omega) (by split <;> omega)
        refine ⟨M, g0, g1, g2, ?_⟩
        refine Ev.step (fun k => by
          simp only [impl_longestRepeat.l0]
          rw [w_id (a := (i : Int) + (p : Int)) (by omega) (by omega), _root_.if_pos (by omega), _root_.if_pos (by omega), _root_.if_pos (by omega), _root_.if_pos (by omega),
            _root_.if_pos (by rw [rd_at, rd_nat w _ (i + p) (by omega), q]), wsucc (by omega), wsucc (by omega),
            show mx (b : Int) ((c + 1 : Nat) : Int) = ((if b < c + 1 then c + 1 else b : Nat) : Int) from by unfold mx; split <;> split <;> omega]) g3
      · have hc2 : ∀ j L, j + L = i + 1 → per w p j L → L = 0 := fun j L hj h => by
          by_cases hL : L = 0
          · exact hL
          · have := (h (L - 1) (by omega)).2
            rw [show j + (L - 1) = i from by omega] at this
            exact absurd this q
        obtain ⟨M, g0, g1, g2, g3⟩ := ih (i + 1) b 0 (by omega) (by omega) (per_zero _ _ _) (fun j L hj h => by have := hc2 j L hj h; omega) h3
          (fun j L hj h => by
            by_cases e : j + L = i + 1
            · have := hc2 j L e h; omega
            · exact h4 j L (by omega) h) (by omega)
        refine ⟨M, g0, g1, g2, ?_⟩
        refine Ev.step (fun k => by
          simp only [impl_longestRepeat.l0]
          rw [w_id (a := (i : Int) + (p : Int)) (by omega) (by omega), _root_.if_pos (by omega), _root_.if_pos (by omega), _root_.if_pos (by omega), _root_.if_pos (by omega),
            _root_.if_neg (by rw [rd_at, rd_nat w _ (i + p) (by omega)]; exact q), wsucc (by omega)]; rfl) g3
  have := key (w.length - p) 0 0 0 (by omega) (Nat.le_refl _) (per_zero _ _ _) (fun j L h _ => by omega) ⟨0, per_zero _ _ _⟩ (fun j L h _ => by omega) (Nat.le_refl _)
  exact this

/-- There is a part that is long enough against one of its periods. -/
def PW (w : List Int) (a b : Nat) : Prop := w.length ≤ 128 ∧ ∃ i p L, 1 ≤ p ∧ i + p < w.length ∧ per w p i L ∧ p * a ≤ (p + L) * b
open Classical in
noncomputable def hasPower (w : List Int) (a b : Nat) : Bool := decide (PW w a b)
open Classical in
theorem hasPower_iff (w : List Int) (a b : Nat) : hasPower w a b = true ↔ PW w a b := by unfold hasPower; exact decide_eq_true_iff
theorem hasPower_no (w : List Int) (a b : Nat) (h : ¬ PW w a b) : hasPower w a b = false := Bool.eq_false_iff.2 (fun q => h ((hasPower_iff w a b).1 q))
def OV (w : List Int) : Prop := w.length ≤ 128 ∧ ∃ i p L, 1 ≤ p ∧ per w p i L ∧ p < L
open Classical in
noncomputable def hasOverlap (w : List Int) : Bool := decide (OV w)
open Classical in
theorem hasOverlap_iff (w : List Int) : hasOverlap w = true ↔ OV w := by unfold hasOverlap; exact decide_eq_true_iff
theorem hasOverlap_no (w : List Int) (h : ¬ OV w) : hasOverlap w = false := Bool.eq_false_iff.2 (fun q => h ((hasOverlap_iff w).1 q))

theorem l1In_val (a b c : Int) : spec_l1In.f a b c = some (decide (b ≤ a ∧ a ≤ c)) := by
  unfold spec_l1In.f
  by_cases q : a ≥ b
  · rw [_root_.if_pos q]; simp [q]
  · rw [_root_.if_neg q]; simp; omega

theorem specPower_ev (w : List Int) (a b : Nat) (ha : 2 ≤ a ∧ a ≤ 20) (hb : 1 ≤ b ∧ b < a) (hw : w.length ≤ 1048576) : Ev (fun k => spec_HasPower.f k w (a : Int) (b : Int)) (hasPower w a b) := by
  unfold spec_HasPower.f
  refine Ev.bind (Ev.val (l1In_val _ _ _)) ?_
  rw [decide_eq_true (by omega)]
  refine Ev.if_pos rfl ?_
  refine Ev.bind (Ev.val (l1In_val _ _ _)) ?_
  rw [w_id (by omega) (by omega), decide_eq_true (by omega)]
  refine Ev.step (fun k => by simp only [spec_HasPower.j0]; rw [_root_.if_neg (by decide)]) ?_
  by_cases h128 : w.length ≤ 128
  · have inner : ∀ (i : Nat) (r : Bool), i < w.length → (r = true → PW w a b) → ((∀ p L, 1 ≤ p → i + p < w.length → per w p i L → ¬ p * a ≤ (p + L) * b) → Ev (fun k => spec_HasPower.l0 k w (a : Int) (b : Int) ((i + 1 : Nat) : Int)) r) → (r = false → ∀ p L, 1 ≤ p → i + p < w.length → per w p i L → ¬ p * a ≤ (p + L) * b) →
        ∀ d p, p + d = w.length → 1 ≤ p → (∀ q L, 1 ≤ q → q < p → i + q < w.length → per w q i L → ¬ q * a ≤ (q + L) * b) → Ev (fun k => spec_HasPower.l1 k w (a : Int) (b : Int) (i : Int) (p : Int)) r := by
      intro i r hi hr0 hr hr1 d
      induction d with
      | zero =>
        intro p hpd hp hno
        refine Ev.step (fun k => by simp only [spec_HasPower.l1]; rw [w_id (a := (i : Int) + (p : Int)) (by omega) (by omega), _root_.if_neg (by omega), wsucc (by omega)]) (hr (fun q L h1 h2 h3 => hno q L h1 (by omega) h2 h3))
      | succ d ih =>
        intro p hpd hp hno
        by_cases q : i + p < w.length
        · obtain ⟨M, g1, g2, g3⟩ := l10_ev w i p hp hw q
          refine Ev.step (fun k => by simp only [spec_HasPower.l1]; rw [w_id (a := (i : Int) + (p : Int)) (by omega) (by omega), _root_.if_pos (by omega)]) ?_
          have hMw : M ≤ w.length := by
            by_cases e : M = 0
            · omega
            · have := per_bound g1 (by omega); omega
          refine Ev.bind g3 ?_
          have e1 : wrap64 (((p + M : Nat) : Int) * (b : Int)) = (((p + M) * b : Nat) : Int) := by
            have h2 : (p + M) * b ≤ 256 * 20 := Nat.mul_le_mul (show p + M ≤ 256 from by omega) (show b ≤ 20 from by omega)
            have h3 : (p + M) * b ≤ 100000 := Nat.le_trans h2 (by decide)
            clear h2
            rw [← Int.natCast_mul]; exact w_id (by omega) (by omega)
          have e2 : wrap64 ((p : Int) * (a : Int)) = ((p * a : Nat) : Int) := by
            have h2 : p * a ≤ 256 * 20 := Nat.mul_le_mul (show p ≤ 256 from by omega) (show a ≤ 20 from by omega)
            have h3 : p * a ≤ 100000 := Nat.le_trans h2 (by decide)
            clear h2
            rw [← Int.natCast_mul]; exact w_id (by omega) (by omega)
          rw [e1, e2]
          refine Ev.ite (fun c => ?_) (fun c => ?_)
          · refine Ev.same (Ev.some true) ?_
            cases r with
            | true => rfl
            | false => exact absurd (Int.ofNat_le.1 c) (hr1 rfl p M hp q g1)
          · refine Ev.congr (fun k => by rw [wsucc (by omega)]) (ih (p + 1) (by omega) (by omega) (fun q' L h1 h2 h3 h4 h5 => ?_))
            by_cases e : q' = p
            · subst e
              have hLM : L ≤ M := by
                rcases Nat.lt_or_ge M L with hlt | hge
                · exact absurd (per_le h4 (show M + 1 ≤ L from hlt)) g2
                · exact hge
              exact c (Int.ofNat_le.2 (Nat.le_trans h5 (Nat.mul_le_mul_right b (Nat.add_le_add_left hLM q'))))
            · exact hno q' L h1 (by omega) h3 h4 h5
        · refine Ev.step (fun k => by simp only [spec_HasPower.l1]; rw [w_id (a := (i : Int) + (p : Int)) (by omega) (by omega), _root_.if_neg (by omega), wsucc (by omega)]) (hr (fun q' L h1 h2 h3 => hno q' L h1 (by omega) h2 h3))
    have outer : ∀ r : Bool, (r = true ↔ PW w a b) → ∀ i, i ≤ w.length → (∀ j p L, j < i → 1 ≤ p → j + p < w.length → per w p j L → ¬ p * a ≤ (p + L) * b) → Ev (fun k => spec_HasPower.l0 k w (a : Int) (b : Int) (i : Int)) r := by
      intro r hr
      refine down w.length ?_ ?_
      · intro hno
        refine Ev.step (fun k => by simp only [spec_HasPower.l0]; rw [_root_.if_neg (by omega)]) ?_
        refine Ev.step (fun k => by simp only [spec_HasPower.j2]; rw [_root_.if_neg (by decide)]) (Ev.same (Ev.some false) ?_)
        cases r with
        | false => rfl
        | true =>
          obtain ⟨_, i, p, L, h1, h2, h3, h4⟩ := hr.1 rfl
          exact absurd h4 (hno i p L (by omega) h1 h2 h3)
      · intro i hi ih hno
        refine Ev.step (fun k => by simp only [spec_HasPower.l0]; rw [_root_.if_pos (by omega), decide_eq_true (by omega)]) ?_
        refine Ev.step (fun k => by simp only [spec_HasPower.j2]; rw [_root_.if_pos trivial]) ?_
        refine inner i r hi (fun e => hr.1 e) (fun h => ih (fun j p L hj h1 h2 h3 => ?_)) (fun e p L h1 h2 h3 h4 => ?_) (w.length - 1) 1 (by omega) (Nat.le_refl _) (fun q L h1 h2 => by omega)
        · by_cases e : j = i
          · subst e; exact h p L h1 h2 h3
          · exact hno j p L (by omega) h1 h2 h3
        · have := hr.2 ⟨h128, i, p, L, h1, h2, h3, h4⟩; rw [e] at this; cases this
    exact outer _ (hasPower_iff w a b) 0 (by omega) (fun j p L h => by omega)
  · have hf : hasPower w a b = false := hasPower_no _ _ _ (fun h => h128 h.1)
    rw [hf]
    refine Ev.step (fun k => by simp only [spec_HasPower.l0]; rw [_root_.if_pos (by omega), decide_eq_false (by omega)]) ?_
    exact Ev.step (fun k => by simp only [spec_HasPower.j2]; rw [_root_.if_neg (by decide)]) (Ev.some _)

theorem implPower_ev (w : List Int) (a b : Nat) (ha : 2 ≤ a ∧ a ≤ 20) (hb : 1 ≤ b ∧ b < a) (hw : w.length ≤ 1048576) : Ev (fun k => impl_HasPower.f k w (a : Int) (b : Int)) (hasPower w a b) := by
  unfold impl_HasPower.f
  refine Ev.ite (fun h => ?_) (fun h => ?_)
  · have hf : hasPower w a b = false := hasPower_no _ _ _ (fun h => by have := h.1; omega)
    rw [hf]
    exact Ev.step (fun k => by simp only [impl_HasPower.j0]; rw [_root_.if_pos trivial]) (Ev.some _)
  · refine Ev.if_neg (by omega) (Ev.if_neg (by omega) (Ev.if_neg (by omega) ?_))
    rw [decide_eq_false (by omega)]
    refine Ev.step (fun k => by simp only [impl_HasPower.j0]; rw [_root_.if_neg (by decide)]) ?_
    have key : ∀ r : Bool, (r = true ↔ PW w a b) → ∀ d p, p + d = w.length + 1 → 1 ≤ p → (∀ q i L, 1 ≤ q → q < p → i + q < w.length → per w q i L → ¬ q * a ≤ (q + L) * b) → Ev (fun k => impl_HasPower.l0 k w (a : Int) (b : Int) (p : Int)) r := by
      intro r hr d
      induction d with
      | zero =>
        intro p hpd hp hno
        refine Ev.step (fun k => by simp only [impl_HasPower.l0]; rw [_root_.if_neg (by omega)]) (Ev.same (Ev.some false) ?_)
        cases r with
        | false => rfl
        | true =>
          obtain ⟨_, i, p', L, h1, h2, h3, h4⟩ := hr.1 rfl
          exact absurd h4 (hno p' i L h1 (by omega) h2 h3)
      | succ d ih =>
        intro p hpd hp hno
        obtain ⟨M, g0, ⟨i, g1⟩, g2, g3⟩ := longest_ev w p hp hw (by omega)
        refine Ev.step (fun k => by simp only [impl_HasPower.l0]; rw [_root_.if_pos (by omega)]) ?_
        refine Ev.bind g3 ?_
        have e1 : wrap64 (((M + p : Nat) : Int) * (b : Int)) = (((M + p) * b : Nat) : Int) := by
          have h2 : (M + p) * b ≤ 400 * 20 := Nat.mul_le_mul (show M + p ≤ 400 from by omega) (show b ≤ 20 from by omega)
          have h3 : (M + p) * b ≤ 100000 := Nat.le_trans h2 (by decide)
          clear h2
          rw [← Int.natCast_mul]; exact w_id (by omega) (by omega)
        have e2 : wrap64 ((a : Int) * (p : Int)) = ((p * a : Nat) : Int) := by
          have h2 : p * a ≤ 256 * 20 := Nat.mul_le_mul (show p ≤ 256 from by omega) (show a ≤ 20 from by omega)
          have h3 : p * a ≤ 100000 := Nat.le_trans h2 (by decide)
          clear h2
          rw [Int.mul_comm, ← Int.natCast_mul]; exact w_id (by omega) (by omega)
        rw [e1, e2]
        refine Ev.ite (fun c => ?_) (fun c => ?_)
        · refine Ev.same (Ev.some true) ?_
          symm; refine hr.2 ⟨by omega, ?_⟩
          by_cases hM : M = 0
          · subst hM
            have h7 := Nat.mul_lt_mul_of_pos_left hb.2 (show 0 < p from hp)
            rw [Nat.zero_add] at c
            exact absurd (Int.ofNat_le.1 c) (Nat.not_le.2 h7)
          · have := per_bound g1 (by omega)
            exact ⟨i, p, M, hp, by omega, g1, by rw [Nat.add_comm p M]; exact Int.ofNat_le.1 c⟩
        · refine Ev.congr (fun k => by rw [wsucc (by omega)]) (ih (p + 1) (by omega) (by omega) (fun q' j L h1 h2 h3 h4 h5 => ?_))
          by_cases e : q' = p
          · subst e
            exact c (Int.ofNat_le.2 (Nat.le_trans h5 (Nat.mul_le_mul_right b (by rw [Nat.add_comm M]; exact Nat.add_le_add_left (g2 j L h4) q'))))
          · exact hno q' j L h1 (by omega) h3 h4 h5
    exact key _ (hasPower_iff w a b) w.length 1 (by omega) (Nat.le_refl _) (fun q i L h1 h2 => by omega)

theorem specSquare_ev (w : List Int) (hw : w.length ≤ 1048576) : Ev (fun k => spec_HasSquare.f k w) (hasPower w 2 1) := by
  unfold spec_HasSquare.f; exact Ev.bind (specPower_ev w 2 1 (by omega) (by omega) hw) (Ev.some _)
theorem implSquare_ev (w : List Int) (hw : w.length ≤ 1048576) : Ev (fun k => impl_HasSquare.f k w) (hasPower w 2 1) := by
  unfold impl_HasSquare.f; exact Ev.bind (implPower_ev w 2 1 (by omega) (by omega) hw) (Ev.some _)

theorem implOverlap_ev (w : List Int) (hw : w.length ≤ 1048576) : Ev (fun k => impl_HasOverlap.f k w) (hasOverlap w) := by
  unfold impl_HasOverlap.f
  refine Ev.ite (fun h => ?_) (fun h => ?_)
  · have hf : hasOverlap w = false := hasOverlap_no _ (fun h => by have := h.1; omega)
    rw [hf]; exact Ev.some _
  · have key : ∀ r : Bool, (r = true ↔ OV w) → ∀ d p, p + d = w.length + 1 → 1 ≤ p → (∀ q i L, 1 ≤ q → q < p → per w q i L → ¬ q < L) → Ev (fun k => impl_HasOverlap.l0 k w (p : Int)) r := by
      intro r hr d
      induction d with
      | zero =>
        intro p hpd hp hno
        refine Ev.step (fun k => by simp only [impl_HasOverlap.l0]; rw [_root_.if_neg (by omega)]) (Ev.same (Ev.some false) ?_)
        cases r with
        | false => rfl
        | true =>
          obtain ⟨_, i, p', L, h1, h3, h4⟩ := hr.1 rfl
          exact absurd h4 (hno p' i L h1 (by have := per_bound h3 (by omega); omega) h3)
      | succ d ih =>
        intro p hpd hp hno
        obtain ⟨M, g0, ⟨i, g1⟩, g2, g3⟩ := longest_ev w p hp hw (by omega)
        refine Ev.step (fun k => by simp only [impl_HasOverlap.l0]; rw [_root_.if_pos (by omega)]) ?_
        refine Ev.bind g3 ?_
        rw [w_id (a := 2 * (p : Int)) (by omega) (by omega)]
        refine Ev.ite (fun c => ?_) (fun c => ?_)
        · refine Ev.same (Ev.some true) ?_
          symm; exact hr.2 ⟨by omega, i, p, M, hp, g1, by omega⟩
        · refine Ev.congr (fun k => by rw [wsucc (by omega)]) (ih (p + 1) (by omega) (by omega) (fun q' j L h1 h2 h4 h5 => ?_))
          by_cases e : q' = p
          · subst e
            have := g2 j L h4
            omega
          · exact hno q' j L h1 (by omega) h4 h5
    exact key _ (hasOverlap_iff w) w.length 1 (by omega) (Nat.le_refl _) (fun q i L h1 h2 => by omega)

theorem specOverlap_ev (w : List Int) (hw : w.length ≤ 1048576) : Ev (fun k => spec_HasOverlap.f k w) (hasOverlap w) := by
  unfold spec_HasOverlap.f
  by_cases h128 : w.length ≤ 128
  · have inner : ∀ (i : Nat) (r : Bool), i < w.length → ((∀ p L, 1 ≤ p → per w p i L → ¬ p < L) → Ev (fun k => spec_HasOverlap.l0 k w ((i + 1 : Nat) : Int)) r) → (r = false → ∀ p L, 1 ≤ p → per w p i L → ¬ p < L) →
        ∀ d p, p + d = w.length → 1 ≤ p → (∀ q L, 1 ≤ q → q < p → per w q i L → ¬ q < L) → Ev (fun k => spec_HasOverlap.l1 k w (i : Int) (p : Int)) r := by
      intro i r hi hr hr1 d
      have big : ∀ q L, w.length ≤ i + 2 * q → per w q i L → ¬ q < L := fun q L h1 h2 h3 => by have := per_bound h2 (by omega); omega
      induction d with
      | zero =>
        intro p hpd hp hno
        refine Ev.step (fun k => by simp only [spec_HasOverlap.l1]; rw [w_id (a := 2 * (p : Int)) (by omega) (by omega), w_id (a := (i : Int) + (2 * (p : Int))) (by omega) (by omega), _root_.if_neg (by omega), wsucc (by omega)]) (hr (fun q L h1 h3 => ?_))
        by_cases e : q < p
        · exact hno q L h1 e h3
        · exact big q L (by omega) h3
      | succ d ih =>
        intro p hpd hp hno
        by_cases q : i + 2 * p < w.length
        · obtain ⟨M, g1, g2, g3⟩ := l10_ev w i p hp hw (by omega)
          refine Ev.step (fun k => by simp only [spec_HasOverlap.l1]; rw [w_id (a := 2 * (p : Int)) (by omega) (by omega), w_id (a := (i : Int) + (2 * (p : Int))) (by omega) (by omega), _root_.if_pos (by omega)]) ?_
          refine Ev.bind g3 ?_
          refine Ev.ite (fun c => ?_) (fun c => ?_)
          · refine Ev.same (Ev.some true) ?_
            cases r with
            | true => rfl
            | false => exact absurd (show p < M by omega) (hr1 rfl p M hp g1)
          · refine Ev.congr (fun k => by rw [wsucc (by omega)]) (ih (p + 1) (by omega) (by omega) (fun q' L h1 h2 h4 h5 => ?_))
            by_cases e : q' = p
            · subst e
              rcases Nat.lt_or_ge M L with hlt | hge
              · exact absurd (per_le h4 (show M + 1 ≤ L from hlt)) g2
              · omega
            · exact hno q' L h1 (by omega) h4 h5
        · refine Ev.step (fun k => by simp only [spec_HasOverlap.l1]; rw [w_id (a := 2 * (p : Int)) (by omega) (by omega), w_id (a := (i : Int) + (2 * (p : Int))) (by omega) (by omega), _root_.if_neg (by omega), wsucc (by omega)]) (hr (fun q' L h1 h3 => ?_))
          by_cases e : q' < p
          · exact hno q' L h1 e h3
          · exact big q' L (by omega) h3
    have outer : ∀ r : Bool, (r = true ↔ OV w) → ∀ i, i ≤ w.length → (∀ j p L, j < i → 1 ≤ p → per w p j L → ¬ p < L) → Ev (fun k => spec_HasOverlap.l0 k w (i : Int)) r := by
      intro r hr
      refine down w.length ?_ ?_
      · intro hno
        refine Ev.step (fun k => by simp only [spec_HasOverlap.l0]; rw [_root_.if_neg (by omega)]) ?_
        refine Ev.step (fun k => by simp only [spec_HasOverlap.j1]; rw [_root_.if_neg (by decide)]) (Ev.same (Ev.some false) ?_)
        cases r with
        | false => rfl
        | true =>
          obtain ⟨_, i, p, L, h1, h3, h4⟩ := hr.1 rfl
          exact absurd h4 (hno i p L (by have := per_bound h3 (by omega); omega) h1 h3)
      · intro i hi ih hno
        refine Ev.step (fun k => by simp only [spec_HasOverlap.l0]; rw [_root_.if_pos (by omega), decide_eq_true (by omega)]) ?_
        refine Ev.step (fun k => by simp only [spec_HasOverlap.j1]; rw [_root_.if_pos trivial]) ?_
        refine inner i r hi (fun h => ih (fun j p L hj h1 h3 => ?_)) (fun e p L h1 h3 h4 => ?_) (w.length - 1) 1 (by omega) (Nat.le_refl _) (fun q L h1 h2 => by omega)
        · by_cases e : j = i
          · subst e; exact h p L h1 h3
          · exact hno j p L (by omega) h1 h3
        · have := hr.2 ⟨h128, i, p, L, h1, h3, h4⟩; rw [e] at this; cases this
    exact outer _ (hasOverlap_iff w) 0 (by omega) (fun j p L h => by omega)
  · have hf : hasOverlap w = false := hasOverlap_no _ (fun h => h128 h.1)
    rw [hf]
    refine Ev.step (fun k => by simp only [spec_HasOverlap.l0]; rw [_root_.if_pos (by omega), decide_eq_false (by omega)]) ?_
    exact Ev.step (fun k => by simp only [spec_HasOverlap.j1]; rw [_root_.if_neg (by decide)]) (Ev.some _)
end Go.Proofs.Ytooamcjgejajeaa.M
/- Walks for this claim, written by a program of mine over the kit's print. No condition of mine. -/
namespace Go.Proofs.Ytooamcjgejajeaa.M
open Go.RowKit Go.Proofs.Ytooamcjgejajeaa.KW Go.Proofs.YtooamcjgejajeaaW.PrintWords Go.Proofs.YtooamcjgejajeaaW.PrintLast Go.Proofs.YtooamcjgejajeaaW.PrintMore
attribute [local go_sem] max2_int min2_int max_two min_two max_three min_three max_four min_four   -- for this text's walks alone
set_option linter.unusedVariables false
set_option linter.unusedSimpArgs false

/-! ### spec_ApplyMorphism: function 95 -/
mutual
def spec_ApplyMorphism.j0 : Nat → List Int → List Int → Bool → List (List Int) → Option (List Int × Bool)
 | 0, _, _, _, _ => none
 | k + 1, x1, x6, x19, x378000 => if x19 = true then (some (x6, false)) else (spec_ApplyMorphism.l0 k x1 x6 0 x378000)
def spec_ApplyMorphism.l0 : Nat → List Int → List Int → Int → List (List Int) → Option (List Int × Bool)
 | 0, _, _, _, _ => none
 | k + 1, x1, x6, x7, x378000 => if x7 < (x1.length : Int) then (if 0 ≤ x7 then (if 0 ≤ (rd x1 x7) then (if (rd x1 x7) < (x378000.length : Int) then (if x6.length + (rd_L1 x378000 (rd x1 x7)).length < 17592186044416 then ((some (x6 ++ (rd_L1 x378000 (rd x1 x7)) : List Int)).bind fun y385 => (if (y385.length : Int) > 400 then (some ((([] : List Int)), false)) else (spec_ApplyMorphism.l0 k x1 y385 (wrap64 (x7 + 1)) x378000))) else (none)) else (none)) else (none)) else (none)) else (some (x6, true))
end
def spec_ApplyMorphism.f (k : Nat) (l0_0 : List (List Int)) (l1 : List Int) : Option (List Int × Bool) := (some (([] : List Int) : List Int)).bind fun y378 => ((spec_IsMorphism.f k l0_0).bind fun t381 => (if t381 = true then ((spec_IsWord.f k l1 (l0_0.length : Int)).bind fun t382 => (spec_ApplyMorphism.j0 k l1 y378 (!t382) l0_0)) else (spec_ApplyMorphism.j0 k l1 y378 true l0_0)))
theorem spec_ApplyMorphism.mono_l : ∀ k, (∀ y0 y1 y2 y3, LeO (spec_ApplyMorphism.j0 k y0 y1 y2 y3) (spec_ApplyMorphism.j0 (k + 1) y0 y1 y2 y3)) ∧ (∀ y0 y1 y2 y3, LeO (spec_ApplyMorphism.l0 k y0 y1 y2 y3) (spec_ApplyMorphism.l0 (k + 1) y0 y1 y2 y3))
 | 0 => ⟨fun _ _ _ _ r h => by simp [spec_ApplyMorphism.j0] at h, fun _ _ _ _ r h => by simp [spec_ApplyMorphism.l0] at h⟩
 | k + 1 => by
  obtain ⟨ih0, ih1⟩ := spec_ApplyMorphism.mono_l k
  refine ⟨?_, ?_⟩
  ·intro y0 y1 y2 y3
   unfold spec_ApplyMorphism.j0
   repeat' first
   | (with_reducible exact ih0 _ _ _ _)
   | (with_reducible exact ih1 _ _ _ _)
   | (with_reducible exact spec_IsMorphism.mono _ _)
   | (with_reducible exact spec_IsWord.mono _ _ _)
   | (with_reducible exact LeO.refl _)
   | (with_reducible exact LeO.none _)
   | (with_reducible refine LeO.ite ?_ ?_)
   | (with_reducible refine LeO.bind ?_ (fun _ => ?_))
   | exact ih0 _ _ _ _
   | exact ih1 _ _ _ _
   | exact spec_IsMorphism.mono _ _
   | exact spec_IsWord.mono _ _ _
   | exact LeO.none _
   | refine LeO.ite ?_ ?_
   | refine LeO.bind ?_ (fun _ => ?_)
  ·intro y0 y1 y2 y3
   unfold spec_ApplyMorphism.l0
   repeat' first
   | (with_reducible exact ih0 _ _ _ _)
   | (with_reducible exact ih1 _ _ _ _)
   | (with_reducible exact spec_IsMorphism.mono _ _)
   | (with_reducible exact spec_IsWord.mono _ _ _)
   | (with_reducible exact LeO.refl _)
   | (with_reducible exact LeO.none _)
   | (with_reducible refine LeO.ite ?_ ?_)
   | (with_reducible refine LeO.bind ?_ (fun _ => ?_))
   | exact ih0 _ _ _ _
   | exact ih1 _ _ _ _
   | exact spec_IsMorphism.mono _ _
   | exact spec_IsWord.mono _ _ _
   | exact LeO.none _
   | refine LeO.ite ?_ ?_
   | refine LeO.bind ?_ (fun _ => ?_)
theorem spec_ApplyMorphism.mono : ∀ a0 a1 k, LeO (spec_ApplyMorphism.f k a0 a1) (spec_ApplyMorphism.f (k + 1) a0 a1) := by
 intro a0 a1 k
 obtain ⟨ih0, ih1⟩ := spec_ApplyMorphism.mono_l k
 unfold spec_ApplyMorphism.f
 repeat' first
   | (with_reducible exact ih0 _ _ _ _)
   | (with_reducible exact ih1 _ _ _ _)
   | (with_reducible exact spec_IsMorphism.mono _ _)
   | (with_reducible exact spec_IsWord.mono _ _ _)
   | (with_reducible exact LeO.refl _)
   | (with_reducible exact LeO.none _)
   | (with_reducible refine LeO.ite ?_ ?_)
   | (with_reducible refine LeO.bind ?_ (fun _ => ?_))
   | exact ih0 _ _ _ _
   | exact ih1 _ _ _ _
   | exact spec_IsMorphism.mono _ _
   | exact spec_IsWord.mono _ _ _
   | exact LeO.none _
   | refine LeO.ite ?_ ?_
   | refine LeO.bind ?_ (fun _ => ?_)
def spec_ApplyMorphism.T7 : Bool × List (List Nat × List Nat) := (true, [([], []), ([], []), ([1], [1]), ([], []), ([], []), ([3, 4], [3, 4]), ([5], [5]), ([2, 6], [2, 6]), ([7], [7]), ([0, 8], [0, 8]), ([9, 9, 0, 1, 2, 3, 4, 5, 6, 7, 8, 9], [0, 9])])
def spec_ApplyMorphism.B7 : List Nat := [0, 0, 2, 0, 0, 24, 56, 126, 254, 511, 1023]
theorem spec_ApplyMorphism.tab7 : rtab .any (opsOf Try.f95 7) = spec_ApplyMorphism.T7 := by kernel_rfl
theorem spec_ApplyMorphism.bits7 : waitsOk spec_ApplyMorphism.T7.2 spec_ApplyMorphism.B7 = true := by kernel_rfl
set_option maxHeartbeats 8000000 in
set_option maxRecDepth 100000 in
theorem spec_ApplyMorphism.calls (k : Nat) (A0_0 : Option Addr) (c0_0 : Nat) (l0_0 : List (List Int)) (A1 : Option Addr) (c1 : Nat) (l1 : List Int) (r1 : List Int) (r2 : Bool) (w : World) (hr0_0 : Kd.C (Kd.slice 3 (Kd.int .i64)) w A0_0 l0_0.length l0_0) (hc0_0 : l0_0.length ≤ c0_0) (hr1 : Kd.C (Kd.int .i64) w A1 l1.length l1) (hc1 : l1.length ≤ c1) (h : spec_ApplyMorphism.f k l0_0 l1 = some (r1, r2)) :
  Calls Try.prog 95 #[.agg #[.slice A0_0 l0_0.length c0_0], .slice A1 l1.length c1] w fun e w' => ∃ v0_ : Value, e = .returned (.tuple #[v0_, .bool r2]) ∧ Kd.R (Kd.int .i64) 3 w' w.heap.size (fun _ => True) v0_ r1 ∧ Below w.heap.size w w' := by
 have hu28 := Try.underlying28
 have HR0_0 := Aside0.mk hr0_0
 have HC0_0 := Aside0.mk hc0_0
 clear hr0_0 hc0_0
 have HR1 := Aside0.mk hr1
 have HC1 := Aside0.mk hc1
 clear hr1 hc1
 have HB := Aside0.mk (Below.refl w.heap.size w)
 have H : ((some (([] : List Int) : List Int)).bind fun y378 => ((spec_IsMorphism.f k l0_0).bind fun t381 => (if t381 = true then ((spec_IsWord.f k l1 (l0_0.length : Int)).bind fun t382 => (spec_ApplyMorphism.j0 k l1 y378 (!t382) l0_0)) else (spec_ApplyMorphism.j0 k l1 y378 true l0_0)))) = some (r1, r2) := h
 clear h
 obtain ⟨y378, hy378⟩ : ∃ y_ : List Int, y_ = (([] : List Int)) := ⟨_, rfl⟩
 replace H : ((spec_IsMorphism.f k l0_0).bind fun t381 => (if t381 = true then ((spec_IsWord.f k l1 (l0_0.length : Int)).bind fun t382 => (spec_ApplyMorphism.j0 k l1 y378 (!t382) l0_0)) else (spec_ApplyMorphism.j0 k l1 y378 true l0_0))) = some (r1, r2) := by first | (rw [hy378]; with_reducible exact H) | (have H2_ := (Option.bind_some _ _).symm.trans H; rw [hy378]; with_reducible exact H2_) | (have H2_ := (Option.bind_some _ _).symm.trans H; with_reducible exact H2_) | with_reducible exact H | (rw [hy378]; exact H) | exact H
 have Ny378 := Aside0.mk hy378
 clear hy378
 have HC3 := Aside0.mk H
 clear H
 go_enter Try.func95, Try.ntmps95
 go_upto_region 2 with (first | ((with_reducible refine gate_dst (N := 2) rfl ?_); (try (refine gate_guard (by rfl) ?_; dsimp only)); refine box_event ?hg (N := 2) ?hd (cs := #[.slice A0_0 l0_0.length c0_0]) (t := 28) ?hr ?_; (case hd => rfl); (case hg => rfl); (case hr => first | (go_simp; done) | (go_simp; rfl)); intro gb377 hg w4 hbox hb; have n0_ := Aside0.mk (below_step (by repeat (first | (with_reducible first | exact HB.out | apply below_alloc | apply pw_below_drewN | apply below_drew1) | exact HB.out)) hb); have n1_ := Aside0.mk (hbox); have n2_ := Aside0.mk ((by rw [hg]; exact (below_size (by repeat (first | (with_reducible first | exact HB.out | apply below_alloc | apply pw_below_drewN | apply below_drew1) | exact HB.out))) : w.heap.size ≤ gb377)); have n3_ := Aside0.mk ((by rw [hg]; exact (below_size (by repeat (first | (with_reducible first | exact HB.out | apply below_alloc | apply pw_below_drewN | apply below_drew1) | exact HB.out))) : w.heap.size ≤ gb377)); clear HB; have HB := n0_; have BK377 := n1_; have GW377 := n2_; have GE377 := n3_; clear n0_ n1_ n2_ n3_; clear hb hbox hg) | ((with_reducible refine gate_dst (N := 8) rfl ?_); (try (refine gate_guard (by rfl) ?_; dsimp only)); refine Kd.R_lit (Kd.int .i64) _ 3 ?hg (N := 8) ?hd (xs := ([] : List Int)) (inner := []) (ok := fun _ => True) (okp := fun _ => True) ?hr ?hp (fun _ hk => hk) trivial (Below.refl _ _) (Nat.le_refl _) (by simp) ?_; (case hd => rfl); (case hg => rfl); (case hr => first | (go_simp; done) | (go_simp; rfl)); (case hp => exact (Reps.none _ _)); intro v379 w5 ho6 hb hg_ hnew_; clear hg_ hnew_; (first | rw [← Ny378.out] at ho6 | (simp only [Int.reduceToNat] at ho6; rw [← Ny378.out] at ho6)); have n0_ := Aside0.mk (Kd.R_lower ho6 (below_size (by repeat (first | (with_reducible first | exact HB.out | apply below_alloc | apply pw_below_drewN | apply below_drew1 | refine below_set ?_ GE377.out) | exact HB.out)))); have n1_ := Aside0.mk (blk_below (g := gb377) (o := .cells #[.slice A0_0 l0_0.length c0_0] 28 (0, 0)) (by (with_reducible repeat (first | refine blk_drewN ?_ _ | refine blk_drew ?_ | refine blk_alloc ?_ _)); exact BK377.out) hb); have n2_ := Aside0.mk (below_step (by repeat (first | (with_reducible first | exact HB.out | apply below_alloc | apply pw_below_drewN | apply below_drew1 | refine below_set ?_ GE377.out) | exact HB.out)) hb); clear BK377; clear HB; have HO380 := n0_; have BK377 := n1_; have HB := n2_; clear n0_ n1_ n2_; clear hb ho6))
 (try simp only [Act.put, List.setIfInBounds_toArray, List.set_cons_zero, List.set_cons_succ])
 go_cut [19] (fun v19 wc => ∃ (kq : Nat) (x19_2 : Bool), v19 = .bool x19_2 ∧ Aside0 (spec_ApplyMorphism.j0 kq l1 y378 x19_2 l0_0 = some (r1, r2)) ∧ Aside0 (kq ≤ k) ∧ Aside0 (Kd.R (Kd.int .i64) 3 wc w.heap.size (fun _ => True) v379 y378) ∧ Aside0 (wc.heap[gb377]? = some (.cells #[(.slice A0_0 l0_0.length c0_0)] 28 (0, 0))) ∧ Aside0 (Below w.heap.size w wc))
 case first =>
  have H := HC3.out
  clear HC3
  replace H := Option.bind_eq_some_iff.mp H
  obtain ⟨t381, A70, H⟩ := H
  replace H : (if t381 = true then ((spec_IsWord.f k l1 (l0_0.length : Int)).bind fun t382 => (spec_ApplyMorphism.j0 k l1 y378 (!t382) l0_0)) else (spec_ApplyMorphism.j0 k l1 y378 true l0_0)) = some (r1, r2) := H
  have A7 := Aside0.mk A70
  clear A70
  by_cases c8 : t381 = true
  ·subst c8
   have H1 : ((spec_IsWord.f k l1 (l0_0.length : Int)).bind fun t382 => (spec_ApplyMorphism.j0 k l1 y378 (!t382) l0_0)) = some (r1, r2) := by rw [if_pos rfl] at H; exact H
   clear H
   have H := H1
   clear H1
   replace H := Option.bind_eq_some_iff.mp H
   obtain ⟨t382, A90, H⟩ := H
   replace H : (spec_ApplyMorphism.j0 k l1 y378 (!t382) l0_0) = some (r1, r2) := H
   have A9 := Aside0.mk A90
   clear A90
   have H' := Aside0.mk H
   clear H
   have hcz10_0 : w5.cell? ⟨gb377, 0, none⟩ = some (.slice A0_0 l0_0.length c0_0) := (blk_cell BK377.out 0).trans rfl
   have hfz10_0 := blk_frozen BK377.out 0
   go_wp2_with (first | ((with_reducible refine gate_callee (f := 109) rfl ?_); refine goesL_ (some 10) rfl rfl Try.func109 (by kernel_rfl) rfl #[.agg #[.slice A0_0 l0_0.length c0_0]] rfl (by (try simp only [List.map_toArray, List.map_cons, List.map_nil]); first | done | rfl | (simp only [List.length_drop, List.length_take]; rfl)) ?_; (with_reducible refine (spec_IsMorphism.calls k _ _ l0_0 true _ ?side1 ?side2 A7.out).mono ?_); (case side1 => repeat (first | exact (Kd.C_below HR0_0.out HB.out) | (with_reducible refine Kd.C_alloc ?_ _) | (with_reducible refine Kd.C_drewN ?_ _) | (with_reducible refine Kd.C_drew ?_))); (case side2 => exact HC0_0.out); rintro e w11 ⟨rfl, hb⟩; refine ⟨_, rfl, ?_⟩; have n0_ := Aside0.mk (Kd.R_below (by (with_reducible repeat (first | apply Kd.R_alloc | apply Kd.R_drewN | apply Kd.R_drew)); exact HO380.out) hb); have n1_ := Aside0.mk (blk_below (g := gb377) (o := .cells #[.slice A0_0 l0_0.length c0_0] 28 (0, 0)) (by (with_reducible repeat (first | refine blk_drewN ?_ _ | refine blk_drew ?_ | refine blk_alloc ?_ _)); exact BK377.out) hb); have n2_ := Aside0.mk (below_step (by repeat (first | (with_reducible first | exact HB.out | apply below_alloc | apply pw_below_drewN | apply below_drew1 | refine below_set ?_ GE377.out) | exact HB.out)) hb); clear HO380; clear BK377; clear HB; have HO380 := n0_; have BK377 := n1_; have HB := n2_; clear n0_ n1_ n2_; (try clear hb); (try clear hb2); (try clear hk); (try clear hi); have hcz12_0 : w11.cell? ⟨gb377, 0, none⟩ = some (.slice A0_0 l0_0.length c0_0) := (blk_cell BK377.out 0).trans rfl; have hfz12_0 := blk_frozen BK377.out 0) | (go_at_call 129; (with_reducible refine (spec_IsWord.calls k _ _ l1 (l0_0.length : Int) t382 _ ?side1 ?side2 A9.out).mono ?_); (case side1 => repeat (first | exact (Kd.C_below HR1.out HB.out) | (with_reducible refine Kd.C_alloc ?_ _) | (with_reducible refine Kd.C_drewN ?_ _) | (with_reducible refine Kd.C_drew ?_))); (case side2 => exact HC1.out); rintro e w' ⟨rfl, ⟨nd, rfl⟩⟩))
   go_meet
   case rel => exact ⟨_, (!t382), (by first | rfl | (simp; done) | (simp [*]; done)), H', ⟨by first | omega | exact Nat.le_refl _⟩, ⟨by (with_reducible repeat (first | apply Kd.R_alloc | apply Kd.R_drewN | apply Kd.R_drew)); exact HO380.out⟩, ⟨by (with_reducible repeat (first | refine blk_drewN ?_ _ | refine blk_drew ?_ | refine blk_alloc ?_ _)); exact BK377.out⟩, ⟨by repeat (first | (with_reducible first | exact HB.out | apply below_alloc | apply pw_below_drewN | apply below_drew1 | refine below_set ?_ GE377.out) | exact HB.out)⟩⟩
  ·replace c8 := Bool.eq_false_iff.mpr c8
   subst c8
   have H1 : (spec_ApplyMorphism.j0 k l1 y378 true l0_0) = some (r1, r2) := by rw [if_neg (show ¬ (false = true) by decide)] at H; exact H
   clear H
   have H := H1
   clear H1
   have H' := Aside0.mk H
   clear H
   have hcz13_0 : w5.cell? ⟨gb377, 0, none⟩ = some (.slice A0_0 l0_0.length c0_0) := (blk_cell BK377.out 0).trans rfl
   have hfz13_0 := blk_frozen BK377.out 0
   go_wp2_with (first | ((with_reducible refine gate_callee (f := 109) rfl ?_); refine goesL_ (some 10) rfl rfl Try.func109 (by kernel_rfl) rfl #[.agg #[.slice A0_0 l0_0.length c0_0]] rfl (by (try simp only [List.map_toArray, List.map_cons, List.map_nil]); first | done | rfl | (simp only [List.length_drop, List.length_take]; rfl)) ?_; (with_reducible refine (spec_IsMorphism.calls k _ _ l0_0 false _ ?side1 ?side2 A7.out).mono ?_); (case side1 => repeat (first | exact (Kd.C_below HR0_0.out HB.out) | (with_reducible refine Kd.C_alloc ?_ _) | (with_reducible refine Kd.C_drewN ?_ _) | (with_reducible refine Kd.C_drew ?_))); (case side2 => exact HC0_0.out); rintro e w14 ⟨rfl, hb⟩; refine ⟨_, rfl, ?_⟩; have n0_ := Aside0.mk (Kd.R_below (by (with_reducible repeat (first | apply Kd.R_alloc | apply Kd.R_drewN | apply Kd.R_drew)); exact HO380.out) hb); have n1_ := Aside0.mk (blk_below (g := gb377) (o := .cells #[.slice A0_0 l0_0.length c0_0] 28 (0, 0)) (by (with_reducible repeat (first | refine blk_drewN ?_ _ | refine blk_drew ?_ | refine blk_alloc ?_ _)); exact BK377.out) hb); have n2_ := Aside0.mk (below_step (by repeat (first | (with_reducible first | exact HB.out | apply below_alloc | apply pw_below_drewN | apply below_drew1 | refine below_set ?_ GE377.out) | exact HB.out)) hb); clear HO380; clear BK377; clear HB; have HO380 := n0_; have BK377 := n1_; have HB := n2_; clear n0_ n1_ n2_; (try clear hb); (try clear hb2); (try clear hk); (try clear hi)))
   go_meet
   case rel => exact ⟨_, (true), (by first | rfl | (simp; done) | (simp [*]; done)), H', ⟨by first | omega | exact Nat.le_refl _⟩, ⟨by (with_reducible repeat (first | apply Kd.R_alloc | apply Kd.R_drewN | apply Kd.R_drew)); exact HO380.out⟩, ⟨by (with_reducible repeat (first | refine blk_drewN ?_ _ | refine blk_drew ?_ | refine blk_alloc ?_ _)); exact BK377.out⟩, ⟨by repeat (first | (with_reducible first | exact HB.out | apply below_alloc | apply pw_below_drewN | apply below_drew1 | refine below_set ?_ GE377.out) | exact HB.out)⟩⟩
 case rest =>
  clear HC3
  try clear c1
  try clear p2
  try clear c8
  try clear c9
  try clear c10
  try clear hcz10_0
  try clear hcz12_0
  try clear hcz13_0
  try clear hfz10_0
  try clear hfz12_0
  try clear hfz13_0
  obtain ⟨kq, x19_2, rfl, HA, HJ2, HO_6, BK377, HB⟩ := hcut
  cases kq with
  | zero => exact absurd HA.out (by simp [spec_ApplyMorphism.j0])
  | succ kj2 =>
   have H := HA.out
   clear HA
   simp only [spec_ApplyMorphism.j0] at H
   by_cases c15 : x19_2 = true
   ·subst c15
    have H1 : (some (y378, false)) = some (r1, r2) := by rw [if_pos rfl] at H; exact H
    clear H
    have H := H1
    clear H1
    simp only [Option.some.injEq, Prod.mk.injEq] at H
    obtain ⟨rfl, rfl⟩ := H
    go_wp2
    go_ret2
    exact ⟨_, by first | rfl | (simp [errW_none, errW_some] <;> rfl) | (simp [*, errW_none, errW_some] <;> rfl), by (with_reducible repeat (first | apply Kd.R_alloc | apply Kd.R_drewN | apply Kd.R_drew)); exact HO_6.out, by repeat (first | (with_reducible first | exact HB.out | apply below_alloc | apply pw_below_drewN | apply below_drew1 | refine below_set ?_ GE377.out) | exact HB.out)⟩
   ·replace c15 := Bool.eq_false_iff.mpr c15
    subst c15
    have H1 : (spec_ApplyMorphism.l0 kj2 l1 y378 0 l0_0) = some (r1, r2) := by rw [if_neg (show ¬ (false = true) by decide)] at H; exact H
    clear H
    have H := H1
    clear H1
    have H' := Aside0.mk H
    clear H
    go_wp2
    go_loopg [6, 7] kj2 (fun kq v6 v7 w' => ∃ (x6_2 : List Int) (x7_2 : Int), v7 = .int .i64 x7_2 ∧ Aside0 (spec_ApplyMorphism.l0 kq l1 x6_2 x7_2 l0_0 = some (r1, r2)) ∧ Aside0 (kq ≤ kj2) ∧ Aside0 (Kd.R (Kd.int .i64) 3 w' w.heap.size (fun _ => True) v6 x6_2) ∧ Aside0 (w'.heap[gb377]? = some (.cells #[(.slice A0_0 l0_0.length c0_0)] 28 (0, 0))) ∧ Aside0 (Below w.heap.size w w'))
    case atStart => exact ⟨(y378), (0), (by first | rfl | (simp; done) | (simp [*]; done)), H', ⟨Nat.le_refl _⟩, ⟨by (with_reducible repeat (first | apply Kd.R_alloc | apply Kd.R_drewN | apply Kd.R_drew)); exact HO_6.out⟩, ⟨by (with_reducible repeat (first | refine blk_drewN ?_ _ | refine blk_drew ?_ | refine blk_alloc ?_ _)); exact BK377.out⟩, ⟨by repeat (first | (with_reducible first | exact HB.out | apply below_alloc | apply pw_below_drewN | apply below_drew1 | refine below_set ?_ GE377.out) | exact HB.out)⟩⟩
    case round =>
     clear H'
     try clear c1
     try clear p2
     try clear c8
     try clear c9
     try clear c10
     try clear c15
     try clear hcz10_0
     try clear hcz12_0
     try clear hcz13_0
     try clear hfz10_0
     try clear hfz12_0
     try clear hfz13_0
     try clear p2
     obtain ⟨x6_2, x7_2, rfl, HA, HK2, HO_6, BK377, HB⟩ := hrel
     cases gk with
     | zero => exact absurd HA.out (by simp [spec_ApplyMorphism.l0])
     | succ k2 =>
      have H := HA.out
      clear HA
      simp only [spec_ApplyMorphism.l0] at H
      by_cases c16 : x7_2 < (l1.length : Int)
      ·rw [if_pos c16] at H
       have c16b0 : decide (x7_2 < (l1.length : Int)) = true := decide_eq_true c16
       clear c16
       by_cases c17 : 0 ≤ x7_2
       ·rw [if_pos c17] at H
        have c17b0 : decide (0 ≤ x7_2) = true := decide_eq_true c17
        clear c17
        by_cases c18 : 0 ≤ (rd l1 x7_2)
        ·rw [if_pos c18] at H
         have c18b0 : decide (0 ≤ (rd l1 x7_2)) = true := decide_eq_true c18
         clear c18
         by_cases c19 : (rd l1 x7_2) < (l0_0.length : Int)
         ·rw [if_pos c19] at H
          have c19b0 : decide ((rd l1 x7_2) < (l0_0.length : Int)) = true := decide_eq_true c19
          clear c19
          by_cases c20 : x6_2.length + (rd_L1 l0_0 (rd l1 x7_2)).length < 17592186044416
          ·rw [if_pos c20] at H
           have LMc20 := Aside0.mk c20
           clear c20
           obtain ⟨y385, hy385⟩ : ∃ y_ : List Int, y_ = (x6_2 ++ (rd_L1 l0_0 (rd l1 x7_2))) := ⟨_, rfl⟩
           replace H : (if (y385.length : Int) > 400 then (some ((([] : List Int)), false)) else (spec_ApplyMorphism.l0 k2 l1 y385 (wrap64 (x7_2 + 1)) l0_0)) = some (r1, r2) := by first | (rw [hy385]; with_reducible exact H) | (have H2_ := (Option.bind_some _ _).symm.trans H; rw [hy385]; with_reducible exact H2_) | (have H2_ := (Option.bind_some _ _).symm.trans H; with_reducible exact H2_) | with_reducible exact H | (rw [hy385]; exact H) | exact H
           have Ny385 := Aside0.mk hy385
           clear hy385
           by_cases c21 : (y385.length : Int) > 400
           ·rw [if_pos c21] at H
            have c21b0 : decide (400 < (y385.length : Int)) = true := decide_eq_true c21
            have c21b1 : decide (400 < y385.length) = true := decide_eq_true (by omega)
            clear c21
            obtain ⟨y388, hy388⟩ : ∃ y_ : List Int, y_ = (([] : List Int)) := ⟨_, rfl⟩
            replace H : (some (y388, false)) = some (r1, r2) := by first | (rw [hy388]; with_reducible exact H) | (have H2_ := (Option.bind_some _ _).symm.trans H; rw [hy388]; with_reducible exact H2_) | (have H2_ := (Option.bind_some _ _).symm.trans H; with_reducible exact H2_) | with_reducible exact H | (rw [hy388]; exact H) | exact H
            have Ny388 := Aside0.mk hy388
            clear hy388
            simp only [Option.some.injEq, Prod.mk.injEq] at H
            obtain ⟨rfl, rfl⟩ := H
            try go_wp2
            have n0_ := Aside0.mk (Kd.R_drew HO_6.out)
            have n1_ := Aside0.mk (blk_drew BK377.out)
            have n2_ := Aside0.mk (below_drew1 HB.out)
            clear HO_6
            clear BK377
            clear HB
            have HO_6 := n0_
            have BK377 := n1_
            have HB := n2_
            clear n0_ n1_ n2_
            have p383 : 0 ≤ (x7_2 : Int) := of_decide_eq_true (by first | (with_reducible assumption) | assumption)
            have q383 : x7_2 < (l1.length : Int) := of_decide_eq_true (by first | (with_reducible assumption) | assumption)
            obtain ⟨ad383, e383, hx383_0⟩ := Kd.at_int HR1.out x7_2 p383 q383
            have hw383_0 := hx383_0
            cases e383
            replace hx383_0 := (HB.out.cell (World.block_lt_of_cell? w _ hx383_0)).trans hx383_0
            replace p383 := eq_true p383
            replace q383 := eq_true q383
            have p384 : 0 ≤ ((rd l1 x7_2) : Int) := of_decide_eq_true (by first | (with_reducible assumption) | assumption)
            have q384 : (rd l1 x7_2) < (l0_0.length : Int) := of_decide_eq_true (by first | (with_reducible assumption) | assumption)
            obtain ⟨ad384, A384_0, c384_0, e384, hx384_0, hl384_0, hi384_0⟩ := at_L1 HR0_0.out (rd l1 x7_2) p384 q384
            have hw384_0 := hx384_0
            cases e384
            replace hx384_0 := (HB.out.cell (World.block_lt_of_cell? w _ hx384_0)).trans hx384_0
            have HR384_0 := Aside0.mk hi384_0
            have HC384_0 := Aside0.mk hl384_0
            clear hi384_0 hl384_0
            replace p384 := eq_true p384
            replace q384 := eq_true q384
            refine start_ (n := 11) (S := fun w' => w'.cell? ⟨gb377, 0, none⟩ = some (.slice (some ad384) l0_0.length c0_0) ∧ w'.cell? (ad383.add (x7_2).toNat) = some (.int .i64 (rd l1 x7_2)) ∧ w'.cell? (ad384.add ((rd l1 x7_2)).toNat) = some (.slice A384_0 (rd_L1 l0_0 (rd l1 x7_2)).length c384_0)) (ds := []) #[false, false, false, false, false, false, false, false, false, false, false] (by kernel_rfl) rfl rfl ⟨(blk_cell BK377.out 0).trans rfl, ((HB.out.cell (World.block_lt_of_cell? w _ hw383_0)).trans hw383_0), ((HB.out.cell (World.block_lt_of_cell? w _ hw384_0)).trans hw384_0)⟩ (fun hHeld => ?_); refine with_tabW spec_ApplyMorphism.tab7 spec_ApplyMorphism.bits7 (fun HT_ HW_ => ?_)
            generalize wr.drew = w22 at HO_6 BK377 HB HR384_0 hx383_0 hx384_0 hHeld ⊢
            refine pure_ (i := 0) (N := some 27) (v := ?_) (a' := ?_) #[true, false, false, false, false, false, false, false, false, false, false] rfl rfl (any_of HT_.out (by kernel_rfl)) (fun _ _ _ h => h) (Or.inl ⟨by rfl, ?_⟩) ?_ ?_
            rotate_left
            ·intro w'
             go_simp
             with_reducible rfl
            rotate_left
            ·simp only [Act.put, List.setIfInBounds_toArray, List.set_cons_zero, List.set_cons_succ, i64_w, i32_w]
             rfl
            refine pure_ (i := 1) (N := some 28) (v := ?_) (a' := ?_) #[true, true, false, false, false, false, false, false, false, false, false] rfl rfl (any_of HT_.out (by kernel_rfl)) (fun _ _ _ h => h) (Or.inl ⟨by rfl, ?_⟩) ?_ ?_
            rotate_left
            ·intro w'
             go_simp
             with_reducible rfl
            rotate_left
            ·simp only [Act.put, List.setIfInBounds_toArray, List.set_cons_zero, List.set_cons_succ, i64_w, i32_w]
             rfl
            refine pure_ (i := 3) (N := some 30) (v := ?_) (a' := ?_) #[true, true, false, true, false, false, false, false, false, false, false] rfl rfl (any_of HT_.out (by kernel_rfl)) (fun _ _ _ h => h) (Or.inl ⟨by rfl, ?_⟩) ?_ ?_
            rotate_left
            ·intro w'
             go_simp
             with_reducible rfl
            rotate_left
            ·simp only [Act.put, List.setIfInBounds_toArray, List.set_cons_zero, List.set_cons_succ, i64_w, i32_w]
             rfl
            refine pure_ (i := 4) (N := some 31) (v := ?_) (a' := ?_) #[true, true, false, true, true, false, false, false, false, false, false] rfl rfl (any_of HT_.out (by kernel_rfl)) (fun _ _ _ h => h) (Or.inl ⟨by rfl, ?_⟩) ?_ ?_
            rotate_left
            ·intro w'
             go_simp
             with_reducible rfl
            rotate_left
            ·simp only [Act.put, List.setIfInBounds_toArray, List.set_cons_zero, List.set_cons_succ, i64_w, i32_w]
             rfl
            refine pure_ (i := 5) (N := some 32) (v := ?_) (a' := ?_) #[true, true, false, true, true, true, false, false, false, false, false] rfl rfl (any_of HT_.out (by kernel_rfl)) (fun _ _ _ h => h) (Or.inl ⟨by rfl, ?_⟩) ?_ ?_
            rotate_left
            ·intro w'
             go_simp
             with_reducible rfl
            rotate_left
            ·simp only [Act.put, List.setIfInBounds_toArray, List.set_cons_zero, List.set_cons_succ, i64_w, i32_w]
             rfl
            refine take_ (i := 2) (N := some 29) (v := ?_) (a' := ?_) #[true, true, true, true, true, true, false, false, false, false, false] rfl rfl (take_ofW HT_.out HW_.out (by kernel_rfl)) (fun _ _ _ h => h) (Or.inl ⟨by rfl, ?_⟩) hHeld ?_ ?_
            rotate_left
            ·rintro w' ⟨s0, s1, s2⟩
             go_simp
             with_reducible rfl
            rotate_left
            ·simp only [Act.put, List.setIfInBounds_toArray, List.set_cons_zero, List.set_cons_succ, i64_w, i32_w]
             rfl
            refine take_ (i := 6) (N := some 33) (v := ?_) (a' := ?_) #[true, true, true, true, true, true, true, false, false, false, false] rfl rfl (take_ofW HT_.out HW_.out (by kernel_rfl)) (fun _ _ _ h => h) (Or.inl ⟨by rfl, ?_⟩) hHeld ?_ ?_
            rotate_left
            ·rintro w' ⟨s0, s1, s2⟩
             go_simp
             with_reducible rfl
            rotate_left
            ·simp only [Act.put, List.setIfInBounds_toArray, List.set_cons_zero, List.set_cons_succ, i64_w, i32_w]
             rfl
            refine pure_ (i := 7) (N := some 34) (v := ?_) (a' := ?_) #[true, true, true, true, true, true, true, true, false, false, false] rfl rfl (any_of HT_.out (by kernel_rfl)) (fun _ _ _ h => h) (Or.inl ⟨by rfl, ?_⟩) ?_ ?_
            rotate_left
            ·intro w'
             go_simp
             with_reducible rfl
            rotate_left
            ·simp only [Act.put, List.setIfInBounds_toArray, List.set_cons_zero, List.set_cons_succ, i64_w, i32_w]
             rfl
            refine take_ (i := 8) (N := some 35) (v := ?_) (a' := ?_) #[true, true, true, true, true, true, true, true, true, false, false] rfl rfl (take_ofW HT_.out HW_.out (by kernel_rfl)) (fun _ _ _ h => h) (Or.inl ⟨by rfl, ?_⟩) hHeld ?_ ?_
            rotate_left
            ·rintro w' ⟨s0, s1, s2⟩
             go_simp
             with_reducible rfl
            rotate_left
            ·simp only [Act.put, List.setIfInBounds_toArray, List.set_cons_zero, List.set_cons_succ, i64_w, i32_w]
             rfl
            refine one_ (i := 9) (N := some 36) #[true, true, true, true, true, true, true, true, true, true, false] rfl rfl (one_of HT_.out (by kernel_rfl)) (by decide) (fun K hK => ?_)
            refine Kd.R_append_rows_step (Kd.int .i64) (w0 := w) w.heap.size (by rfl) (.tmp 27) (.tmp 35) 36 3 (.int .i64 0) 8 rfl Try.underlying36 info3 rfl (by decide) (by omega) u6 x6_2 (rd_L1 l0_0 (rd l1 x7_2)) _ _ _ (fun _ => True) (fun _ => False) rfl rfl ?aO ?aR (fun _ _ h => h) (fun _ h => h.elim) ?aF ?aB ?aS ?aL ?_
            (case aR => repeat (first | exact (Kd.C_below HR384_0.out HB.out) | (with_reducible refine Kd.C_alloc ?_ _) | (with_reducible refine Kd.C_drewN ?_ _) | (with_reducible refine Kd.C_drew ?_)))
            (case aB => exact (by repeat (first | (with_reducible first | exact HB.out | apply below_alloc | apply pw_below_drewN | apply below_drew1 | refine below_set ?_ GE377.out) | exact HB.out)))
            (case aF => exact (fun _ _ => trivial))
            (case aO => exact (by (with_reducible repeat (first | apply Kd.R_alloc | apply Kd.R_drewN | apply Kd.R_drew)); exact HO_6.out))
            (case aS => exact (below_size (by repeat (first | (with_reducible first | exact HB.out | apply below_alloc | apply pw_below_drewN | apply below_drew1 | refine below_set ?_ GE377.out) | exact HB.out))))
            (case aL => have := LMc20.out; omega)
            intro v386 w23 ho hb hg hat
            rw [← Ny385.out] at ho
            have n0_ := Aside0.mk (blk_grown (g := gb377) (o := .cells #[.slice (some ad384) l0_0.length c0_0] 28 (0, 0)) (by (with_reducible repeat (first | refine blk_drewN ?_ _ | refine blk_drew ?_ | refine blk_alloc ?_ _)); exact BK377.out) hg (Kd.R_ne HO_6.out BK377.out (by decide)))
            have n1_ := Aside0.mk (hb)
            have n2_ := Aside0.mk (ho)
            clear BK377
            clear HB
            clear HO_6
            have BK377 := n0_
            have HB := n1_
            have HO387 := n2_
            clear n0_ n1_ n2_
            clear ho hb hg hat
            refine hK.out _ _ ⟨(blk_cell BK377.out 0).trans rfl, ((HB.out.cell (World.block_lt_of_cell? w _ hw383_0)).trans hw383_0), ((HB.out.cell (World.block_lt_of_cell? w _ hw384_0)).trans hw384_0)⟩ (fun hHeld => ?_)
            clear hK K
            refine norm_ (a' := ?_) ?_ ?_
            rotate_left
            ·show Act.put _ (some 36) _ = _
             simp only [Act.put, List.setIfInBounds_toArray, List.set_cons_zero, List.set_cons_succ, i64_w, i32_w]
             rfl
            refine pure_ (i := 10) (N := some 6) (v := ?_) (a' := ?_) #[true, true, true, true, true, true, true, true, true, true, true] rfl rfl (any_of HT_.out (by kernel_rfl)) (fun _ _ _ h => h) (Or.inl ⟨by rfl, ?_⟩) ?_ ?_
            rotate_left
            ·intro w'
             go_simp
             with_reducible rfl
            rotate_left
            ·simp only [Act.put, List.setIfInBounds_toArray, List.set_cons_zero, List.set_cons_succ, i64_w, i32_w]
             rfl
            refine done_ (done_of HT_.out (by kernel_rfl)) ?_
            obtain ⟨Ao24, co24, eo24⟩ := Kd.R_slice HO387.out
            subst eo24
            try go_wp2_with (first | ((with_reducible refine gate_dst (N := 40) rfl ?_); (try (refine gate_guard (by rfl) ?_; dsimp only)); refine Kd.R_lit (Kd.int .i64) _ 3 ?hg (N := 40) ?hd (xs := ([] : List Int)) (inner := []) (ok := fun _ => True) (okp := fun _ => True) ?hr ?hp (fun _ hk => hk) trivial (Below.refl _ _) (Nat.le_refl _) (by simp) ?_; (case hd => rfl); (case hg => rfl); (case hr => first | (go_simp; done) | (go_simp; rfl)); (case hp => exact (Reps.none _ _)); intro v389 w25 ho26 hb hg_ hnew_; clear hg_ hnew_; (first | rw [← Ny388.out] at ho26 | (simp only [Int.reduceToNat] at ho26; rw [← Ny388.out] at ho26)); have n0_ := Aside0.mk (Kd.R_elder' (by (with_reducible repeat (first | apply Kd.R_alloc | apply Kd.R_drewN | apply Kd.R_drew)); exact HO387.out) (Kd.R_base ho26) hb); have n1_ := Aside0.mk (Kd.R_lower (Kd.R_new' ho26 (Kd.R_lt (by (with_reducible repeat (first | apply Kd.R_alloc | apply Kd.R_drewN | apply Kd.R_drew)); exact HO387.out))) (below_size (by repeat (first | (with_reducible first | exact HB.out | apply below_alloc | apply pw_below_drewN | apply below_drew1 | refine below_set ?_ GE377.out) | exact HB.out)))); have n2_ := Aside0.mk (blk_below (g := gb377) (o := .cells #[.slice (some ad384) l0_0.length c0_0] 28 (0, 0)) (by (with_reducible repeat (first | refine blk_drewN ?_ _ | refine blk_drew ?_ | refine blk_alloc ?_ _)); exact BK377.out) hb); have n3_ := Aside0.mk (below_step (by repeat (first | (with_reducible first | exact HB.out | apply below_alloc | apply pw_below_drewN | apply below_drew1 | refine below_set ?_ GE377.out) | exact HB.out)) hb); clear HO387; clear BK377; clear HB; have HO387 := n0_; have HO390 := n1_; have BK377 := n2_; have HB := n3_; clear n0_ n1_ n2_ n3_; clear hb ho26))
            go_ret2
            exact ⟨_, by first | rfl | (simp [errW_none, errW_some] <;> rfl) | (simp [*, errW_none, errW_some] <;> rfl), by (with_reducible repeat (first | apply Kd.R_alloc | apply Kd.R_drewN | apply Kd.R_drew)); exact Kd.R_mono HO390.out (fun _ hk => trivial), by repeat (first | (with_reducible first | exact HB.out | apply below_alloc | apply pw_below_drewN | apply below_drew1 | refine below_set ?_ GE377.out) | exact HB.out)⟩
           ·rw [if_neg c21] at H
            have c21b0 : decide (400 < (y385.length : Int)) = false := decide_eq_false c21
            have c21b1 : decide (400 < y385.length) = false := decide_eq_false (by omega)
            clear c21
            have H' := Aside0.mk H
            clear H
            try go_wp2
            have n0_ := Aside0.mk (Kd.R_drew HO_6.out)
            have n1_ := Aside0.mk (blk_drew BK377.out)
            have n2_ := Aside0.mk (below_drew1 HB.out)
            clear HO_6
            clear BK377
            clear HB
            have HO_6 := n0_
            have BK377 := n1_
            have HB := n2_
            clear n0_ n1_ n2_
            have p383 : 0 ≤ (x7_2 : Int) := of_decide_eq_true (by first | (with_reducible assumption) | assumption)
            have q383 : x7_2 < (l1.length : Int) := of_decide_eq_true (by first | (with_reducible assumption) | assumption)
            obtain ⟨ad383, e383, hx383_0⟩ := Kd.at_int HR1.out x7_2 p383 q383
            have hw383_0 := hx383_0
            cases e383
            replace hx383_0 := (HB.out.cell (World.block_lt_of_cell? w _ hx383_0)).trans hx383_0
            replace p383 := eq_true p383
            replace q383 := eq_true q383
            have p384 : 0 ≤ ((rd l1 x7_2) : Int) := of_decide_eq_true (by first | (with_reducible assumption) | assumption)
            have q384 : (rd l1 x7_2) < (l0_0.length : Int) := of_decide_eq_true (by first | (with_reducible assumption) | assumption)
            obtain ⟨ad384, A384_0, c384_0, e384, hx384_0, hl384_0, hi384_0⟩ := at_L1 HR0_0.out (rd l1 x7_2) p384 q384
            have hw384_0 := hx384_0
            cases e384
            replace hx384_0 := (HB.out.cell (World.block_lt_of_cell? w _ hx384_0)).trans hx384_0
            have HR384_0 := Aside0.mk hi384_0
            have HC384_0 := Aside0.mk hl384_0
            clear hi384_0 hl384_0
            replace p384 := eq_true p384
            replace q384 := eq_true q384
            refine start_ (n := 11) (S := fun w' => w'.cell? ⟨gb377, 0, none⟩ = some (.slice (some ad384) l0_0.length c0_0) ∧ w'.cell? (ad383.add (x7_2).toNat) = some (.int .i64 (rd l1 x7_2)) ∧ w'.cell? (ad384.add ((rd l1 x7_2)).toNat) = some (.slice A384_0 (rd_L1 l0_0 (rd l1 x7_2)).length c384_0)) (ds := []) #[false, false, false, false, false, false, false, false, false, false, false] (by kernel_rfl) rfl rfl ⟨(blk_cell BK377.out 0).trans rfl, ((HB.out.cell (World.block_lt_of_cell? w _ hw383_0)).trans hw383_0), ((HB.out.cell (World.block_lt_of_cell? w _ hw384_0)).trans hw384_0)⟩ (fun hHeld => ?_); refine with_tabW spec_ApplyMorphism.tab7 spec_ApplyMorphism.bits7 (fun HT_ HW_ => ?_)
            generalize wr.drew = w27 at HO_6 BK377 HB HR384_0 hx383_0 hx384_0 hHeld ⊢
            refine pure_ (i := 0) (N := some 27) (v := ?_) (a' := ?_) #[true, false, false, false, false, false, false, false, false, false, false] rfl rfl (any_of HT_.out (by kernel_rfl)) (fun _ _ _ h => h) (Or.inl ⟨by rfl, ?_⟩) ?_ ?_
            rotate_left
            ·intro w'
             go_simp
             with_reducible rfl
            rotate_left
            ·simp only [Act.put, List.setIfInBounds_toArray, List.set_cons_zero, List.set_cons_succ, i64_w, i32_w]
             rfl
            refine pure_ (i := 1) (N := some 28) (v := ?_) (a' := ?_) #[true, true, false, false, false, false, false, false, false, false, false] rfl rfl (any_of HT_.out (by kernel_rfl)) (fun _ _ _ h => h) (Or.inl ⟨by rfl, ?_⟩) ?_ ?_
            rotate_left
            ·intro w'
             go_simp
             with_reducible rfl
            rotate_left
            ·simp only [Act.put, List.setIfInBounds_toArray, List.set_cons_zero, List.set_cons_succ, i64_w, i32_w]
             rfl
            refine pure_ (i := 3) (N := some 30) (v := ?_) (a' := ?_) #[true, true, false, true, false, false, false, false, false, false, false] rfl rfl (any_of HT_.out (by kernel_rfl)) (fun _ _ _ h => h) (Or.inl ⟨by rfl, ?_⟩) ?_ ?_
            rotate_left
            ·intro w'
             go_simp
             with_reducible rfl
            rotate_left
            ·simp only [Act.put, List.setIfInBounds_toArray, List.set_cons_zero, List.set_cons_succ, i64_w, i32_w]
             rfl
            refine pure_ (i := 4) (N := some 31) (v := ?_) (a' := ?_) #[true, true, false, true, true, false, false, false, false, false, false] rfl rfl (any_of HT_.out (by kernel_rfl)) (fun _ _ _ h => h) (Or.inl ⟨by rfl, ?_⟩) ?_ ?_
            rotate_left
            ·intro w'
             go_simp
             with_reducible rfl
            rotate_left
            ·simp only [Act.put, List.setIfInBounds_toArray, List.set_cons_zero, List.set_cons_succ, i64_w, i32_w]
             rfl
            refine pure_ (i := 5) (N := some 32) (v := ?_) (a' := ?_) #[true, true, false, true, true, true, false, false, false, false, false] rfl rfl (any_of HT_.out (by kernel_rfl)) (fun _ _ _ h => h) (Or.inl ⟨by rfl, ?_⟩) ?_ ?_
            rotate_left
            ·intro w'
             go_simp
             with_reducible rfl
            rotate_left
            ·simp only [Act.put, List.setIfInBounds_toArray, List.set_cons_zero, List.set_cons_succ, i64_w, i32_w]
             rfl
            refine take_ (i := 2) (N := some 29) (v := ?_) (a' := ?_) #[true, true, true, true, true, true, false, false, false, false, false] rfl rfl (take_ofW HT_.out HW_.out (by kernel_rfl)) (fun _ _ _ h => h) (Or.inl ⟨by rfl, ?_⟩) hHeld ?_ ?_
            rotate_left
            ·rintro w' ⟨s0, s1, s2⟩
             go_simp
             with_reducible rfl
            rotate_left
            ·simp only [Act.put, List.setIfInBounds_toArray, List.set_cons_zero, List.set_cons_succ, i64_w, i32_w]
             rfl
            refine take_ (i := 6) (N := some 33) (v := ?_) (a' := ?_) #[true, true, true, true, true, true, true, false, false, false, false] rfl rfl (take_ofW HT_.out HW_.out (by kernel_rfl)) (fun _ _ _ h => h) (Or.inl ⟨by rfl, ?_⟩) hHeld ?_ ?_
            rotate_left
            ·rintro w' ⟨s0, s1, s2⟩
             go_simp
             with_reducible rfl
            rotate_left
            ·simp only [Act.put, List.setIfInBounds_toArray, List.set_cons_zero, List.set_cons_succ, i64_w, i32_w]
             rfl
            refine pure_ (i := 7) (N := some 34) (v := ?_) (a' := ?_) #[true, true, true, true, true, true, true, true, false, false, false] rfl rfl (any_of HT_.out (by kernel_rfl)) (fun _ _ _ h => h) (Or.inl ⟨by rfl, ?_⟩) ?_ ?_
            rotate_left
            ·intro w'
             go_simp
             with_reducible rfl
            rotate_left
            ·simp only [Act.put, List.setIfInBounds_toArray, List.set_cons_zero, List.set_cons_succ, i64_w, i32_w]
             rfl
            refine take_ (i := 8) (N := some 35) (v := ?_) (a' := ?_) #[true, true, true, true, true, true, true, true, true, false, false] rfl rfl (take_ofW HT_.out HW_.out (by kernel_rfl)) (fun _ _ _ h => h) (Or.inl ⟨by rfl, ?_⟩) hHeld ?_ ?_
            rotate_left
            ·rintro w' ⟨s0, s1, s2⟩
             go_simp
             with_reducible rfl
            rotate_left
            ·simp only [Act.put, List.setIfInBounds_toArray, List.set_cons_zero, List.set_cons_succ, i64_w, i32_w]
             rfl
            refine one_ (i := 9) (N := some 36) #[true, true, true, true, true, true, true, true, true, true, false] rfl rfl (one_of HT_.out (by kernel_rfl)) (by decide) (fun K hK => ?_)
            refine Kd.R_append_rows_step (Kd.int .i64) (w0 := w) w.heap.size (by rfl) (.tmp 27) (.tmp 35) 36 3 (.int .i64 0) 8 rfl Try.underlying36 info3 rfl (by decide) (by omega) u6 x6_2 (rd_L1 l0_0 (rd l1 x7_2)) _ _ _ (fun _ => True) (fun _ => False) rfl rfl ?aO ?aR (fun _ _ h => h) (fun _ h => h.elim) ?aF ?aB ?aS ?aL ?_
            (case aR => repeat (first | exact (Kd.C_below HR384_0.out HB.out) | (with_reducible refine Kd.C_alloc ?_ _) | (with_reducible refine Kd.C_drewN ?_ _) | (with_reducible refine Kd.C_drew ?_)))
            (case aB => exact (by repeat (first | (with_reducible first | exact HB.out | apply below_alloc | apply pw_below_drewN | apply below_drew1 | refine below_set ?_ GE377.out) | exact HB.out)))
            (case aF => exact (fun _ _ => trivial))
            (case aO => exact (by (with_reducible repeat (first | apply Kd.R_alloc | apply Kd.R_drewN | apply Kd.R_drew)); exact HO_6.out))
            (case aS => exact (below_size (by repeat (first | (with_reducible first | exact HB.out | apply below_alloc | apply pw_below_drewN | apply below_drew1 | refine below_set ?_ GE377.out) | exact HB.out))))
            (case aL => have := LMc20.out; omega)
            intro v386 w28 ho hb hg hat
            rw [← Ny385.out] at ho
            have n0_ := Aside0.mk (blk_grown (g := gb377) (o := .cells #[.slice (some ad384) l0_0.length c0_0] 28 (0, 0)) (by (with_reducible repeat (first | refine blk_drewN ?_ _ | refine blk_drew ?_ | refine blk_alloc ?_ _)); exact BK377.out) hg (Kd.R_ne HO_6.out BK377.out (by decide)))
            have n1_ := Aside0.mk (hb)
            have n2_ := Aside0.mk (ho)
            clear BK377
            clear HB
            clear HO_6
            have BK377 := n0_
            have HB := n1_
            have HO387 := n2_
            clear n0_ n1_ n2_
            clear ho hb hg hat
            refine hK.out _ _ ⟨(blk_cell BK377.out 0).trans rfl, ((HB.out.cell (World.block_lt_of_cell? w _ hw383_0)).trans hw383_0), ((HB.out.cell (World.block_lt_of_cell? w _ hw384_0)).trans hw384_0)⟩ (fun hHeld => ?_)
            clear hK K
            refine norm_ (a' := ?_) ?_ ?_
            rotate_left
            ·show Act.put _ (some 36) _ = _
             simp only [Act.put, List.setIfInBounds_toArray, List.set_cons_zero, List.set_cons_succ, i64_w, i32_w]
             rfl
            refine pure_ (i := 10) (N := some 6) (v := ?_) (a' := ?_) #[true, true, true, true, true, true, true, true, true, true, true] rfl rfl (any_of HT_.out (by kernel_rfl)) (fun _ _ _ h => h) (Or.inl ⟨by rfl, ?_⟩) ?_ ?_
            rotate_left
            ·intro w'
             go_simp
             with_reducible rfl
            rotate_left
            ·simp only [Act.put, List.setIfInBounds_toArray, List.set_cons_zero, List.set_cons_succ, i64_w, i32_w]
             rfl
            refine done_ (done_of HT_.out (by kernel_rfl)) ?_
            obtain ⟨Ao29, co29, eo29⟩ := Kd.R_slice HO387.out
            subst eo29
            try go_wp2
            go_roundg k2
            case measure => have := HJ2.out; have := HK2.out; omega
            case rel => exact ⟨(y385), (wrap64 (x7_2 + 1)), (by first | rfl | (simp; done) | (simp [*]; done)), H', ⟨by have := HJ2.out; have := HK2.out; omega⟩, ⟨by (with_reducible repeat (first | apply Kd.R_alloc | apply Kd.R_drewN | apply Kd.R_drew)); exact HO387.out⟩, ⟨by (with_reducible repeat (first | refine blk_drewN ?_ _ | refine blk_drew ?_ | refine blk_alloc ?_ _)); exact BK377.out⟩, ⟨by repeat (first | (with_reducible first | exact HB.out | apply below_alloc | apply pw_below_drewN | apply below_drew1 | refine below_set ?_ GE377.out) | exact HB.out)⟩⟩
          ·rw [if_neg c20] at H
           exact absurd H (by simp)
         ·rw [if_neg c19] at H
          exact absurd H (by simp)
        ·rw [if_neg c18] at H
         exact absurd H (by simp)
       ·rw [if_neg c17] at H
        exact absurd H (by simp)
      ·rw [if_neg c16] at H
       have c16b0 : decide (x7_2 < (l1.length : Int)) = false := decide_eq_false c16
       clear c16
       simp only [Option.some.injEq, Prod.mk.injEq] at H
       obtain ⟨rfl, rfl⟩ := H
       go_wp2
       go_ret2
       exact ⟨_, by first | rfl | (simp [errW_none, errW_some] <;> rfl) | (simp [*, errW_none, errW_some] <;> rfl), by (with_reducible repeat (first | apply Kd.R_alloc | apply Kd.R_drewN | apply Kd.R_drew)); exact HO_6.out, by repeat (first | (with_reducible first | exact HB.out | apply below_alloc | apply pw_below_drewN | apply below_drew1 | refine below_set ?_ GE377.out) | exact HB.out)⟩

end Go.Proofs.Ytooamcjgejajeaa.M
/- Walks for this claim, written by a program of mine over the kit's print. No condition of mine. -/
namespace Go.Proofs.Ytooamcjgejajeaa.M
open Go.RowKit Go.Proofs.Ytooamcjgejajeaa.KW Go.Proofs.YtooamcjgejajeaaW.PrintWords Go.Proofs.YtooamcjgejajeaaW.PrintLast Go.Proofs.YtooamcjgejajeaaW.PrintMore
attribute [local go_sem] max2_int min2_int max_two min_two max_three min_three max_four min_four   -- for this text's walks alone
set_option linter.unusedVariables false
set_option linter.unusedSimpArgs false

/-! ### impl_IsWord: function 155 -/
def impl_IsWord.f (k : Nat) (l0 : List Int) (a1 : Int) : Option (Bool) := if a1 ≥ 1 then (if a1 ≤ 16 then (if (l0.length : Int) ≤ 400 then ((impl_areLetters.f k l0 a1).bind fun t440 => (some t440)) else (some false)) else (some false)) else (some false)
theorem impl_IsWord.mono : ∀ a0 a1 k, LeO (impl_IsWord.f k a0 a1) (impl_IsWord.f (k + 1) a0 a1) := by
 intro a0 a1 k
 unfold impl_IsWord.f
 repeat' first
   | (with_reducible exact impl_areLetters.mono _ _ _)
   | (with_reducible exact LeO.refl _)
   | (with_reducible exact LeO.none _)
   | (with_reducible refine LeO.ite ?_ ?_)
   | (with_reducible refine LeO.bind ?_ (fun _ => ?_))
   | exact impl_areLetters.mono _ _ _
   | exact LeO.none _
   | refine LeO.ite ?_ ?_
   | refine LeO.bind ?_ (fun _ => ?_)
set_option maxHeartbeats 8000000 in
set_option maxRecDepth 100000 in
theorem impl_IsWord.calls (k : Nat) (A0 : Option Addr) (c0 : Nat) (l0 : List Int) (a1 : Int) (r : Bool) (w : World) (hr0 : Kd.C (Kd.int .i64) w A0 l0.length l0) (hc0 : l0.length ≤ c0) (h : impl_IsWord.f k l0 a1 = some r) :
  Calls Try.prog 155 #[.slice A0 l0.length c0, .int .i64 a1] w fun e w' => e = .returned (.bool r) ∧ Drawn0 w w' := by
 have HR0 := Aside0.mk hr0
 have HC0 := Aside0.mk hc0
 clear hr0 hc0
 have H : (if a1 ≥ 1 then (if a1 ≤ 16 then (if (l0.length : Int) ≤ 400 then ((impl_areLetters.f k l0 a1).bind fun t440 => (some t440)) else (some false)) else (some false)) else (some false)) = some r := h
 clear h
 by_cases c3 : a1 ≥ 1
 ·rw [if_pos c3] at H
  have c3b0 : decide (1 ≤ a1) = true := decide_eq_true c3
  clear c3
  by_cases c4 : a1 ≤ 16
  ·rw [if_pos c4] at H
   have c4b0 : decide (a1 ≤ 16) = true := decide_eq_true c4
   clear c4
   by_cases c5 : (l0.length : Int) ≤ 400
   ·rw [if_pos c5] at H
    have c5b0 : decide ((l0.length : Int) ≤ 400) = true := decide_eq_true c5
    have c5b1 : decide (l0.length ≤ 400) = true := decide_eq_true (by omega)
    clear c5
    replace H := Option.bind_eq_some_iff.mp H
    obtain ⟨t440, A60, H⟩ := H
    replace H : (some t440) = some r := H
    have A6 := Aside0.mk A60
    clear A60
    obtain rfl := Option.some.inj H
    go_enter Try.func155, Try.ntmps155
    go_wp2_with (first | (go_at_call 159; (with_reducible refine (impl_areLetters.calls k _ _ l0 a1 t440 _ ?side1 ?side2 A6.out).mono ?_); (case side1 => repeat (first | exact HR0.out | (with_reducible refine Kd.C_alloc ?_ _) | (with_reducible refine Kd.C_drewN ?_ _) | (with_reducible refine Kd.C_drew ?_))); (case side2 => exact HC0.out); rintro e w' ⟨rfl, ⟨nd, rfl⟩⟩))
    go_ret
    exact ⟨by first | rfl | (simp; done) | (simp [*]; done), by repeat (first | exact Drawn0.refl _ | apply Drawn0.step)⟩
   ·rw [if_neg c5] at H
    have c5b0 : decide ((l0.length : Int) ≤ 400) = false := decide_eq_false c5
    have c5b1 : decide (l0.length ≤ 400) = false := decide_eq_false (by omega)
    clear c5
    obtain rfl := Option.some.inj H
    go_enter Try.func155, Try.ntmps155
    go_wp2
    go_ret
    exact ⟨by first | rfl | (simp; done) | (simp [*]; done), by repeat (first | exact Drawn0.refl _ | apply Drawn0.step)⟩
  ·rw [if_neg c4] at H
   have c4b0 : decide (a1 ≤ 16) = false := decide_eq_false c4
   clear c4
   obtain rfl := Option.some.inj H
   go_enter Try.func155, Try.ntmps155
   go_wp2
   go_ret
   exact ⟨by first | rfl | (simp; done) | (simp [*]; done), by repeat (first | exact Drawn0.refl _ | apply Drawn0.step)⟩
 ·rw [if_neg c3] at H
  have c3b0 : decide (1 ≤ a1) = false := decide_eq_false c3
  clear c3
  obtain rfl := Option.some.inj H
  go_enter Try.func155, Try.ntmps155
  go_wp2
  go_ret
  exact ⟨by first | rfl | (simp; done) | (simp [*]; done), by repeat (first | exact Drawn0.refl _ | apply Drawn0.step)⟩

end Go.Proofs.Ytooamcjgejajeaa.M
/- Walks for this claim, written by a program of mine over the kit's print. No condition of mine. -/
namespace Go.Proofs.Ytooamcjgejajeaa.M
open Go.RowKit Go.Proofs.Ytooamcjgejajeaa.KW Go.Proofs.YtooamcjgejajeaaW.PrintWords Go.Proofs.YtooamcjgejajeaaW.PrintLast Go.Proofs.YtooamcjgejajeaaW.PrintMore
attribute [local go_sem] max2_int min2_int max_two min_two max_three min_three max_four min_four   -- for this text's walks alone
set_option linter.unusedVariables false
set_option linter.unusedSimpArgs false

/-! ### impl_ApplyMorphism: function 100 -/
mutual
def impl_ApplyMorphism.j0 : Nat → List Int → Bool → List (List Int) → Option (List Int × Bool)
 | 0, _, _, _ => none
 | k + 1, x1, x19, x442000 => if x19 = true then (some ((([] : List Int)), false)) else (impl_ApplyMorphism.l0 k (([] : List Int)) x1 (x1.length : Int) 0 x442000)
def impl_ApplyMorphism.l0 : Nat → List Int → List Int → Int → Int → List (List Int) → Option (List Int × Bool)
 | 0, _, _, _, _, _ => none
 | k + 1, x6, x22, x23, x24, x442000 => if x24 < x23 then (if 0 ≤ x24 then (if x24 < (x22.length : Int) then (if 0 ≤ (rd x22 x24) then (if (rd x22 x24) < (x442000.length : Int) then (if x6.length + (rd_L1 x442000 (rd x22 x24)).length < 17592186044416 then (impl_ApplyMorphism.l0 k (x6 ++ (rd_L1 x442000 (rd x22 x24))) x22 x23 (wrap64 (x24 + 1)) x442000) else (none)) else (none)) else (none)) else (none)) else (none)) else (if (x6.length : Int) > 400 then (some ((([] : List Int)), false)) else (some (x6, true)))
end
def impl_ApplyMorphism.f (k : Nat) (l0_0 : List (List Int)) (l1 : List Int) : Option (List Int × Bool) := (impl_IsMorphism.f k l0_0).bind fun t442 => (if t442 = true then ((impl_IsWord.f k l1 (l0_0.length : Int)).bind fun t443 => (impl_ApplyMorphism.j0 k l1 (!t443) l0_0)) else (impl_ApplyMorphism.j0 k l1 true l0_0))
theorem impl_ApplyMorphism.mono_l : ∀ k, (∀ y0 y1 y2, LeO (impl_ApplyMorphism.j0 k y0 y1 y2) (impl_ApplyMorphism.j0 (k + 1) y0 y1 y2)) ∧ (∀ y0 y1 y2 y3 y4, LeO (impl_ApplyMorphism.l0 k y0 y1 y2 y3 y4) (impl_ApplyMorphism.l0 (k + 1) y0 y1 y2 y3 y4))
 | 0 => ⟨fun _ _ _ r h => by simp [impl_ApplyMorphism.j0] at h, fun _ _ _ _ _ r h => by simp [impl_ApplyMorphism.l0] at h⟩
 | k + 1 => by
  obtain ⟨ih0, ih1⟩ := impl_ApplyMorphism.mono_l k
  refine ⟨?_, ?_⟩
  ·intro y0 y1 y2
   unfold impl_ApplyMorphism.j0
   repeat' first
   | (with_reducible exact ih0 _ _ _)
   | (with_reducible exact ih1 _ _ _ _ _)
   | (with_reducible exact impl_IsMorphism.mono _ _)
   | (with_reducible exact impl_IsWord.mono _ _ _)
   | (with_reducible exact LeO.refl _)
   | (with_reducible exact LeO.none _)
   | (with_reducible refine LeO.ite ?_ ?_)
   | (with_reducible refine LeO.bind ?_ (fun _ => ?_))
   | exact ih0 _ _ _
   | exact ih1 _ _ _ _ _
   | exact impl_IsMorphism.mono _ _
   | exact impl_IsWord.mono _ _ _
   | exact LeO.none _
   | refine LeO.ite ?_ ?_
   | refine LeO.bind ?_ (fun _ => ?_)
  ·intro y0 y1 y2 y3 y4
   unfold impl_ApplyMorphism.l0
   repeat' first
   | (with_reducible exact ih0 _ _ _)
   | (with_reducible exact ih1 _ _ _ _ _)
   | (with_reducible exact impl_IsMorphism.mono _ _)
   | (with_reducible exact impl_IsWord.mono _ _ _)
   | (with_reducible exact LeO.refl _)
   | (with_reducible exact LeO.none _)
   | (with_reducible refine LeO.ite ?_ ?_)
   | (with_reducible refine LeO.bind ?_ (fun _ => ?_))
   | exact ih0 _ _ _
   | exact ih1 _ _ _ _ _
   | exact impl_IsMorphism.mono _ _
   | exact impl_IsWord.mono _ _ _
   | exact LeO.none _
   | refine LeO.ite ?_ ?_
   | refine LeO.bind ?_ (fun _ => ?_)
theorem impl_ApplyMorphism.mono : ∀ a0 a1 k, LeO (impl_ApplyMorphism.f k a0 a1) (impl_ApplyMorphism.f (k + 1) a0 a1) := by
 intro a0 a1 k
 obtain ⟨ih0, ih1⟩ := impl_ApplyMorphism.mono_l k
 unfold impl_ApplyMorphism.f
 repeat' first
   | (with_reducible exact ih0 _ _ _)
   | (with_reducible exact ih1 _ _ _ _ _)
   | (with_reducible exact impl_IsMorphism.mono _ _)
   | (with_reducible exact impl_IsWord.mono _ _ _)
   | (with_reducible exact LeO.refl _)
   | (with_reducible exact LeO.none _)
   | (with_reducible refine LeO.ite ?_ ?_)
   | (with_reducible refine LeO.bind ?_ (fun _ => ?_))
   | exact ih0 _ _ _
   | exact ih1 _ _ _ _ _
   | exact impl_IsMorphism.mono _ _
   | exact impl_IsWord.mono _ _ _
   | exact LeO.none _
   | refine LeO.ite ?_ ?_
   | refine LeO.bind ?_ (fun _ => ?_)
set_option maxHeartbeats 8000000 in
set_option maxRecDepth 100000 in
theorem impl_ApplyMorphism.calls (k : Nat) (A0_0 : Option Addr) (c0_0 : Nat) (l0_0 : List (List Int)) (A1 : Option Addr) (c1 : Nat) (l1 : List Int) (r1 : List Int) (r2 : Bool) (w : World) (hr0_0 : Kd.C (Kd.slice 3 (Kd.int .i64)) w A0_0 l0_0.length l0_0) (hc0_0 : l0_0.length ≤ c0_0) (hr1 : Kd.C (Kd.int .i64) w A1 l1.length l1) (hc1 : l1.length ≤ c1) (h : impl_ApplyMorphism.f k l0_0 l1 = some (r1, r2)) :
  Calls Try.prog 100 #[.agg #[.slice A0_0 l0_0.length c0_0], .slice A1 l1.length c1] w fun e w' => ∃ v0_ : Value, e = .returned (.tuple #[v0_, .bool r2]) ∧ Kd.R (Kd.int .i64) 3 w' w.heap.size (fun _ => True) v0_ r1 ∧ Below w.heap.size w w' := by
 have hu28 := Try.underlying28
 have HR0_0 := Aside0.mk hr0_0
 have HC0_0 := Aside0.mk hc0_0
 clear hr0_0 hc0_0
 have HR1 := Aside0.mk hr1
 have HC1 := Aside0.mk hc1
 clear hr1 hc1
 have HB := Aside0.mk (Below.refl w.heap.size w)
 have H : ((impl_IsMorphism.f k l0_0).bind fun t442 => (if t442 = true then ((impl_IsWord.f k l1 (l0_0.length : Int)).bind fun t443 => (impl_ApplyMorphism.j0 k l1 (!t443) l0_0)) else (impl_ApplyMorphism.j0 k l1 true l0_0))) = some (r1, r2) := h
 clear h
 have HC3 := Aside0.mk H
 clear H
 go_enter Try.func100, Try.ntmps100
 go_upto_region 1 with (first | ((with_reducible refine gate_dst (N := 2) rfl ?_); (try (refine gate_guard (by rfl) ?_; dsimp only)); refine box_event ?hg (N := 2) ?hd (cs := #[.slice A0_0 l0_0.length c0_0]) (t := 28) ?hr ?_; (case hd => rfl); (case hg => rfl); (case hr => first | (go_simp; done) | (go_simp; rfl)); intro gb441 hg w4 hbox hb; have n0_ := Aside0.mk (below_step (by repeat (first | (with_reducible first | exact HB.out | apply below_alloc | apply pw_below_drewN | apply below_drew1) | exact HB.out)) hb); have n1_ := Aside0.mk (hbox); have n2_ := Aside0.mk ((by rw [hg]; exact (below_size (by repeat (first | (with_reducible first | exact HB.out | apply below_alloc | apply pw_below_drewN | apply below_drew1) | exact HB.out))) : w.heap.size ≤ gb441)); have n3_ := Aside0.mk ((by rw [hg]; exact (below_size (by repeat (first | (with_reducible first | exact HB.out | apply below_alloc | apply pw_below_drewN | apply below_drew1) | exact HB.out))) : w.heap.size ≤ gb441)); clear HB; have HB := n0_; have BK441 := n1_; have GW441 := n2_; have GE441 := n3_; clear n0_ n1_ n2_ n3_; clear hb hbox hg))
 (try simp only [Act.put, List.setIfInBounds_toArray, List.set_cons_zero, List.set_cons_succ])
 go_cut [19] (fun v19 wc => ∃ (kq : Nat) (x19_2 : Bool), v19 = .bool x19_2 ∧ Aside0 (impl_ApplyMorphism.j0 kq l1 x19_2 l0_0 = some (r1, r2)) ∧ Aside0 (kq ≤ k) ∧ Aside0 (wc.heap[gb441]? = some (.cells #[(.slice A0_0 l0_0.length c0_0)] 28 (0, 0))) ∧ Aside0 (Below w.heap.size w wc))
 case first =>
  have H := HC3.out
  clear HC3
  replace H := Option.bind_eq_some_iff.mp H
  obtain ⟨t442, A50, H⟩ := H
  replace H : (if t442 = true then ((impl_IsWord.f k l1 (l0_0.length : Int)).bind fun t443 => (impl_ApplyMorphism.j0 k l1 (!t443) l0_0)) else (impl_ApplyMorphism.j0 k l1 true l0_0)) = some (r1, r2) := H
  have A5 := Aside0.mk A50
  clear A50
  by_cases c6 : t442 = true
  ·subst c6
   have H1 : ((impl_IsWord.f k l1 (l0_0.length : Int)).bind fun t443 => (impl_ApplyMorphism.j0 k l1 (!t443) l0_0)) = some (r1, r2) := by rw [if_pos rfl] at H; exact H
   clear H
   have H := H1
   clear H1
   replace H := Option.bind_eq_some_iff.mp H
   obtain ⟨t443, A70, H⟩ := H
   replace H : (impl_ApplyMorphism.j0 k l1 (!t443) l0_0) = some (r1, r2) := H
   have A7 := Aside0.mk A70
   clear A70
   have H' := Aside0.mk H
   clear H
   have hcz8_0 : w4.cell? ⟨gb441, 0, none⟩ = some (.slice A0_0 l0_0.length c0_0) := (blk_cell BK441.out 0).trans rfl
   have hfz8_0 := blk_frozen BK441.out 0
   go_wp2_with (first | ((with_reducible refine gate_callee (f := 108) rfl ?_); refine goesL_ (some 10) rfl rfl Try.func108 (by kernel_rfl) rfl #[.agg #[.slice A0_0 l0_0.length c0_0]] rfl (by (try simp only [List.map_toArray, List.map_cons, List.map_nil]); first | done | rfl | (simp only [List.length_drop, List.length_take]; rfl)) ?_; (with_reducible refine (impl_IsMorphism.calls k _ _ l0_0 true _ ?side1 ?side2 A5.out).mono ?_); (case side1 => repeat (first | exact (Kd.C_below HR0_0.out HB.out) | (with_reducible refine Kd.C_alloc ?_ _) | (with_reducible refine Kd.C_drewN ?_ _) | (with_reducible refine Kd.C_drew ?_))); (case side2 => exact HC0_0.out); rintro e w9 ⟨rfl, hb⟩; refine ⟨_, rfl, ?_⟩; have n0_ := Aside0.mk (blk_below (g := gb441) (o := .cells #[.slice A0_0 l0_0.length c0_0] 28 (0, 0)) (by (with_reducible repeat (first | refine blk_drewN ?_ _ | refine blk_drew ?_ | refine blk_alloc ?_ _)); exact BK441.out) hb); have n1_ := Aside0.mk (below_step (by repeat (first | (with_reducible first | exact HB.out | apply below_alloc | apply pw_below_drewN | apply below_drew1 | refine below_set ?_ GE441.out) | exact HB.out)) hb); clear BK441; clear HB; have BK441 := n0_; have HB := n1_; clear n0_ n1_; (try clear hb); (try clear hb2); (try clear hk); (try clear hi); have hcz10_0 : w9.cell? ⟨gb441, 0, none⟩ = some (.slice A0_0 l0_0.length c0_0) := (blk_cell BK441.out 0).trans rfl; have hfz10_0 := blk_frozen BK441.out 0) | (go_at_call 155; (with_reducible refine (impl_IsWord.calls k _ _ l1 (l0_0.length : Int) t443 _ ?side1 ?side2 A7.out).mono ?_); (case side1 => repeat (first | exact (Kd.C_below HR1.out HB.out) | (with_reducible refine Kd.C_alloc ?_ _) | (with_reducible refine Kd.C_drewN ?_ _) | (with_reducible refine Kd.C_drew ?_))); (case side2 => exact HC1.out); rintro e w' ⟨rfl, ⟨nd, rfl⟩⟩))
   go_meet
   case rel => exact ⟨_, (!t443), (by first | rfl | (simp; done) | (simp [*]; done)), H', ⟨by first | omega | exact Nat.le_refl _⟩, ⟨by (with_reducible repeat (first | refine blk_drewN ?_ _ | refine blk_drew ?_ | refine blk_alloc ?_ _)); exact BK441.out⟩, ⟨by repeat (first | (with_reducible first | exact HB.out | apply below_alloc | apply pw_below_drewN | apply below_drew1 | refine below_set ?_ GE441.out) | exact HB.out)⟩⟩
  ·replace c6 := Bool.eq_false_iff.mpr c6
   subst c6
   have H1 : (impl_ApplyMorphism.j0 k l1 true l0_0) = some (r1, r2) := by rw [if_neg (show ¬ (false = true) by decide)] at H; exact H
   clear H
   have H := H1
   clear H1
   have H' := Aside0.mk H
   clear H
   have hcz11_0 : w4.cell? ⟨gb441, 0, none⟩ = some (.slice A0_0 l0_0.length c0_0) := (blk_cell BK441.out 0).trans rfl
   have hfz11_0 := blk_frozen BK441.out 0
   go_wp2_with (first | ((with_reducible refine gate_callee (f := 108) rfl ?_); refine goesL_ (some 10) rfl rfl Try.func108 (by kernel_rfl) rfl #[.agg #[.slice A0_0 l0_0.length c0_0]] rfl (by (try simp only [List.map_toArray, List.map_cons, List.map_nil]); first | done | rfl | (simp only [List.length_drop, List.length_take]; rfl)) ?_; (with_reducible refine (impl_IsMorphism.calls k _ _ l0_0 false _ ?side1 ?side2 A5.out).mono ?_); (case side1 => repeat (first | exact (Kd.C_below HR0_0.out HB.out) | (with_reducible refine Kd.C_alloc ?_ _) | (with_reducible refine Kd.C_drewN ?_ _) | (with_reducible refine Kd.C_drew ?_))); (case side2 => exact HC0_0.out); rintro e w12 ⟨rfl, hb⟩; refine ⟨_, rfl, ?_⟩; have n0_ := Aside0.mk (blk_below (g := gb441) (o := .cells #[.slice A0_0 l0_0.length c0_0] 28 (0, 0)) (by (with_reducible repeat (first | refine blk_drewN ?_ _ | refine blk_drew ?_ | refine blk_alloc ?_ _)); exact BK441.out) hb); have n1_ := Aside0.mk (below_step (by repeat (first | (with_reducible first | exact HB.out | apply below_alloc | apply pw_below_drewN | apply below_drew1 | refine below_set ?_ GE441.out) | exact HB.out)) hb); clear BK441; clear HB; have BK441 := n0_; have HB := n1_; clear n0_ n1_; (try clear hb); (try clear hb2); (try clear hk); (try clear hi)))
   go_meet
   case rel => exact ⟨_, (true), (by first | rfl | (simp; done) | (simp [*]; done)), H', ⟨by first | omega | exact Nat.le_refl _⟩, ⟨by (with_reducible repeat (first | refine blk_drewN ?_ _ | refine blk_drew ?_ | refine blk_alloc ?_ _)); exact BK441.out⟩, ⟨by repeat (first | (with_reducible first | exact HB.out | apply below_alloc | apply pw_below_drewN | apply below_drew1 | refine below_set ?_ GE441.out) | exact HB.out)⟩⟩
 case rest =>
  clear HC3
  try clear c1
  try clear p2
  try clear c6
  try clear c10
  try clear hcz10_0
  try clear hcz11_0
  try clear hcz8_0
  try clear hfz10_0
  try clear hfz11_0
  try clear hfz8_0
  obtain ⟨kq, x19_2, rfl, HA, HJ2, BK441, HB⟩ := hcut
  cases kq with
  | zero => exact absurd HA.out (by simp [impl_ApplyMorphism.j0])
  | succ kj2 =>
   have H := HA.out
   clear HA
   simp only [impl_ApplyMorphism.j0] at H
   by_cases c13 : x19_2 = true
   ·subst c13
    have H1 : (some ((([] : List Int)), false)) = some (r1, r2) := by rw [if_pos rfl] at H; exact H
    clear H
    have H := H1
    clear H1
    obtain ⟨y444, hy444⟩ : ∃ y_ : List Int, y_ = (([] : List Int)) := ⟨_, rfl⟩
    replace H : (some (y444, false)) = some (r1, r2) := by first | (rw [hy444]; with_reducible exact H) | (have H2_ := (Option.bind_some _ _).symm.trans H; rw [hy444]; with_reducible exact H2_) | (have H2_ := (Option.bind_some _ _).symm.trans H; with_reducible exact H2_) | with_reducible exact H | (rw [hy444]; exact H) | exact H
    have Ny444 := Aside0.mk hy444
    clear hy444
    simp only [Option.some.injEq, Prod.mk.injEq] at H
    obtain ⟨rfl, rfl⟩ := H
    go_wp2_with (first | ((with_reducible refine gate_dst (N := 20) rfl ?_); (try (refine gate_guard (by rfl) ?_; dsimp only)); refine Kd.R_lit (Kd.int .i64) _ 3 ?hg (N := 20) ?hd (xs := ([] : List Int)) (inner := []) (ok := fun _ => True) (okp := fun _ => True) ?hr ?hp (fun _ hk => hk) trivial (Below.refl _ _) (Nat.le_refl _) (by simp) ?_; (case hd => rfl); (case hg => rfl); (case hr => first | (go_simp; done) | (go_simp; rfl)); (case hp => exact (Reps.none _ _)); intro v445 w14 ho15 hb hg_ hnew_; clear hg_ hnew_; (first | rw [← Ny444.out] at ho15 | (simp only [Int.reduceToNat] at ho15; rw [← Ny444.out] at ho15)); have n0_ := Aside0.mk (Kd.R_lower ho15 (below_size (by repeat (first | (with_reducible first | exact HB.out | apply below_alloc | apply pw_below_drewN | apply below_drew1 | refine below_set ?_ GE441.out) | exact HB.out)))); have n1_ := Aside0.mk (blk_below (g := gb441) (o := .cells #[.slice A0_0 l0_0.length c0_0] 28 (0, 0)) (by (with_reducible repeat (first | refine blk_drewN ?_ _ | refine blk_drew ?_ | refine blk_alloc ?_ _)); exact BK441.out) hb); have n2_ := Aside0.mk (below_step (by repeat (first | (with_reducible first | exact HB.out | apply below_alloc | apply pw_below_drewN | apply below_drew1 | refine below_set ?_ GE441.out) | exact HB.out)) hb); clear BK441; clear HB; have HO446 := n0_; have BK441 := n1_; have HB := n2_; clear n0_ n1_ n2_; clear hb ho15))
    go_ret2
    exact ⟨_, by first | rfl | (simp [errW_none, errW_some] <;> rfl) | (simp [*, errW_none, errW_some] <;> rfl), by (with_reducible repeat (first | apply Kd.R_alloc | apply Kd.R_drewN | apply Kd.R_drew)); exact HO446.out, by repeat (first | (with_reducible first | exact HB.out | apply below_alloc | apply pw_below_drewN | apply below_drew1 | refine below_set ?_ GE441.out) | exact HB.out)⟩
   ·replace c13 := Bool.eq_false_iff.mpr c13
    subst c13
    have H1 : (impl_ApplyMorphism.l0 kj2 (([] : List Int)) l1 (l1.length : Int) 0 l0_0) = some (r1, r2) := by rw [if_neg (show ¬ (false = true) by decide)] at H; exact H
    clear H
    have H := H1
    clear H1
    obtain ⟨y447, hy447⟩ : ∃ y_ : List Int, y_ = (([] : List Int)) := ⟨_, rfl⟩
    replace H : (impl_ApplyMorphism.l0 kj2 y447 l1 (l1.length : Int) 0 l0_0) = some (r1, r2) := by first | (rw [hy447]; with_reducible exact H) | (have H2_ := (Option.bind_some _ _).symm.trans H; rw [hy447]; with_reducible exact H2_) | (have H2_ := (Option.bind_some _ _).symm.trans H; with_reducible exact H2_) | with_reducible exact H | (rw [hy447]; exact H) | exact H
    have Ny447 := Aside0.mk hy447
    clear hy447
    have H' := Aside0.mk H
    clear H
    go_wp2_with (first | ((with_reducible refine gate_dst (N := 21) rfl ?_); (try (refine gate_guard (by rfl) ?_; dsimp only)); refine Kd.R_lit (Kd.int .i64) _ 3 ?hg (N := 21) ?hd (xs := ([] : List Int)) (inner := []) (ok := fun _ => True) (okp := fun _ => True) ?hr ?hp (fun _ hk => hk) trivial (Below.refl _ _) (Nat.le_refl _) (by simp) ?_; (case hd => rfl); (case hg => rfl); (case hr => first | (go_simp; done) | (go_simp; rfl)); (case hp => exact (Reps.none _ _)); intro v448 w16 ho17 hb hg_ hnew_; clear hg_ hnew_; (first | rw [← Ny447.out] at ho17 | (simp only [Int.reduceToNat] at ho17; rw [← Ny447.out] at ho17)); have n0_ := Aside0.mk (Kd.R_lower ho17 (below_size (by repeat (first | (with_reducible first | exact HB.out | apply below_alloc | apply pw_below_drewN | apply below_drew1 | refine below_set ?_ GE441.out) | exact HB.out)))); have n1_ := Aside0.mk (blk_below (g := gb441) (o := .cells #[.slice A0_0 l0_0.length c0_0] 28 (0, 0)) (by (with_reducible repeat (first | refine blk_drewN ?_ _ | refine blk_drew ?_ | refine blk_alloc ?_ _)); exact BK441.out) hb); have n2_ := Aside0.mk (below_step (by repeat (first | (with_reducible first | exact HB.out | apply below_alloc | apply pw_below_drewN | apply below_drew1 | refine below_set ?_ GE441.out) | exact HB.out)) hb); clear BK441; clear HB; have HO449 := n0_; have BK441 := n1_; have HB := n2_; clear n0_ n1_ n2_; clear hb ho17))
    go_loopg [6, 24] kj2 (fun kq v6 v24 w' => ∃ (x6_2 : List Int) (x24_2 : Int), v24 = .int .i64 x24_2 ∧ Aside0 (impl_ApplyMorphism.l0 kq x6_2 l1 (l1.length : Int) x24_2 l0_0 = some (r1, r2)) ∧ Aside0 (kq ≤ kj2) ∧ Aside0 (Kd.R (Kd.int .i64) 3 w' w.heap.size (fun _ => True) v6 x6_2) ∧ Aside0 (w'.heap[gb441]? = some (.cells #[(.slice A0_0 l0_0.length c0_0)] 28 (0, 0))) ∧ Aside0 (Below w.heap.size w w'))
    case atStart => exact ⟨(y447), (0), (by first | rfl | (simp; done) | (simp [*]; done)), H', ⟨Nat.le_refl _⟩, ⟨by (with_reducible repeat (first | apply Kd.R_alloc | apply Kd.R_drewN | apply Kd.R_drew)); exact HO449.out⟩, ⟨by (with_reducible repeat (first | refine blk_drewN ?_ _ | refine blk_drew ?_ | refine blk_alloc ?_ _)); exact BK441.out⟩, ⟨by repeat (first | (with_reducible first | exact HB.out | apply below_alloc | apply pw_below_drewN | apply below_drew1 | refine below_set ?_ GE441.out) | exact HB.out)⟩⟩
    case round =>
     clear H'
     try clear c1
     try clear p2
     try clear c6
     try clear c10
     try clear c13
     try clear hcz10_0
     try clear hcz11_0
     try clear hcz8_0
     try clear hfz10_0
     try clear hfz11_0
     try clear hfz8_0
     try clear p2
     obtain ⟨x6_2, x24_2, rfl, HA, HK2, HO_6, BK441, HB⟩ := hrel
     cases gk with
     | zero => exact absurd HA.out (by simp [impl_ApplyMorphism.l0])
     | succ k2 =>
      have H := HA.out
      clear HA
      simp only [impl_ApplyMorphism.l0] at H
      by_cases c18 : x24_2 < (l1.length : Int)
      ·rw [if_pos c18] at H
       have c18b0 : decide (x24_2 < (l1.length : Int)) = true := decide_eq_true c18
       clear c18
       by_cases c19 : 0 ≤ x24_2
       ·rw [if_pos c19] at H
        have c19b0 : decide (0 ≤ x24_2) = true := decide_eq_true c19
        clear c19
        by_cases c20 : x24_2 < (l1.length : Int)
        ·rw [if_pos c20] at H
         have c20b0 : decide (x24_2 < (l1.length : Int)) = true := decide_eq_true c20
         clear c20
         by_cases c21 : 0 ≤ (rd l1 x24_2)
         ·rw [if_pos c21] at H
          have c21b0 : decide (0 ≤ (rd l1 x24_2)) = true := decide_eq_true c21
          clear c21
          by_cases c22 : (rd l1 x24_2) < (l0_0.length : Int)
          ·rw [if_pos c22] at H
           have c22b0 : decide ((rd l1 x24_2) < (l0_0.length : Int)) = true := decide_eq_true c22
           clear c22
           by_cases c23 : x6_2.length + (rd_L1 l0_0 (rd l1 x24_2)).length < 17592186044416
           ·rw [if_pos c23] at H
            have LMc23 := Aside0.mk c23
            clear c23
            obtain ⟨y452, hy452⟩ : ∃ y_ : List Int, y_ = (x6_2 ++ (rd_L1 l0_0 (rd l1 x24_2))) := ⟨_, rfl⟩
            replace H : (impl_ApplyMorphism.l0 k2 y452 l1 (l1.length : Int) (wrap64 (x24_2 + 1)) l0_0) = some (r1, r2) := by first | (rw [hy452]; with_reducible exact H) | (have H2_ := (Option.bind_some _ _).symm.trans H; rw [hy452]; with_reducible exact H2_) | (have H2_ := (Option.bind_some _ _).symm.trans H; with_reducible exact H2_) | with_reducible exact H | (rw [hy452]; exact H) | exact H
            have Ny452 := Aside0.mk hy452
            clear hy452
            have H' := Aside0.mk H
            clear H
            have p450 : 0 ≤ (x24_2 : Int) := of_decide_eq_true (by first | (with_reducible assumption) | assumption)
            have q450 : x24_2 < (l1.length : Int) := of_decide_eq_true (by first | (with_reducible assumption) | assumption)
            obtain ⟨ad450, e450, hx450_0⟩ := Kd.at_int HR1.out x24_2 p450 q450
            cases e450
            replace hx450_0 := (HB.out.cell (World.block_lt_of_cell? w _ hx450_0)).trans hx450_0
            replace p450 := eq_true p450
            replace q450 := eq_true q450
            have hcz24_0 : wr.cell? ⟨gb441, 0, none⟩ = some (.slice A0_0 l0_0.length c0_0) := (blk_cell BK441.out 0).trans rfl
            have hfz24_0 := blk_frozen BK441.out 0
            have p451 : 0 ≤ ((rd l1 x24_2) : Int) := of_decide_eq_true (by first | (with_reducible assumption) | assumption)
            have q451 : (rd l1 x24_2) < (l0_0.length : Int) := of_decide_eq_true (by first | (with_reducible assumption) | assumption)
            obtain ⟨ad451, A451_0, c451_0, e451, hx451_0, hl451_0, hi451_0⟩ := at_L1 HR0_0.out (rd l1 x24_2) p451 q451
            cases e451
            replace hx451_0 := (HB.out.cell (World.block_lt_of_cell? w _ hx451_0)).trans hx451_0
            have HR451_0 := Aside0.mk hi451_0
            have HC451_0 := Aside0.mk hl451_0
            clear hi451_0 hl451_0
            replace p451 := eq_true p451
            replace q451 := eq_true q451
            go_wp2_with (first | ((with_reducible refine gate_builtin (b := .append) (xs := #[.tmp 28, .tmp 33]) rfl ?_); (try (refine gate_guard (by rfl) ?_; dsimp only)); at_builtin; refine Kd.R_append_rows (Kd.int .i64) (w0 := w) w.heap.size rfl (.tmp 28) (.tmp 33) 36 3 (.int .i64 0) 8 rfl Try.underlying36 info3 rfl (by decide) (by omega) u6 x6_2 (rd_L1 l0_0 (rd l1 x24_2)) _ _ _ (fun _ => True) (fun _ => False) rfl rfl ?aO ?aR (fun _ _ h => h) (fun _ h => h.elim) ?aF ?aB ?aS ?aL ?_; (case aR => repeat (first | exact (Kd.C_below HR451_0.out HB.out) | (with_reducible refine Kd.C_alloc ?_ _) | (with_reducible refine Kd.C_drewN ?_ _) | (with_reducible refine Kd.C_drew ?_))); (case aB => exact (by repeat (first | (with_reducible first | exact HB.out | apply below_alloc | apply pw_below_drewN | apply below_drew1 | refine below_set ?_ GE441.out) | exact HB.out))); (case aF => exact (fun _ _ => trivial)); (case aO => exact (by (with_reducible repeat (first | apply Kd.R_alloc | apply Kd.R_drewN | apply Kd.R_drew)); exact HO_6.out)); (case aS => exact (below_size (by repeat (first | (with_reducible first | exact HB.out | apply below_alloc | apply pw_below_drewN | apply below_drew1 | refine below_set ?_ GE441.out) | exact HB.out)))); (case aL => have := LMc23.out; omega); intro v453 w25 ho hb hg hat; rw [← Ny452.out] at ho; have n0_ := Aside0.mk (blk_grown (g := gb441) (o := .cells #[.slice (some ad451) l0_0.length c0_0] 28 (0, 0)) (by (with_reducible repeat (first | refine blk_drewN ?_ _ | refine blk_drew ?_ | refine blk_alloc ?_ _)); exact BK441.out) hg (Kd.R_ne HO_6.out BK441.out (by decide))); have n1_ := Aside0.mk (hb); have n2_ := Aside0.mk (ho); clear BK441; clear HB; clear HO_6; have BK441 := n0_; have HB := n1_; have HO454 := n2_; clear n0_ n1_ n2_; clear ho hb hg hat))
            go_roundg k2
            case measure => have := HJ2.out; have := HK2.out; omega
            case rel => exact ⟨(y452), (wrap64 (x24_2 + 1)), (by first | rfl | (simp; done) | (simp [*]; done)), H', ⟨by have := HJ2.out; have := HK2.out; omega⟩, ⟨by (with_reducible repeat (first | apply Kd.R_alloc | apply Kd.R_drewN | apply Kd.R_drew)); exact HO454.out⟩, ⟨by (with_reducible repeat (first | refine blk_drewN ?_ _ | refine blk_drew ?_ | refine blk_alloc ?_ _)); exact BK441.out⟩, ⟨by repeat (first | (with_reducible first | exact HB.out | apply below_alloc | apply pw_below_drewN | apply below_drew1 | refine below_set ?_ GE441.out) | exact HB.out)⟩⟩
           ·rw [if_neg c23] at H
            exact absurd H (by simp)
          ·rw [if_neg c22] at H
           exact absurd H (by simp)
         ·rw [if_neg c21] at H
          exact absurd H (by simp)
        ·rw [if_neg c20] at H
         exact absurd H (by simp)
       ·rw [if_neg c19] at H
        exact absurd H (by simp)
      ·rw [if_neg c18] at H
       have c18b0 : decide (x24_2 < (l1.length : Int)) = false := decide_eq_false c18
       clear c18
       by_cases c26 : (x6_2.length : Int) > 400
       ·rw [if_pos c26] at H
        have c26b0 : decide (400 < (x6_2.length : Int)) = true := decide_eq_true c26
        have c26b1 : decide (400 < x6_2.length) = true := decide_eq_true (by omega)
        clear c26
        obtain ⟨y455, hy455⟩ : ∃ y_ : List Int, y_ = (([] : List Int)) := ⟨_, rfl⟩
        replace H : (some (y455, false)) = some (r1, r2) := by first | (rw [hy455]; with_reducible exact H) | (have H2_ := (Option.bind_some _ _).symm.trans H; rw [hy455]; with_reducible exact H2_) | (have H2_ := (Option.bind_some _ _).symm.trans H; with_reducible exact H2_) | with_reducible exact H | (rw [hy455]; exact H) | exact H
        have Ny455 := Aside0.mk hy455
        clear hy455
        simp only [Option.some.injEq, Prod.mk.injEq] at H
        obtain ⟨rfl, rfl⟩ := H
        obtain ⟨Ao27, co27, eo27⟩ := Kd.R_slice HO_6.out
        subst eo27
        go_wp2_with (first | ((with_reducible refine gate_dst (N := 39) rfl ?_); (try (refine gate_guard (by rfl) ?_; dsimp only)); refine Kd.R_lit (Kd.int .i64) _ 3 ?hg (N := 39) ?hd (xs := ([] : List Int)) (inner := []) (ok := fun _ => True) (okp := fun _ => True) ?hr ?hp (fun _ hk => hk) trivial (Below.refl _ _) (Nat.le_refl _) (by simp) ?_; (case hd => rfl); (case hg => rfl); (case hr => first | (go_simp; done) | (go_simp; rfl)); (case hp => exact (Reps.none _ _)); intro v456 w28 ho29 hb hg_ hnew_; clear hg_ hnew_; (first | rw [← Ny455.out] at ho29 | (simp only [Int.reduceToNat] at ho29; rw [← Ny455.out] at ho29)); have n0_ := Aside0.mk (Kd.R_elder' (by (with_reducible repeat (first | apply Kd.R_alloc | apply Kd.R_drewN | apply Kd.R_drew)); exact HO_6.out) (Kd.R_base ho29) hb); have n1_ := Aside0.mk (Kd.R_lower (Kd.R_new' ho29 (Kd.R_lt (by (with_reducible repeat (first | apply Kd.R_alloc | apply Kd.R_drewN | apply Kd.R_drew)); exact HO_6.out))) (below_size (by repeat (first | (with_reducible first | exact HB.out | apply below_alloc | apply pw_below_drewN | apply below_drew1 | refine below_set ?_ GE441.out) | exact HB.out)))); have n2_ := Aside0.mk (blk_below (g := gb441) (o := .cells #[.slice A0_0 l0_0.length c0_0] 28 (0, 0)) (by (with_reducible repeat (first | refine blk_drewN ?_ _ | refine blk_drew ?_ | refine blk_alloc ?_ _)); exact BK441.out) hb); have n3_ := Aside0.mk (below_step (by repeat (first | (with_reducible first | exact HB.out | apply below_alloc | apply pw_below_drewN | apply below_drew1 | refine below_set ?_ GE441.out) | exact HB.out)) hb); clear HO_6; clear BK441; clear HB; have HO_6 := n0_; have HO457 := n1_; have BK441 := n2_; have HB := n3_; clear n0_ n1_ n2_ n3_; clear hb ho29))
        go_ret2
        exact ⟨_, by first | rfl | (simp [errW_none, errW_some] <;> rfl) | (simp [*, errW_none, errW_some] <;> rfl), by (with_reducible repeat (first | apply Kd.R_alloc | apply Kd.R_drewN | apply Kd.R_drew)); exact Kd.R_mono HO457.out (fun _ hk => trivial), by repeat (first | (with_reducible first | exact HB.out | apply below_alloc | apply pw_below_drewN | apply below_drew1 | refine below_set ?_ GE441.out) | exact HB.out)⟩
       ·rw [if_neg c26] at H
        have c26b0 : decide (400 < (x6_2.length : Int)) = false := decide_eq_false c26
        have c26b1 : decide (400 < x6_2.length) = false := decide_eq_false (by omega)
        clear c26
        simp only [Option.some.injEq, Prod.mk.injEq] at H
        obtain ⟨rfl, rfl⟩ := H
        obtain ⟨Ao30, co30, eo30⟩ := Kd.R_slice HO_6.out
        subst eo30
        go_wp2
        go_ret2
        exact ⟨_, by first | rfl | (simp [errW_none, errW_some] <;> rfl) | (simp [*, errW_none, errW_some] <;> rfl), by (with_reducible repeat (first | apply Kd.R_alloc | apply Kd.R_drewN | apply Kd.R_drew)); exact HO_6.out, by repeat (first | (with_reducible first | exact HB.out | apply below_alloc | apply pw_below_drewN | apply below_drew1 | refine below_set ?_ GE441.out) | exact HB.out)⟩

end Go.Proofs.Ytooamcjgejajeaa.M
/- Morphisms and words: program and reference tell the same and make the same images. No condition but lengths that fit. -/
namespace Go.Proofs.Ytooamcjgejajeaa.M
open Go.RowKit Go.Proofs.YtooamcjgejajeaaW.PrintWords Go.Proofs.Ytooamcjgejajeaa.K
set_option linter.unusedVariables false

def isL (w : List Int) (n : Nat) : Bool := w.all fun x => decide (0 ≤ x ∧ x < (n : Int))
theorem isL_cons (x : Int) (w : List Int) (n : Nat) : isL (x :: w) n = (decide (0 ≤ x ∧ x < (n : Int)) && isL w n) := by simp [isL]
def iw (w : List Int) (n : Nat) : Bool := isL w n && (decide (1 ≤ n ∧ n ≤ 16) && decide (w.length ≤ 400))
def mo (ms : List (List Int)) : Bool := decide (1 ≤ ms.length ∧ ms.length ≤ 16) && ms.all fun im => decide (im.length ≤ 8) && isL im ms.length

theorem specIsWord_ev (w : List Int) (n : Nat) (hw : w.length ≤ 1048576) : Ev (fun k => spec_IsWord.f k w (n : Int)) (iw w n) := by
  have key : ∀ i, i ≤ w.length → Ev (fun k => spec_IsWord.l0 k w (n : Int) (i : Int)) (isL (w.drop i) n && (decide (1 ≤ n ∧ n ≤ 16) && decide (w.length ≤ 400))) := by
    refine down w.length ?_ ?_
    · refine Ev.step (fun k => by simp only [spec_IsWord.l0]; rw [_root_.if_neg (by omega)]) ?_
      refine Ev.bind (Ev.val (l1In_val _ _ _)) ?_
      rw [List.drop_length]
      by_cases q : 1 ≤ n ∧ n ≤ 16
      · rw [decide_eq_true (show 1 ≤ (n : Int) ∧ (n : Int) ≤ 16 by omega)]
        refine Ev.if_pos rfl (Ev.same (Ev.some _) ?_)
        rw [decide_eq_true q]; simp [isL]; omega
      · rw [decide_eq_false (show ¬ (1 ≤ (n : Int) ∧ (n : Int) ≤ 16) by omega)]
        refine Ev.if_neg (by simp) (Ev.same (Ev.some _) ?_)
        rw [decide_eq_false q]; simp
    · intro i hi ih
      rw [drop_eq w i hi, isL_cons]
      refine Ev.step (fun k => by simp only [spec_IsWord.l0]; rw [_root_.if_pos (by omega), _root_.if_pos (by omega), wsucc (by omega), rd_get w i hi]) ?_
      refine Ev.ite (fun q => ?_) (fun q => ?_)
      · rw [decide_eq_false (by omega)]; exact Ev.some _
      · refine Ev.ite (fun q2 => ?_) (fun q2 => ?_)
        · rw [decide_eq_false (by omega)]; exact Ev.some _
        · rw [decide_eq_true (by omega), Bool.true_and]; exact ih
  exact key 0 (by omega)
theorem areLetters_ev (w : List Int) (n : Nat) (hw : w.length ≤ 1048576) : Ev (fun k => impl_areLetters.f k w (n : Int)) (isL w n) := by
  have key : ∀ i, i ≤ w.length → Ev (fun k => impl_areLetters.l0 k (n : Int) w (w.length : Int) (i : Int)) (isL (w.drop i) n) := by
    refine down w.length ?_ ?_
    · refine Ev.step (fun k => by simp only [impl_areLetters.l0]; rw [_root_.if_neg (by omega)]) ?_
      rw [List.drop_length]; exact Ev.some _
    · intro i hi ih
      rw [drop_eq w i hi, isL_cons]
      refine Ev.step (fun k => by simp only [impl_areLetters.l0]; rw [_root_.if_pos (by omega), _root_.if_pos (by omega), _root_.if_pos (by omega), wsucc (by omega), rd_get w i hi]) ?_
      refine Ev.ite (fun q => ?_) (fun q => ?_)
      · rw [decide_eq_false (by omega)]; exact Ev.some _
      · refine Ev.ite (fun q2 => ?_) (fun q2 => ?_)
        · rw [decide_eq_false (by omega)]; exact Ev.some _
        · rw [decide_eq_true (by omega), Bool.true_and]; exact ih
  unfold impl_areLetters.f
  exact key 0 (by omega)
theorem implIsWord_ev (w : List Int) (n : Nat) (hw : w.length ≤ 1048576) : Ev (fun k => impl_IsWord.f k w (n : Int)) (iw w n) := by
  unfold impl_IsWord.f iw
  refine Ev.ite (fun q => ?_) (fun q => ?_)
  · refine Ev.ite (fun q2 => ?_) (fun q2 => ?_)
    · refine Ev.ite (fun q3 => ?_) (fun q3 => ?_)
      · refine Ev.bind (areLetters_ev w n hw) (Ev.same (Ev.some _) ?_)
        rw [decide_eq_true (show 1 ≤ n ∧ n ≤ 16 by omega), decide_eq_true (show w.length ≤ 400 by omega)]; simp
      · refine Ev.same (Ev.some _) ?_
        rw [decide_eq_false (show ¬ w.length ≤ 400 by omega)]; simp
    · refine Ev.same (Ev.some _) ?_
      rw [decide_eq_false (show ¬ (1 ≤ n ∧ n ≤ 16) by omega)]; simp
  · refine Ev.same (Ev.some _) ?_
    rw [decide_eq_false (show ¬ (1 ≤ n ∧ n ≤ 16) by omega)]; simp

theorem implIsMorphism_ev (ms : List (List Int)) (h : ms.length ≤ 1048576) (ht : total ms ≤ 1048576) : Ev (fun k => impl_IsMorphism.f k ms) (mo ms) := by
  have key : ∀ i, i ≤ ms.length → Ev (fun k => impl_IsMorphism.l0 k (ms.length : Int) ms (ms.length : Int) (i : Int)) ((ms.drop i).all fun im => decide (im.length ≤ 8) && isL im ms.length) := by
    refine down ms.length ?_ ?_
    · refine Ev.step (fun k => by simp only [impl_IsMorphism.l0]; rw [_root_.if_neg (by omega)]) ?_
      rw [List.drop_length]; exact Ev.some _
    · intro i hi ih
      rw [drop_eq ms i hi, List.all_cons]
      refine Ev.step (fun k => by simp only [impl_IsMorphism.l0]; rw [_root_.if_pos (by omega), _root_.if_pos (by omega), _root_.if_pos (by omega), wsucc (by omega), rdLL ms i hi]) ?_
      refine Ev.ite (fun q => ?_) (fun q => ?_)
      · rw [decide_eq_false (by omega), Bool.false_and, Bool.false_and]; exact Ev.some _
      · rw [decide_eq_true (by omega), Bool.true_and]
        refine Ev.bind (areLetters_ev _ _ (by have := total_at ms i hi; omega)) ?_
        refine Ev.ite (fun q2 => ?_) (fun q2 => ?_)
        · rw [q2, Bool.true_and]; exact ih
        · rw [Bool.eq_false_iff.2 q2, Bool.false_and]; exact Ev.some _
  have big : ∀ b : Bool, b = !decide (1 ≤ ms.length ∧ ms.length ≤ 16) → Ev (fun k => impl_IsMorphism.j0 k (ms.length : Int) b ms) (mo ms) := by
    intro b hb
    subst hb
    unfold mo
    by_cases q : 1 ≤ ms.length ∧ ms.length ≤ 16
    · rw [decide_eq_true q]
      refine Ev.step (fun k => by simp only [impl_IsMorphism.j0]; rw [_root_.if_neg (by simp)]) ?_
      rw [Bool.true_and]
      exact key 0 (by omega)
    · rw [decide_eq_false q]
      refine Ev.step (fun k => by simp only [impl_IsMorphism.j0]; rw [_root_.if_pos (by simp)]) ?_
      exact Ev.some _
  unfold impl_IsMorphism.f
  refine Ev.ite (fun q => ?_) (fun q => ?_)
  · exact big true (by rw [decide_eq_false (by omega)]; rfl)
  · refine big _ ?_
    by_cases q2 : (ms.length : Int) > 16
    · rw [decide_eq_true q2, decide_eq_false (by omega)]; rfl
    · rw [decide_eq_false q2, decide_eq_true (by omega)]; rfl

theorem specIsMorphism_ev (ms : List (List Int)) (h : ms.length ≤ 1048576) (ht : total ms ≤ 1048576) : Ev (fun k => spec_IsMorphism.f k ms) (mo ms) := by
  have key : ∀ i, i ≤ ms.length → Ev (fun k => spec_IsMorphism.l0 k (i : Int) ms) (decide (1 ≤ ms.length ∧ ms.length ≤ 16) && (ms.drop i).all fun im => decide (im.length ≤ 8) && isL im ms.length) := by
    refine down ms.length ?_ ?_
    · refine Ev.step (fun k => by simp only [spec_IsMorphism.l0]; rw [_root_.if_neg (by omega)]) ?_
      refine Ev.bind (Ev.val (l1In_val _ _ _)) (Ev.same (Ev.some _) ?_)
      rw [List.drop_length]; rw [List.all_nil, Bool.and_true, decide_eq_decide]; omega
    · intro i hi ih
      rw [drop_eq ms i hi, List.all_cons]
      refine Ev.step (fun k => by simp only [spec_IsMorphism.l0]; rw [_root_.if_pos (by omega), _root_.if_pos (by omega), wsucc (by omega), rdLL ms i hi]) ?_
      refine Ev.bind (specIsWord_ev _ _ (by have := total_at ms i hi; omega)) ?_
      unfold iw
      by_cases q0 : 1 ≤ ms.length ∧ ms.length ≤ 16
      · rw [decide_eq_true q0] at ih ⊢
        rw [Bool.true_and] at ih ⊢
        rw [Bool.true_and]
        by_cases q1 : isL ms[i] ms.length = true
        · rw [q1, Bool.true_and, Bool.and_true]
          by_cases q2 : ms[i].length ≤ 400
          · rw [decide_eq_true q2]
            refine Ev.if_pos rfl (Ev.ite (fun q => ?_) (fun q => ?_))
            · rw [decide_eq_false (show ¬ ms[i].length ≤ 8 by omega), Bool.false_and]; exact Ev.some _
            · rw [decide_eq_true (show ms[i].length ≤ 8 by omega), Bool.true_and]; exact ih
          · rw [decide_eq_false q2, decide_eq_false (show ¬ ms[i].length ≤ 8 by omega), Bool.false_and]
            exact Ev.if_neg (by simp) (Ev.some _)
        · rw [Bool.eq_false_iff.2 q1, Bool.false_and, Bool.and_false, Bool.false_and]
          exact Ev.if_neg (by simp) (Ev.some _)
      · rw [decide_eq_false q0, Bool.false_and, Bool.false_and, Bool.and_false]
        exact Ev.if_neg (by simp) (Ev.some _)
  exact key 0 (by omega)

def img (ms : List (List Int)) (w : List Int) : List Int := w.flatMap fun x => rd_L1 ms x
noncomputable def am (ms : List (List Int)) (w : List Int) : List Int × Bool := if mo ms = true ∧ iw w ms.length = true then (if (img ms w).length > 400 then ([], false) else (img ms w, true)) else ([], false)
theorem am_len (ms : List (List Int)) (w : List Int) : (am ms w).1.length ≤ 400 := by
  unfold am; split <;> (try split) <;> simp; omega
theorem img_take (ms : List (List Int)) (w : List Int) (i : Nat) (h : i < w.length) : img ms (w.take (i + 1)) = img ms (w.take i) ++ rd_L1 ms w[i] := by
  unfold img; rw [take_succ w i h, List.flatMap_append]; simp
theorem img_le (ms : List (List Int)) (w : List Int) (i : Nat) : (img ms (w.take i)).length ≤ (img ms w).length := by
  have : img ms w = img ms (w.take i) ++ img ms (w.drop i) := by unfold img; rw [← List.flatMap_append, List.take_append_drop]
  rw [this, List.length_append]; omega
theorem mo_at {ms : List (List Int)} (h : mo ms = true) (i : Nat) (hi : i < ms.length) : ms[i].length ≤ 8 := by
  unfold mo at h
  rw [Bool.and_eq_true, List.all_eq_true] at h
  have := h.2 _ (List.getElem_mem hi)
  rw [Bool.and_eq_true] at this
  exact of_decide_eq_true this.1
theorem iw_at {w : List Int} {n : Nat} (h : iw w n = true) (i : Nat) (hi : i < w.length) : 0 ≤ w[i] ∧ w[i] < (n : Int) := by
  unfold iw isL at h
  rw [Bool.and_eq_true, List.all_eq_true] at h
  exact of_decide_eq_true (h.1 _ (List.getElem_mem hi))
theorem iw_len {w : List Int} {n : Nat} (h : iw w n = true) : w.length ≤ 400 := by
  unfold iw at h
  rw [Bool.and_eq_true, Bool.and_eq_true] at h
  exact of_decide_eq_true h.2.2
theorem rd_image {ms : List (List Int)} (h : mo ms = true) (x : Int) (h0 : 0 ≤ x) (h1 : x < (ms.length : Int)) : (rd_L1 ms x).length ≤ 8 := by
  obtain ⟨n, rfl⟩ : ∃ n : Nat, x = (n : Int) := ⟨x.toNat, by omega⟩
  rw [rdLL ms n (by omega)]
  exact mo_at h n (by omega)
theorem img_small {ms : List (List Int)} {w : List Int} (h : mo ms = true) (hw : iw w ms.length = true) : ∀ i, i ≤ w.length → (img ms (w.take i)).length ≤ 8 * i := by
  intro i
  induction i with
  | zero => intro _; simp [img]
  | succ i ih =>
    intro hi
    have h1 := iw_at hw i (by omega)
    have h2 := rd_image h w[i] h1.1 h1.2
    have h3 := ih (by omega)
    rw [img_take ms w i (by omega), List.length_append]; omega

theorem specApply_ev (ms : List (List Int)) (w : List Int) (h : ms.length ≤ 1048576) (ht : total ms ≤ 1048576) (hw : w.length ≤ 1048576) : Ev (fun k => spec_ApplyMorphism.f k ms w) (am ms w) := by
  have key : mo ms = true → iw w ms.length = true → ∀ i, i ≤ w.length → (img ms (w.take i)).length ≤ 400 → Ev (fun k => spec_ApplyMorphism.l0 k w (img ms (w.take i)) (i : Int) ms) (am ms w) := by
    intro hm hi0
    have e : am ms w = (if (img ms w).length > 400 then ([], false) else (img ms w, true)) := by unfold am; rw [_root_.if_pos ⟨hm, hi0⟩]
    rw [e]
    refine down w.length ?_ ?_
    · intro h1
      refine Ev.step (fun k => by simp only [spec_ApplyMorphism.l0]; rw [_root_.if_neg (by omega)]) ?_
      rw [List.take_length] at h1 ⊢
      rw [_root_.if_neg (by omega)]; exact Ev.some _
    · intro i hi ih h1
      have h2 := iw_at hi0 i hi
      have h3 := rd_image hm w[i] h2.1 h2.2
      refine Ev.step (fun k => by simp only [spec_ApplyMorphism.l0]; rw [_root_.if_pos (by omega), _root_.if_pos (by omega), wsucc (by omega), rd_get w i hi, _root_.if_pos h2.1, _root_.if_pos h2.2, _root_.if_pos (by omega), ← img_take ms w i hi]) ?_
      refine Ev.bind (Ev.some _) ?_
      refine Ev.ite (fun q => ?_) (fun q => ?_)
      · have := img_le ms w (i + 1)
        rw [_root_.if_pos (by omega)]; exact Ev.some _
      · exact ih (by omega)
  unfold spec_ApplyMorphism.f
  refine Ev.bind (Ev.some _) ?_
  refine Ev.bind (specIsMorphism_ev ms h ht) ?_
  by_cases q : mo ms = true
  · refine Ev.if_pos q (Ev.bind (specIsWord_ev _ _ hw) ?_)
    by_cases q2 : iw w ms.length = true
    · rw [q2]
      refine Ev.step (fun k => by simp only [spec_ApplyMorphism.j0]; rw [_root_.if_neg (by simp)]) ?_
      exact key q q2 0 (by omega) (by simp [img])
    · rw [Bool.eq_false_iff.2 q2]
      refine Ev.step (fun k => by simp only [spec_ApplyMorphism.j0]; rw [_root_.if_pos (by simp)]) ?_
      unfold am; rw [_root_.if_neg (fun h => q2 h.2)]; exact Ev.some _
  · refine Ev.if_neg q ?_
    refine Ev.step (fun k => by simp only [spec_ApplyMorphism.j0]; rw [_root_.if_pos trivial]) ?_
    unfold am; rw [_root_.if_neg (fun h => q h.1)]; exact Ev.some _

theorem implApply_ev (ms : List (List Int)) (w : List Int) (h : ms.length ≤ 1048576) (ht : total ms ≤ 1048576) (hw : w.length ≤ 1048576) : Ev (fun k => impl_ApplyMorphism.f k ms w) (am ms w) := by
  have key : mo ms = true → iw w ms.length = true → ∀ i, i ≤ w.length → Ev (fun k => impl_ApplyMorphism.l0 k (img ms (w.take i)) w (w.length : Int) (i : Int) ms) (am ms w) := by
    intro hm hi0
    have e : am ms w = (if (img ms w).length > 400 then ([], false) else (img ms w, true)) := by unfold am; rw [_root_.if_pos ⟨hm, hi0⟩]
    rw [e]
    refine down w.length ?_ ?_
    · refine Ev.step (fun k => by simp only [impl_ApplyMorphism.l0]; rw [_root_.if_neg (by omega)]) ?_
      rw [List.take_length]
      refine Ev.ite (fun q => ?_) (fun q => ?_)
      · rw [_root_.if_pos (by omega)]; exact Ev.some _
      · rw [_root_.if_neg (by omega)]; exact Ev.some _
    · intro i hi ih
      have h2 := iw_at hi0 i hi
      have h3 := rd_image hm w[i] h2.1 h2.2
      have h4 := img_small hm hi0 i (by omega)
      have h5 := iw_len hi0
      exact Ev.step (fun k => by simp only [impl_ApplyMorphism.l0]; rw [_root_.if_pos (by omega), _root_.if_pos (by omega), _root_.if_pos (by omega), wsucc (by omega), rd_get w i hi, _root_.if_pos h2.1, _root_.if_pos h2.2, _root_.if_pos (by omega), ← img_take ms w i hi]) ih
  unfold impl_ApplyMorphism.f
  refine Ev.bind (implIsMorphism_ev ms h ht) ?_
  by_cases q : mo ms = true
  · refine Ev.if_pos q (Ev.bind (implIsWord_ev _ _ hw) ?_)
    by_cases q2 : iw w ms.length = true
    · rw [q2]
      refine Ev.step (fun k => by simp only [impl_ApplyMorphism.j0]; rw [_root_.if_neg (by simp)]) ?_
      exact key q q2 0 (by omega)
    · rw [Bool.eq_false_iff.2 q2]
      refine Ev.step (fun k => by simp only [impl_ApplyMorphism.j0]; rw [_root_.if_pos (by simp)]) ?_
      unfold am; rw [_root_.if_neg (fun h => q2 h.2)]; exact Ev.some _
  · refine Ev.if_neg q ?_
    refine Ev.step (fun k => by simp only [impl_ApplyMorphism.j0]; rw [_root_.if_pos trivial]) ?_
    unfold am; rw [_root_.if_neg (fun h => q h.1)]; exact Ev.some _

theorem szMorphism_ev (l : List (List Int)) (h : l.length ≤ maxLen) (hx : ∀ x ∈ l, x.length ≤ maxLen) :
    Ev (fun k => laws_szMorphism.f k l 1048576) (if (1048576 : Int) < l.length + total l then -1 else 1048576 - l.length - total l) := by
  unfold laws_szMorphism.f
  refine Ev.bind (szIntSS_ev l 1048576 (by omega) (by omega) h hx) ?_
  by_cases q : (1048576 : Int) < l.length + total l
  · rw [_root_.if_pos q]; exact Ev.if_pos (by omega) (Ev.some _)
  · rw [_root_.if_neg q]; exact Ev.if_neg (by omega) (Ev.some _)
theorem toMorphism_ev (l : List (List Int)) (h : l.length ≤ 1048576) (ht : total l ≤ 1048576) : Ev (fun k => laws_toMorphism.f k l) l := by
  unfold laws_toMorphism.f
  exact Ev.bind (toIntSS_ev l h ht) (Ev.some _)
theorem eqMorphism_ev (l : List (List Int)) (h : l.length ≤ 1048576) (ht : total l ≤ 1048576) : Ev (fun k => laws_eqMorphism.f k l l) true := by
  unfold laws_eqMorphism.f
  refine Ev.bind (eqIntSS_ev l l (by omega) (fun x hx => by have := total_mem l x hx; omega)) ?_
  exact Ev.if_pos (by simp) (Ev.some _)
end Go.Proofs.Ytooamcjgejajeaa.M
/- Walks for this claim, written by a program of mine over the kit's print. No condition of mine. -/
namespace Go.Proofs.Ytooamcjgejajeaa.M
open Go.RowKit Go.Proofs.Ytooamcjgejajeaa.KW Go.Proofs.YtooamcjgejajeaaW.PrintWords Go.Proofs.YtooamcjgejajeaaW.PrintLast Go.Proofs.YtooamcjgejajeaaW.PrintMore
attribute [local go_sem] max2_int min2_int max_two min_two max_three min_three max_four min_four   -- for this text's walks alone
set_option linter.unusedVariables false
set_option linter.unusedSimpArgs false

/-! ### spec_CountLetters: function 111 -/
def spec_CountLetters.l0 : Nat → List Int → Int → Int → Int → Option (Int)
 | 0, _, _, _, _ => none
 | k + 1, x0, x1, x5, x6 => if x6 < (x0.length : Int) then (if 0 ≤ x6 then (if (rd x0 x6) = x1 then (spec_CountLetters.l0 k x0 x1 (wrap64 (x5 + 1)) (wrap64 (x6 + 1))) else (spec_CountLetters.l0 k x0 x1 x5 (wrap64 (x6 + 1)))) else (none)) else (some x5)
def spec_CountLetters.f (k : Nat) (l0 : List Int) (a1 : Int) : Option (Int) := spec_CountLetters.l0 k l0 a1 0 0
theorem spec_CountLetters.mono_l : ∀ k, (∀ y0 y1 y2 y3, LeO (spec_CountLetters.l0 k y0 y1 y2 y3) (spec_CountLetters.l0 (k + 1) y0 y1 y2 y3))
 | 0 => fun _ _ _ _ r h => by simp [spec_CountLetters.l0] at h
 | k + 1 => by
  have ih0 := spec_CountLetters.mono_l k
  ·intro y0 y1 y2 y3
   unfold spec_CountLetters.l0
   repeat' first
   | (with_reducible exact ih0 _ _ _ _)
   | (with_reducible exact LeO.refl _)
   | (with_reducible exact LeO.none _)
   | (with_reducible refine LeO.ite ?_ ?_)
   | (with_reducible refine LeO.bind ?_ (fun _ => ?_))
   | exact ih0 _ _ _ _
   | exact LeO.none _
   | refine LeO.ite ?_ ?_
   | refine LeO.bind ?_ (fun _ => ?_)
theorem spec_CountLetters.mono : ∀ a0 a1 k, LeO (spec_CountLetters.f k a0 a1) (spec_CountLetters.f (k + 1) a0 a1) := by
 intro a0 a1 k
 have ih0 := spec_CountLetters.mono_l k
 unfold spec_CountLetters.f
 repeat' first
   | (with_reducible exact ih0 _ _ _ _)
   | (with_reducible exact LeO.refl _)
   | (with_reducible exact LeO.none _)
   | (with_reducible refine LeO.ite ?_ ?_)
   | (with_reducible refine LeO.bind ?_ (fun _ => ?_))
   | exact ih0 _ _ _ _
   | exact LeO.none _
   | refine LeO.ite ?_ ?_
   | refine LeO.bind ?_ (fun _ => ?_)
set_option maxHeartbeats 8000000 in
set_option maxRecDepth 100000 in
theorem spec_CountLetters.calls (k : Nat) (A0 : Option Addr) (c0 : Nat) (l0 : List Int) (a1 : Int) (r : Int) (w : World) (hr0 : Kd.C (Kd.int .i64) w A0 l0.length l0) (hc0 : l0.length ≤ c0) (h : spec_CountLetters.f k l0 a1 = some r) :
  Calls Try.prog 111 #[.slice A0 l0.length c0, .int .i64 a1] w fun e w' => e = .returned (.int .i64 r) ∧ Drawn0 w w' := by
 have HR0 := Aside0.mk hr0
 have HC0 := Aside0.mk hc0
 clear hr0 hc0
 have H : (spec_CountLetters.l0 k l0 a1 0 0) = some r := h
 clear h
 have H' := Aside0.mk H
 clear H
 go_enter Try.func111, Try.ntmps111
 go_wp2
 go_loopg [5, 6] k (fun kq v5 v6 w' => ∃ (x5_1 : Int) (x6_1 : Int), v5 = .int .i64 x5_1 ∧ v6 = .int .i64 x6_1 ∧ Aside0 (spec_CountLetters.l0 kq l0 a1 x5_1 x6_1 = some r) ∧ Aside0 (kq ≤ k) ∧ Drawn0 w w')
 case atStart => exact ⟨(0), (0), (by first | rfl | (simp; done) | (simp [*]; done)), (by first | rfl | (simp; done) | (simp [*]; done)), H', ⟨Nat.le_refl _⟩, by repeat (first | exact Drawn0.refl _ | apply Drawn0.step)⟩
 case round =>
  clear H'
  try clear c1
  try clear p2
  obtain ⟨x5_1, x6_1, rfl, rfl, HA, HK1, ⟨m1, rfl⟩⟩ := hrel
  cases gk with
  | zero => exact absurd HA.out (by simp [spec_CountLetters.l0])
  | succ k1 =>
   have H := HA.out
   clear HA
   simp only [spec_CountLetters.l0] at H
   by_cases c3 : x6_1 < (l0.length : Int)
   ·rw [if_pos c3] at H
    have c3b0 : decide (x6_1 < (l0.length : Int)) = true := decide_eq_true c3
    clear c3
    by_cases c4 : 0 ≤ x6_1
    ·rw [if_pos c4] at H
     have c4b0 : decide (0 ≤ x6_1) = true := decide_eq_true c4
     clear c4
     by_cases c5 : (rd l0 x6_1) = a1
     ·rw [if_pos c5] at H
      have c5b0 : ((rd l0 x6_1) == a1) = true := beq_iff_eq.mpr c5
      have c5b1 : ((rd l0 x6_1) != a1) = false := bne_eq_false_iff_eq.mpr c5
      clear c5
      have H' := Aside0.mk H
      clear H
      have p113 : 0 ≤ (x6_1 : Int) := of_decide_eq_true (by first | (with_reducible assumption) | assumption)
      have q113 : x6_1 < (l0.length : Int) := of_decide_eq_true (by first | (with_reducible assumption) | assumption)
      obtain ⟨ad113, e113, hx113_0⟩ := Kd.at_int HR0.out x6_1 p113 q113
      cases e113
      replace p113 := eq_true p113
      replace q113 := eq_true q113
      go_wp2
      go_roundg k1
      case measure => have := HK1.out; omega
      case rel => exact ⟨(wrap64 (x5_1 + 1)), (wrap64 (x6_1 + 1)), (by first | rfl | (simp; done) | (simp [*]; done)), (by first | rfl | (simp; done) | (simp [*]; done)), H', ⟨by have := HK1.out; omega⟩, by repeat (first | exact Drawn0.refl _ | apply Drawn0.step)⟩
     ·rw [if_neg c5] at H
      have c5b0 : ((rd l0 x6_1) == a1) = false := beq_eq_false_iff_ne.mpr c5
      have c5b1 : ((rd l0 x6_1) != a1) = true := bne_iff_ne.mpr c5
      have H' := Aside0.mk H
      clear H
      have p113 : 0 ≤ (x6_1 : Int) := of_decide_eq_true (by first | (with_reducible assumption) | assumption)
      have q113 : x6_1 < (l0.length : Int) := of_decide_eq_true (by first | (with_reducible assumption) | assumption)
      obtain ⟨ad113, e113, hx113_0⟩ := Kd.at_int HR0.out x6_1 p113 q113
      cases e113
      replace p113 := eq_true p113
      replace q113 := eq_true q113
      go_wp2
      go_roundg k1
      case measure => have := HK1.out; omega
      case rel => exact ⟨(x5_1), (wrap64 (x6_1 + 1)), (by first | rfl | (simp; done) | (simp [*]; done)), (by first | rfl | (simp; done) | (simp [*]; done)), H', ⟨by have := HK1.out; omega⟩, by repeat (first | exact Drawn0.refl _ | apply Drawn0.step)⟩
    ·rw [if_neg c4] at H
     exact absurd H (by simp)
   ·rw [if_neg c3] at H
    have c3b0 : decide (x6_1 < (l0.length : Int)) = false := decide_eq_false c3
    clear c3
    obtain rfl := Option.some.inj H
    go_wp2
    go_ret
    exact ⟨by first | rfl | (simp; done) | (simp [*]; done), by repeat (first | exact Drawn0.refl _ | apply Drawn0.step)⟩

end Go.Proofs.Ytooamcjgejajeaa.M
/- Walks for this claim, written by a program of mine over the kit's print. No condition of mine. -/
namespace Go.Proofs.Ytooamcjgejajeaa.M
open Go.RowKit Go.Proofs.Ytooamcjgejajeaa.KW Go.Proofs.YtooamcjgejajeaaW.PrintWords Go.Proofs.YtooamcjgejajeaaW.PrintLast Go.Proofs.YtooamcjgejajeaaW.PrintMore
attribute [local go_sem] max2_int min2_int max_two min_two max_three min_three max_four min_four   -- for this text's walks alone
set_option linter.unusedVariables false
set_option linter.unusedSimpArgs false

/-! ### spec_IncidenceOf: function 16 -/
mutual
def spec_IncidenceOf.l0 : Nat → List (List Int) → Int → List (List Int) → Option ((List (List Int)) × Bool)
 | 0, _, _, _ => none
 | k + 1, x4, x5, x115000 => if x5 < (x115000.length : Int) then ((spec_IsMorphism.f k x115000).bind fun t118 => (spec_IncidenceOf.j1 k x4 x5 t118 x115000)) else (spec_IncidenceOf.j1 k x4 x5 false x115000)
def spec_IncidenceOf.j1 : Nat → List (List Int) → Int → Bool → List (List Int) → Option ((List (List Int)) × Bool)
 | 0, _, _, _, _ => none
 | k + 1, x4, x5, x17, x115000 => if x17 = true then (spec_IncidenceOf.l1 k x4 x5 (([] : List Int)) 0 x115000) else ((spec_IsMorphism.f k x115000).bind fun t119 => (some (x4, t119)))
def spec_IncidenceOf.l1 : Nat → List (List Int) → Int → List Int → Int → List (List Int) → Option ((List (List Int)) × Bool)
 | 0, _, _, _, _, _ => none
 | k + 1, x4, x5, x6, x7, x115000 => if x7 < (x115000.length : Int) then (if 0 ≤ x5 then (if x5 < (x115000.length : Int) then ((spec_CountLetters.f k (rd_L1 x115000 x5) x7).bind fun t124 => (if x6.length < 17592186044416 then (spec_IncidenceOf.l1 k x4 x5 (x6 ++ [t124]) (wrap64 (x7 + 1)) x115000) else (none))) else (none)) else (none)) else (if x4.length < 5864062014805 then (spec_IncidenceOf.l0 k (x4 ++ [x6]) (wrap64 (x5 + 1)) x115000) else (none))
end
def spec_IncidenceOf.f (k : Nat) (l0_0 : List (List Int)) : Option ((List (List Int)) × Bool) := spec_IncidenceOf.l0 k (([] : List (List Int))) 0 l0_0
theorem spec_IncidenceOf.mono_l : ∀ k, (∀ y0 y1 y2, LeO (spec_IncidenceOf.l0 k y0 y1 y2) (spec_IncidenceOf.l0 (k + 1) y0 y1 y2)) ∧ (∀ y0 y1 y2 y3, LeO (spec_IncidenceOf.j1 k y0 y1 y2 y3) (spec_IncidenceOf.j1 (k + 1) y0 y1 y2 y3)) ∧ (∀ y0 y1 y2 y3 y4, LeO (spec_IncidenceOf.l1 k y0 y1 y2 y3 y4) (spec_IncidenceOf.l1 (k + 1) y0 y1 y2 y3 y4))
 | 0 => ⟨fun _ _ _ r h => by simp [spec_IncidenceOf.l0] at h, fun _ _ _ _ r h => by simp [spec_IncidenceOf.j1] at h, fun _ _ _ _ _ r h => by simp [spec_IncidenceOf.l1] at h⟩
 | k + 1 => by
  obtain ⟨ih0, ih1, ih2⟩ := spec_IncidenceOf.mono_l k
  refine ⟨?_, ?_, ?_⟩
  ·intro y0 y1 y2
   unfold spec_IncidenceOf.l0
   repeat' first
   | (with_reducible exact ih0 _ _ _)
   | (with_reducible exact ih1 _ _ _ _)
   | (with_reducible exact ih2 _ _ _ _ _)
   | (with_reducible exact spec_CountLetters.mono _ _ _)
   | (with_reducible exact spec_IsMorphism.mono _ _)
   | (with_reducible exact LeO.refl _)
   | (with_reducible exact LeO.none _)
   | (with_reducible refine LeO.ite ?_ ?_)
   | (with_reducible refine LeO.bind ?_ (fun _ => ?_))
   | exact ih0 _ _ _
   | exact ih1 _ _ _ _
   | exact ih2 _ _ _ _ _
   | exact spec_CountLetters.mono _ _ _
   | exact spec_IsMorphism.mono _ _
   | exact LeO.none _
   | refine LeO.ite ?_ ?_
   | refine LeO.bind ?_ (fun _ => ?_)
  ·intro y0 y1 y2 y3
   unfold spec_IncidenceOf.j1
   repeat' first
   | (with_reducible exact ih0 _ _ _)
   | (with_reducible exact ih1 _ _ _ _)
   | (with_reducible exact ih2 _ _ _ _ _)
   | (with_reducible exact spec_CountLetters.mono _ _ _)
   | (with_reducible exact spec_IsMorphism.mono _ _)
   | (with_reducible exact LeO.refl _)
   | (with_reducible exact LeO.none _)
   | (with_reducible refine LeO.ite ?_ ?_)
   | (with_reducible refine LeO.bind ?_ (fun _ => ?_))
   | exact ih0 _ _ _
   | exact ih1 _ _ _ _
   | exact ih2 _ _ _ _ _
   | exact spec_CountLetters.mono _ _ _
   | exact spec_IsMorphism.mono _ _
   | exact LeO.none _
   | refine LeO.ite ?_ ?_
   | refine LeO.bind ?_ (fun _ => ?_)
  ·intro y0 y1 y2 y3 y4
   unfold spec_IncidenceOf.l1
   repeat' first
   | (with_reducible exact ih0 _ _ _)
   | (with_reducible exact ih1 _ _ _ _)
   | (with_reducible exact ih2 _ _ _ _ _)
   | (with_reducible exact spec_CountLetters.mono _ _ _)
   | (with_reducible exact spec_IsMorphism.mono _ _)
   | (with_reducible exact LeO.refl _)
   | (with_reducible exact LeO.none _)
   | (with_reducible refine LeO.ite ?_ ?_)
   | (with_reducible refine LeO.bind ?_ (fun _ => ?_))
   | exact ih0 _ _ _
   | exact ih1 _ _ _ _
   | exact ih2 _ _ _ _ _
   | exact spec_CountLetters.mono _ _ _
   | exact spec_IsMorphism.mono _ _
   | exact LeO.none _
   | refine LeO.ite ?_ ?_
   | refine LeO.bind ?_ (fun _ => ?_)
theorem spec_IncidenceOf.mono : ∀ a0 k, LeO (spec_IncidenceOf.f k a0) (spec_IncidenceOf.f (k + 1) a0) := by
 intro a0 k
 obtain ⟨ih0, ih1, ih2⟩ := spec_IncidenceOf.mono_l k
 unfold spec_IncidenceOf.f
 repeat' first
   | (with_reducible exact ih0 _ _ _)
   | (with_reducible exact ih1 _ _ _ _)
   | (with_reducible exact ih2 _ _ _ _ _)
   | (with_reducible exact spec_CountLetters.mono _ _ _)
   | (with_reducible exact spec_IsMorphism.mono _ _)
   | (with_reducible exact LeO.refl _)
   | (with_reducible exact LeO.none _)
   | (with_reducible refine LeO.ite ?_ ?_)
   | (with_reducible refine LeO.bind ?_ (fun _ => ?_))
   | exact ih0 _ _ _
   | exact ih1 _ _ _ _
   | exact ih2 _ _ _ _ _
   | exact spec_CountLetters.mono _ _ _
   | exact spec_IsMorphism.mono _ _
   | exact LeO.none _
   | refine LeO.ite ?_ ?_
   | refine LeO.bind ?_ (fun _ => ?_)
set_option maxHeartbeats 8000000 in
set_option maxRecDepth 100000 in
theorem spec_IncidenceOf.calls (k : Nat) (A0_0 : Option Addr) (c0_0 : Nat) (l0_0 : List (List Int)) (r1 : List (List Int)) (r2 : Bool) (w : World) (hr0_0 : Kd.C (Kd.slice 3 (Kd.int .i64)) w A0_0 l0_0.length l0_0) (hc0_0 : l0_0.length ≤ c0_0) (h : spec_IncidenceOf.f k l0_0 = some (r1, r2)) :
  Calls Try.prog 16 #[.agg #[.slice A0_0 l0_0.length c0_0]] w fun e w' => ∃ v0_ : Value, e = .returned (.tuple #[v0_, .bool r2]) ∧ Kd.S (Kd.slice 3 (Kd.int .i64)) 36 w' w.heap.size (fun _ => True) v0_ r1 ∧ Below w.heap.size w w' := by
 have hu28 := Try.underlying28
 have HR0_0 := Aside0.mk hr0_0
 have HC0_0 := Aside0.mk hc0_0
 clear hr0_0 hc0_0
 have HB := Aside0.mk (Below.refl w.heap.size w)
 have H : (spec_IncidenceOf.l0 k (([] : List (List Int))) 0 l0_0) = some (r1, r2) := h
 clear h
 obtain ⟨y115, hy115⟩ : ∃ y_ : List (List Int), y_ = (([] : List (List Int))) := ⟨_, rfl⟩
 replace H : (spec_IncidenceOf.l0 k y115 0 l0_0) = some (r1, r2) := by first | (rw [hy115]; with_reducible exact H) | (have H2_ := (Option.bind_some _ _).symm.trans H; rw [hy115]; with_reducible exact H2_) | (have H2_ := (Option.bind_some _ _).symm.trans H; with_reducible exact H2_) | with_reducible exact H | (rw [hy115]; exact H) | exact H
 have Ny115 := Aside0.mk hy115
 clear hy115
 have H' := Aside0.mk H
 clear H
 go_enter Try.func16, Try.ntmps16
 go_wp2_with (first | ((with_reducible refine gate_dst (N := 1) rfl ?_); refine box_event ?hg (N := 1) ?hd (cs := #[.slice A0_0 l0_0.length c0_0]) (t := 28) ?hr ?_; (case hd => rfl); (case hg => rfl); (case hr => first | (go_simp; done) | (go_simp; rfl)); intro gb114 hg w2 hbox hb; have n0_ := Aside0.mk (below_step (by repeat (first | (with_reducible first | exact HB.out | apply below_alloc | apply pw_below_drewN | apply below_drew1) | exact HB.out)) hb); have n1_ := Aside0.mk (hbox); have n2_ := Aside0.mk ((by rw [hg]; exact (below_size (by repeat (first | (with_reducible first | exact HB.out | apply below_alloc | apply pw_below_drewN | apply below_drew1) | exact HB.out))) : w.heap.size ≤ gb114)); have n3_ := Aside0.mk ((by rw [hg]; exact (below_size (by repeat (first | (with_reducible first | exact HB.out | apply below_alloc | apply pw_below_drewN | apply below_drew1) | exact HB.out))) : w.heap.size ≤ gb114)); clear HB; have HB := n0_; have BK114 := n1_; have GW114 := n2_; have GE114 := n3_; clear n0_ n1_ n2_ n3_; clear hb hbox hg) | ((with_reducible refine gate_dst (N := 8) rfl ?_); refine Kd.S_lit (Kd.slice 3 (Kd.int .i64)) _ 36 ?hg (N := 8) ?hd (xs := ([] : List (List Int))) (inner := []) (ok := fun _ => True) (okp := fun _ => True) ?hr ?hp (fun _ hk => hk) trivial (Below.refl _ _) (Nat.le_refl _) (by simp) ?_; (case hd => rfl); (case hg => rfl); (case hr => first | (go_simp; done) | (go_simp; rfl)); (case hp => exact (Reps.none _ _)); intro v116 w3 ho4 hb hg_ hnew_; clear hg_ hnew_; (first | rw [← Ny115.out] at ho4 | (simp only [Int.reduceToNat] at ho4; rw [← Ny115.out] at ho4)); have n0_ := Aside0.mk (Kd.S_lower ho4 (below_size (by repeat (first | (with_reducible first | exact HB.out | apply below_alloc | apply pw_below_drewN | apply below_drew1 | refine below_set ?_ GE114.out) | exact HB.out)))); have n1_ := Aside0.mk (blk_below (g := gb114) (o := .cells #[.slice A0_0 l0_0.length c0_0] 28 (0, 0)) (by (with_reducible repeat (first | refine blk_drewN ?_ _ | refine blk_drew ?_ | refine blk_alloc ?_ _)); exact BK114.out) hb); have n2_ := Aside0.mk (below_step (by repeat (first | (with_reducible first | exact HB.out | apply below_alloc | apply pw_below_drewN | apply below_drew1 | refine below_set ?_ GE114.out) | exact HB.out)) hb); clear BK114; clear HB; have HO117 := n0_; have BK114 := n1_; have HB := n2_; clear n0_ n1_ n2_; clear hb ho4))
 go_loopg [4, 5] k (fun kq v4 v5 w' => ∃ (x4_1 : List (List Int)) (x5_1 : Int), v5 = .int .i64 x5_1 ∧ Aside0 (spec_IncidenceOf.l0 kq x4_1 x5_1 l0_0 = some (r1, r2)) ∧ Aside0 (kq ≤ k) ∧ Aside0 (Kd.S (Kd.slice 3 (Kd.int .i64)) 36 w' w.heap.size (fun _ => True) v4 x4_1) ∧ Aside0 (w'.heap[gb114]? = some (.cells #[(.slice A0_0 l0_0.length c0_0)] 28 (0, 0))) ∧ Aside0 (Below w.heap.size w w'))
 case atStart => exact ⟨(y115), (0), (by first | rfl | (simp; done) | (simp [*]; done)), H', ⟨Nat.le_refl _⟩, ⟨by (with_reducible repeat (first | apply Kd.S_alloc | apply Kd.S_drewN | apply Kd.S_drew)); exact HO117.out⟩, ⟨by (with_reducible repeat (first | refine blk_drewN ?_ _ | refine blk_drew ?_ | refine blk_alloc ?_ _)); exact BK114.out⟩, ⟨by repeat (first | (with_reducible first | exact HB.out | apply below_alloc | apply pw_below_drewN | apply below_drew1 | refine below_set ?_ GE114.out) | exact HB.out)⟩⟩
 case round =>
  clear H'
  try clear c1
  try clear p2
  obtain ⟨x4_1, x5_1, rfl, HA, HK1, HO_4, BK114, HB⟩ := hrel
  cases gk with
  | zero => exact absurd HA.out (by simp [spec_IncidenceOf.l0])
  | succ k1 =>
   have H := HA.out
   clear HA
   simp only [spec_IncidenceOf.l0] at H
   have HC5 := Aside0.mk H
   clear H
   go_upto_region 3 with (fail)
   go_cut [17] (fun v17 wc => ∃ (kq : Nat) (x17_4 : Bool), v17 = .bool x17_4 ∧ Aside0 (spec_IncidenceOf.j1 kq x4_1 x5_1 x17_4 l0_0 = some (r1, r2)) ∧ Aside0 (kq ≤ k1) ∧ Aside0 (Kd.S (Kd.slice 3 (Kd.int .i64)) 36 wc w.heap.size (fun _ => True) u4 x4_1) ∧ Aside0 (wc.heap[gb114]? = some (.cells #[(.slice A0_0 l0_0.length c0_0)] 28 (0, 0))) ∧ Aside0 (Below w.heap.size w wc))
   case first =>
    have H := HC5.out
    clear HC5
    by_cases c6 : x5_1 < (l0_0.length : Int)
    ·rw [if_pos c6] at H
     have c6b0 : decide (x5_1 < (l0_0.length : Int)) = true := decide_eq_true c6
     clear c6
     (first | rw [c6b0] | (simp only [i64_w, i32_w]; rw [c6b0]) | skip)
     replace H := Option.bind_eq_some_iff.mp H
     obtain ⟨t118, A70, H⟩ := H
     replace H : (spec_IncidenceOf.j1 k1 x4_1 x5_1 t118 l0_0) = some (r1, r2) := H
     have A7 := Aside0.mk A70
     clear A70
     have H' := Aside0.mk H
     clear H
     have hcz8_0 : wr.cell? ⟨gb114, 0, none⟩ = some (.slice A0_0 l0_0.length c0_0) := (blk_cell BK114.out 0).trans rfl
     have hfz8_0 := blk_frozen BK114.out 0
     go_wp2_with (first | (go_at_call 109; (with_reducible refine (spec_IsMorphism.calls k1 _ _ l0_0 t118 _ ?side1 ?side2 A7.out).mono ?_); (case side1 => repeat (first | exact (Kd.C_below HR0_0.out HB.out) | (with_reducible refine Kd.C_alloc ?_ _) | (with_reducible refine Kd.C_drewN ?_ _) | (with_reducible refine Kd.C_drew ?_))); (case side2 => exact HC0_0.out); rintro e w9 ⟨rfl, hb⟩; have n0_ := Aside0.mk (Kd.S_below (by (with_reducible repeat (first | apply Kd.S_alloc | apply Kd.S_drewN | apply Kd.S_drew)); exact HO_4.out) hb); have n1_ := Aside0.mk (blk_below (g := gb114) (o := .cells #[.slice A0_0 l0_0.length c0_0] 28 (0, 0)) (by (with_reducible repeat (first | refine blk_drewN ?_ _ | refine blk_drew ?_ | refine blk_alloc ?_ _)); exact BK114.out) hb); have n2_ := Aside0.mk (below_step (by repeat (first | (with_reducible first | exact HB.out | apply below_alloc | apply pw_below_drewN | apply below_drew1 | refine below_set ?_ GE114.out) | exact HB.out)) hb); clear HO_4; clear BK114; clear HB; have HO_4 := n0_; have BK114 := n1_; have HB := n2_; clear n0_ n1_ n2_; (try clear hb); (try clear hb2); (try clear hk); (try clear hi)))
     go_meet
     case rel => exact ⟨_, (t118), (by first | rfl | (simp; done) | (simp [*]; done)), H', ⟨by have := HK1.out; first | omega | exact Nat.le_refl _⟩, ⟨by (with_reducible repeat (first | apply Kd.S_alloc | apply Kd.S_drewN | apply Kd.S_drew)); exact HO_4.out⟩, ⟨by (with_reducible repeat (first | refine blk_drewN ?_ _ | refine blk_drew ?_ | refine blk_alloc ?_ _)); exact BK114.out⟩, ⟨by repeat (first | (with_reducible first | exact HB.out | apply below_alloc | apply pw_below_drewN | apply below_drew1 | refine below_set ?_ GE114.out) | exact HB.out)⟩⟩
    ·rw [if_neg c6] at H
     have c6b0 : decide (x5_1 < (l0_0.length : Int)) = false := decide_eq_false c6
     clear c6
     (first | rw [c6b0] | (simp only [i64_w, i32_w]; rw [c6b0]) | skip)
     have H' := Aside0.mk H
     clear H
     have hcz10_0 : wr.cell? ⟨gb114, 0, none⟩ = some (.slice A0_0 l0_0.length c0_0) := (blk_cell BK114.out 0).trans rfl
     have hfz10_0 := blk_frozen BK114.out 0
     go_wp2
     go_meet
     case rel => exact ⟨_, (false), (by first | rfl | (simp; done) | (simp [*]; done)), H', ⟨by have := HK1.out; first | omega | exact Nat.le_refl _⟩, ⟨by (with_reducible repeat (first | apply Kd.S_alloc | apply Kd.S_drewN | apply Kd.S_drew)); exact HO_4.out⟩, ⟨by (with_reducible repeat (first | refine blk_drewN ?_ _ | refine blk_drew ?_ | refine blk_alloc ?_ _)); exact BK114.out⟩, ⟨by repeat (first | (with_reducible first | exact HB.out | apply below_alloc | apply pw_below_drewN | apply below_drew1 | refine below_set ?_ GE114.out) | exact HB.out)⟩⟩
   case rest =>
    clear HC5
    try clear c1
    try clear p2
    try clear c6
    try clear c6b0
    try clear hcz10_0
    try clear hcz8_0
    try clear hfz10_0
    try clear hfz8_0
    try clear p2
    obtain ⟨kq, x17_4, rfl, HA, HJ4, HO_4, BK114, HB⟩ := hcut
    cases kq with
    | zero => exact absurd HA.out (by simp [spec_IncidenceOf.j1])
    | succ kj4 =>
     have H := HA.out
     clear HA
     simp only [spec_IncidenceOf.j1] at H
     by_cases c11 : x17_4 = true
     ·subst c11
      have H1 : (spec_IncidenceOf.l1 kj4 x4_1 x5_1 (([] : List Int)) 0 l0_0) = some (r1, r2) := by rw [if_pos rfl] at H; exact H
      clear H
      have H := H1
      clear H1
      obtain ⟨y120, hy120⟩ : ∃ y_ : List Int, y_ = (([] : List Int)) := ⟨_, rfl⟩
      replace H : (spec_IncidenceOf.l1 kj4 x4_1 x5_1 y120 0 l0_0) = some (r1, r2) := by first | (rw [hy120]; with_reducible exact H) | (have H2_ := (Option.bind_some _ _).symm.trans H; rw [hy120]; with_reducible exact H2_) | (have H2_ := (Option.bind_some _ _).symm.trans H; with_reducible exact H2_) | with_reducible exact H | (rw [hy120]; exact H) | exact H
      have Ny120 := Aside0.mk hy120
      clear hy120
      have H' := Aside0.mk H
      clear H
      go_wp2_with (first | ((with_reducible refine gate_dst (N := 20) rfl ?_); refine Kd.R_lit (Kd.int .i64) _ 3 ?hg (N := 20) ?hd (xs := ([] : List Int)) (inner := []) (ok := fun _ => True) (okp := fun _ => True) ?hr ?hp (fun _ hk => hk) trivial (Below.refl _ _) (Nat.le_refl _) (by simp) ?_; (case hd => rfl); (case hg => rfl); (case hr => first | (go_simp; done) | (go_simp; rfl)); (case hp => exact (Reps.none _ _)); intro v121 w12 ho13 hb hg_ hnew_; clear hg_ hnew_; (first | rw [← Ny120.out] at ho13 | (simp only [Int.reduceToNat] at ho13; rw [← Ny120.out] at ho13)); have n0_ := Aside0.mk (Kd.S_elder' (by (with_reducible repeat (first | apply Kd.S_alloc | apply Kd.S_drewN | apply Kd.S_drew)); exact HO_4.out) (Kd.R_base ho13) hb); have n1_ := Aside0.mk (Kd.R_lower ho13 (below_size (by repeat (first | (with_reducible first | exact HB.out | apply below_alloc | apply pw_below_drewN | apply below_drew1 | refine below_set ?_ GE114.out) | exact HB.out)))); have n2_ := Aside0.mk (blk_below (g := gb114) (o := .cells #[.slice A0_0 l0_0.length c0_0] 28 (0, 0)) (by (with_reducible repeat (first | refine blk_drewN ?_ _ | refine blk_drew ?_ | refine blk_alloc ?_ _)); exact BK114.out) hb); have n3_ := Aside0.mk (below_step (by repeat (first | (with_reducible first | exact HB.out | apply below_alloc | apply pw_below_drewN | apply below_drew1 | refine below_set ?_ GE114.out) | exact HB.out)) hb); clear HO_4; clear BK114; clear HB; have HO_4 := n0_; have HO122 := n1_; have BK114 := n2_; have HB := n3_; clear n0_ n1_ n2_ n3_; clear hb ho13))
      go_loopg [6, 7] kj4 (fun kq v6 v7 w' => ∃ (x6_3 : List Int) (x7_3 : Int), v7 = .int .i64 x7_3 ∧ Aside0 (spec_IncidenceOf.l1 kq x4_1 x5_1 x6_3 x7_3 l0_0 = some (r1, r2)) ∧ Aside0 (kq ≤ kj4) ∧ Aside0 (Kd.S (Kd.slice 3 (Kd.int .i64)) 36 w' w.heap.size (fun k_ => some k_ ≠ (v6 : Value).ownBlock) u4 x4_1) ∧ Aside0 (Kd.R (Kd.int .i64) 3 w' w.heap.size (fun _ => True) v6 x6_3) ∧ Aside0 (w'.heap[gb114]? = some (.cells #[(.slice A0_0 l0_0.length c0_0)] 28 (0, 0))) ∧ Aside0 (Below w.heap.size w w'))
      case atStart => exact ⟨(y120), (0), (by first | rfl | (simp; done) | (simp [*]; done)), H', ⟨Nat.le_refl _⟩, ⟨by (with_reducible repeat (first | apply Kd.S_alloc | apply Kd.S_drewN | apply Kd.S_drew)); exact Kd.S_mono HO_4.out (fun _ hk => hk.2)⟩, ⟨by (with_reducible repeat (first | apply Kd.R_alloc | apply Kd.R_drewN | apply Kd.R_drew)); exact HO122.out⟩, ⟨by (with_reducible repeat (first | refine blk_drewN ?_ _ | refine blk_drew ?_ | refine blk_alloc ?_ _)); exact BK114.out⟩, ⟨by repeat (first | (with_reducible first | exact HB.out | apply below_alloc | apply pw_below_drewN | apply below_drew1 | refine below_set ?_ GE114.out) | exact HB.out)⟩⟩
      case round =>
       clear H'
       try clear c1
       try clear p2
       try clear c6
       try clear c6b0
       try clear c11
       try clear hcz10_0
       try clear hcz8_0
       try clear hfz10_0
       try clear hfz8_0
       try clear p2
       obtain ⟨x6_3, x7_3, rfl, HA, HK3, HO_4, HO_6, BK114, HB⟩ := hrel
       cases gk with
       | zero => exact absurd HA.out (by simp [spec_IncidenceOf.l1])
       | succ k3 =>
        have H := HA.out
        clear HA
        simp only [spec_IncidenceOf.l1] at H
        by_cases c14 : x7_3 < (l0_0.length : Int)
        ·rw [if_pos c14] at H
         have c14b0 : decide (x7_3 < (l0_0.length : Int)) = true := decide_eq_true c14
         clear c14
         by_cases c15 : 0 ≤ x5_1
         ·rw [if_pos c15] at H
          have c15b0 : decide (0 ≤ x5_1) = true := decide_eq_true c15
          clear c15
          by_cases c16 : x5_1 < (l0_0.length : Int)
          ·rw [if_pos c16] at H
           have c16b0 : decide (x5_1 < (l0_0.length : Int)) = true := decide_eq_true c16
           clear c16
           replace H := Option.bind_eq_some_iff.mp H
           obtain ⟨t124, A170, H⟩ := H
           replace H : (if x6_3.length < 17592186044416 then (spec_IncidenceOf.l1 k3 x4_1 x5_1 (x6_3 ++ [t124]) (wrap64 (x7_3 + 1)) l0_0) else (none)) = some (r1, r2) := H
           have A17 := Aside0.mk A170
           clear A170
           by_cases c18 : x6_3.length < 17592186044416
           ·rw [if_pos c18] at H
            have LMc18 := Aside0.mk c18
            clear c18
            obtain ⟨y125, hy125⟩ : ∃ y_ : List Int, y_ = (x6_3 ++ [t124]) := ⟨_, rfl⟩
            replace H : (spec_IncidenceOf.l1 k3 x4_1 x5_1 y125 (wrap64 (x7_3 + 1)) l0_0) = some (r1, r2) := by first | (rw [hy125]; with_reducible exact H) | (have H2_ := (Option.bind_some _ _).symm.trans H; rw [hy125]; with_reducible exact H2_) | (have H2_ := (Option.bind_some _ _).symm.trans H; with_reducible exact H2_) | with_reducible exact H | (rw [hy125]; exact H) | exact H
            have Ny125 := Aside0.mk hy125
            clear hy125
            have H' := Aside0.mk H
            clear H
            have hcz19_0 : wr.cell? ⟨gb114, 0, none⟩ = some (.slice A0_0 l0_0.length c0_0) := (blk_cell BK114.out 0).trans rfl
            have hfz19_0 := blk_frozen BK114.out 0
            have p123 : 0 ≤ (x5_1 : Int) := of_decide_eq_true (by first | (with_reducible assumption) | assumption)
            have q123 : x5_1 < (l0_0.length : Int) := of_decide_eq_true (by first | (with_reducible assumption) | assumption)
            obtain ⟨ad123, A123_0, c123_0, e123, hx123_0, hl123_0, hi123_0⟩ := at_L1 HR0_0.out x5_1 p123 q123
            cases e123
            replace hx123_0 := (HB.out.cell (World.block_lt_of_cell? w _ hx123_0)).trans hx123_0
            have HR123_0 := Aside0.mk hi123_0
            have HC123_0 := Aside0.mk hl123_0
            clear hi123_0 hl123_0
            replace p123 := eq_true p123
            replace q123 := eq_true q123
            go_wp2_with (first | ((with_reducible refine gate_callee (f := 111) rfl ?_); refine goesL_ (some 35) rfl rfl Try.func111 (by kernel_rfl) rfl #[.slice A123_0 (rd_L1 l0_0 x5_1).length c123_0, .int .i64 x7_3] rfl (by (try simp only [List.map_toArray, List.map_cons, List.map_nil]); first | done | rfl | (simp only [List.length_drop, List.length_take]; rfl)) ?_; (with_reducible refine (spec_CountLetters.calls k3 _ _ (rd_L1 l0_0 x5_1) x7_3 t124 _ ?side1 ?side2 A17.out).mono ?_); (case side1 => repeat (first | exact (Kd.C_below HR123_0.out HB.out) | (with_reducible refine Kd.C_alloc ?_ _) | (with_reducible refine Kd.C_drewN ?_ _) | (with_reducible refine Kd.C_drew ?_))); (case side2 => exact HC123_0.out); rintro e w' ⟨rfl, ⟨nd, rfl⟩⟩; refine ⟨_, rfl, ?_⟩) | ((with_reducible refine gate_builtin (b := .append) (xs := #[.tmp 28, .tmp 36]) rfl ?_); at_builtin; refine Kd.R_append (Kd.int .i64) (w0 := w) w.heap.size rfl (.tmp 28) (.tmp 36) 36 3 (.int .i64 0) 8 rfl Try.underlying36 info3 rfl (by decide) (by omega) u6 x6_3 t124 [.int .i64 t124] (fun _ => True) (fun _ => False) rfl rfl ?aP (fun _ hk => hk.elim) ?aF ?aO ?aB ?aS ?aL ?_; (case aP => exact rfl); (case aB => exact (by repeat (first | (with_reducible first | exact HB.out | apply below_alloc | apply pw_below_drewN | apply below_drew1 | refine below_set ?_ GE114.out) | exact HB.out))); (case aF => exact (fun _ _ => trivial)); (case aO => exact (by (with_reducible repeat (first | apply Kd.R_alloc | apply Kd.R_drewN | apply Kd.R_drew)); exact HO_6.out)); (case aS => exact (below_size (by repeat (first | (with_reducible first | exact HB.out | apply below_alloc | apply pw_below_drewN | apply below_drew1 | refine below_set ?_ GE114.out) | exact HB.out)))); (case aL => have := LMc18.out; omega); intro v126 w20 ho hb hg hat; rw [← Ny125.out] at ho; have n0_ := Aside0.mk (Kd.S_after (ok := (fun _ => True)) (by (with_reducible repeat (first | apply Kd.S_alloc | apply Kd.S_drewN | apply Kd.S_drew)); exact Kd.S_mono HO_4.out (fun _ hk => ⟨trivial, hk⟩)) hg hat); have n1_ := Aside0.mk (blk_grown (g := gb114) (o := .cells #[.slice (some ad123) l0_0.length c0_0] 28 (0, 0)) (by (with_reducible repeat (first | refine blk_drewN ?_ _ | refine blk_drew ?_ | refine blk_alloc ?_ _)); exact BK114.out) hg (Kd.R_ne HO_6.out BK114.out (by decide))); have n2_ := Aside0.mk (hb); have n3_ := Aside0.mk (ho); clear HO_4; clear BK114; clear HB; clear HO_6; have HO_4 := n0_; have BK114 := n1_; have HB := n2_; have HO127 := n3_; clear n0_ n1_ n2_ n3_; clear ho hb hg hat))
            go_roundg k3
            case measure => have := HK1.out; have := HJ4.out; have := HK3.out; omega
            case rel => exact ⟨(y125), (wrap64 (x7_3 + 1)), (by first | rfl | (simp; done) | (simp [*]; done)), H', ⟨by have := HK1.out; have := HJ4.out; have := HK3.out; omega⟩, ⟨by (with_reducible repeat (first | apply Kd.S_alloc | apply Kd.S_drewN | apply Kd.S_drew)); exact Kd.S_mono HO_4.out (fun _ hk => hk.2)⟩, ⟨by (with_reducible repeat (first | apply Kd.R_alloc | apply Kd.R_drewN | apply Kd.R_drew)); exact HO127.out⟩, ⟨by (with_reducible repeat (first | refine blk_drewN ?_ _ | refine blk_drew ?_ | refine blk_alloc ?_ _)); exact BK114.out⟩, ⟨by repeat (first | (with_reducible first | exact HB.out | apply below_alloc | apply pw_below_drewN | apply below_drew1 | refine below_set ?_ GE114.out) | exact HB.out)⟩⟩
           ·rw [if_neg c18] at H
            exact absurd H (by simp)
          ·rw [if_neg c16] at H
           exact absurd H (by simp)
         ·rw [if_neg c15] at H
          exact absurd H (by simp)
        ·rw [if_neg c14] at H
         have c14b0 : decide (x7_3 < (l0_0.length : Int)) = false := decide_eq_false c14
         clear c14
         by_cases c21 : x4_1.length < 5864062014805
         ·rw [if_pos c21] at H
          have LMc21 := Aside0.mk c21
          clear c21
          obtain ⟨y128, hy128⟩ : ∃ y_ : List (List Int), y_ = (x4_1 ++ [x6_3]) := ⟨_, rfl⟩
          replace H : (spec_IncidenceOf.l0 k3 y128 (wrap64 (x5_1 + 1)) l0_0) = some (r1, r2) := by first | (rw [hy128]; with_reducible exact H) | (have H2_ := (Option.bind_some _ _).symm.trans H; rw [hy128]; with_reducible exact H2_) | (have H2_ := (Option.bind_some _ _).symm.trans H; with_reducible exact H2_) | with_reducible exact H | (rw [hy128]; exact H) | exact H
          have Ny128 := Aside0.mk hy128
          clear hy128
          have H' := Aside0.mk H
          clear H
          have hcz22_0 : wr.cell? ⟨gb114, 0, none⟩ = some (.slice A0_0 l0_0.length c0_0) := (blk_cell BK114.out 0).trans rfl
          have hfz22_0 := blk_frozen BK114.out 0
          obtain ⟨Ao24, co24, eo24⟩ := Kd.R_slice HO_6.out
          subst eo24
          go_wp2_with (first | ((with_reducible refine gate_builtin (b := .append) (xs := #[.tmp 38, .tmp 40]) rfl ?_); at_builtin; refine Kd.S_append (Kd.slice 3 (Kd.int .i64)) (w0 := w) w.heap.size rfl (.tmp 38) (.tmp 40) 22 36 (.slice none 0 0) 24 rfl Try.underlying22 info36 rfl (by decide) (by omega) u4 x4_1 x6_3 [.slice Ao24 x6_3.length co24] (fun _ => True) (fun k_ => some k_ = (.slice Ao24 x6_3.length co24 : Value).ownBlock) rfl rfl ?aP (fun k_ hk_ => ((Kd.R_mono (ok' := fun k_ => ((fun _ => True)) k_ ∧ some k_ ≠ (u4 : Value).ownBlock) (Kd.R_apart' (HO_6.out) (Kd.S_typed HO_4.out) (by decide)) (fun k_ hk => ⟨trivial, hk.2⟩))).1 k_ hk_.symm) ?aF ?aO ?aB ?aS ?aL ?_; (case aP => exact Kd.M_row (Kd.R_mono (Kd.R_tight rfl (Kd.R_mono (ok' := fun k_ => ((fun _ => True)) k_ ∧ some k_ ≠ (u4 : Value).ownBlock) (Kd.R_apart' (HO_6.out) (Kd.S_typed HO_4.out) (by decide)) (fun k_ hk => ⟨trivial, hk.2⟩))) (fun _ h_ => h_))); (case aB => exact (by repeat (first | (with_reducible first | exact HB.out | apply below_alloc | apply pw_below_drewN | apply below_drew1 | refine below_set ?_ GE114.out) | exact HB.out))); (case aF => exact (fun _ _ => trivial)); (case aO => exact (by (with_reducible repeat (first | apply Kd.S_alloc | apply Kd.S_drewN | apply Kd.S_drew)); exact Kd.S_mono HO_4.out (fun k_ hk => ⟨trivial, fun e_ => hk e_⟩))); (case aS => exact (below_size (by repeat (first | (with_reducible first | exact HB.out | apply below_alloc | apply pw_below_drewN | apply below_drew1 | refine below_set ?_ GE114.out) | exact HB.out)))); (case aL => have := LMc21.out; omega); intro v129 w23 ho hb hg hat; rw [← Ny128.out] at ho; have n0_ := Aside0.mk (blk_grown (g := gb114) (o := .cells #[.slice A0_0 l0_0.length c0_0] 28 (0, 0)) (by (with_reducible repeat (first | refine blk_drewN ?_ _ | refine blk_drew ?_ | refine blk_alloc ?_ _)); exact BK114.out) hg (Kd.S_ne HO_4.out BK114.out (by decide))); have n1_ := Aside0.mk (hb); have n2_ := Aside0.mk (ho); clear BK114; clear HB; clear HO_4; clear HO_6; have BK114 := n0_; have HB := n1_; have HO130 := n2_; clear n0_ n1_ n2_; clear ho hb hg hat))
          go_roundg k3
          case measure => have := HK1.out; have := HJ4.out; have := HK3.out; omega
          case rel => exact ⟨(y128), (wrap64 (x5_1 + 1)), (by first | rfl | (simp; done) | (simp [*]; done)), H', ⟨by have := HK1.out; have := HJ4.out; have := HK3.out; omega⟩, ⟨by (with_reducible repeat (first | apply Kd.S_alloc | apply Kd.S_drewN | apply Kd.S_drew)); exact HO130.out⟩, ⟨by (with_reducible repeat (first | refine blk_drewN ?_ _ | refine blk_drew ?_ | refine blk_alloc ?_ _)); exact BK114.out⟩, ⟨by repeat (first | (with_reducible first | exact HB.out | apply below_alloc | apply pw_below_drewN | apply below_drew1 | refine below_set ?_ GE114.out) | exact HB.out)⟩⟩
         ·rw [if_neg c21] at H
          exact absurd H (by simp)
     ·replace c11 := Bool.eq_false_iff.mpr c11
      subst c11
      have H1 : ((spec_IsMorphism.f kj4 l0_0).bind fun t119 => (some (x4_1, t119))) = some (r1, r2) := by rw [if_neg (show ¬ (false = true) by decide)] at H; exact H
      clear H
      have H := H1
      clear H1
      replace H := Option.bind_eq_some_iff.mp H
      obtain ⟨t119, A250, H⟩ := H
      replace H : (some (x4_1, t119)) = some (r1, r2) := H
      have A25 := Aside0.mk A250
      clear A250
      simp only [Option.some.injEq, Prod.mk.injEq] at H
      obtain ⟨rfl, rfl⟩ := H
      have hcz26_0 : wc.cell? ⟨gb114, 0, none⟩ = some (.slice A0_0 l0_0.length c0_0) := (blk_cell BK114.out 0).trans rfl
      have hfz26_0 := blk_frozen BK114.out 0
      go_wp2_with (first | ((with_reducible refine gate_callee (f := 109) rfl ?_); refine goesL_ (some 44) rfl rfl Try.func109 (by kernel_rfl) rfl #[.agg #[.slice A0_0 l0_0.length c0_0]] rfl (by (try simp only [List.map_toArray, List.map_cons, List.map_nil]); first | done | rfl | (simp only [List.length_drop, List.length_take]; rfl)) ?_; (with_reducible refine (spec_IsMorphism.calls kj4 _ _ l0_0 t119 _ ?side1 ?side2 A25.out).mono ?_); (case side1 => repeat (first | exact (Kd.C_below HR0_0.out HB.out) | (with_reducible refine Kd.C_alloc ?_ _) | (with_reducible refine Kd.C_drewN ?_ _) | (with_reducible refine Kd.C_drew ?_))); (case side2 => exact HC0_0.out); rintro e w27 ⟨rfl, hb⟩; refine ⟨_, rfl, ?_⟩; have n0_ := Aside0.mk (Kd.S_below (by (with_reducible repeat (first | apply Kd.S_alloc | apply Kd.S_drewN | apply Kd.S_drew)); exact HO_4.out) hb); have n1_ := Aside0.mk (blk_below (g := gb114) (o := .cells #[.slice A0_0 l0_0.length c0_0] 28 (0, 0)) (by (with_reducible repeat (first | refine blk_drewN ?_ _ | refine blk_drew ?_ | refine blk_alloc ?_ _)); exact BK114.out) hb); have n2_ := Aside0.mk (below_step (by repeat (first | (with_reducible first | exact HB.out | apply below_alloc | apply pw_below_drewN | apply below_drew1 | refine below_set ?_ GE114.out) | exact HB.out)) hb); clear HO_4; clear BK114; clear HB; have HO_4 := n0_; have BK114 := n1_; have HB := n2_; clear n0_ n1_ n2_; (try clear hb); (try clear hb2); (try clear hk); (try clear hi)))
      go_ret2
      exact ⟨_, by first | rfl | (simp [errW_none, errW_some] <;> rfl) | (simp [*, errW_none, errW_some] <;> rfl), by (with_reducible repeat (first | apply Kd.S_alloc | apply Kd.S_drewN | apply Kd.S_drew)); exact HO_4.out, by repeat (first | (with_reducible first | exact HB.out | apply below_alloc | apply pw_below_drewN | apply below_drew1 | refine below_set ?_ GE114.out) | exact HB.out)⟩

end Go.Proofs.Ytooamcjgejajeaa.M
/- The incidence of a morphism: program and reference count the same. No condition but lengths that fit. -/
namespace Go.Proofs.Ytooamcjgejajeaa.M
open Go.RowKit Go.Proofs.YtooamcjgejajeaaW.PrintWords Go.Proofs.Ytooamcjgejajeaa.K
set_option linter.unusedVariables false
def cnt (w : List Int) (b : Int) : Nat := w.countP fun x => decide (x = b)
theorem cnt_take (w : List Int) (b : Int) (i : Nat) (h : i < w.length) : cnt (w.take (i + 1)) b = cnt (w.take i) b + (if w[i] = b then 1 else 0) := by
  unfold cnt; rw [take_succ w i h, List.countP_append]
  simp [List.countP_cons]
theorem cnt_le (w : List Int) (b : Int) : cnt w b ≤ w.length := List.countP_le_length
def incRow (w : List Int) (n : Nat) : List Int := row n fun b => (cnt w (b : Int) : Int)
def inc (ms : List (List Int)) : List (List Int) := if mo ms = true then ms.map fun w => incRow w ms.length else []
theorem specCount_ev (w : List Int) (b : Int) (hw : w.length ≤ 1048576) : Ev (fun k => spec_CountLetters.f k w b) (cnt w b : Int) := by
  have key : ∀ i, i ≤ w.length → Ev (fun k => spec_CountLetters.l0 k w b (cnt (w.take i) b : Int) (i : Int)) (cnt w b : Int) := by
    refine down w.length ?_ ?_
    · refine Ev.step (fun k => by simp only [spec_CountLetters.l0]; rw [_root_.if_neg (by omega)]) ?_
      rw [List.take_length]; exact Ev.some _
    · intro i hi ih
      have h1 := cnt_le (w.take i) b
      rw [List.length_take] at h1
      rw [cnt_take w b i hi] at ih
      refine Ev.step (fun k => by simp only [spec_CountLetters.l0]; rw [_root_.if_pos (by omega), _root_.if_pos (by omega), wsucc (i := i) (by omega), rd_get w i hi]) ?_
      refine Ev.ite (fun q => ?_) (fun q => ?_)
      · rw [_root_.if_pos q] at ih
        refine Ev.congr (fun k => by rw [wsucc (by omega)]) ih
      · rw [_root_.if_neg q] at ih; exact ih
  unfold spec_CountLetters.f
  exact key 0 (by omega)

theorem specInc_ev (ms : List (List Int)) (h : ms.length ≤ 1048576) (ht : total ms ≤ 1048576) : Ev (fun k => spec_IncidenceOf.f k ms) (inc ms, mo ms) := by
  have hmo := specIsMorphism_ev ms h ht
  unfold spec_IncidenceOf.f
  by_cases q : mo ms = true
  · unfold inc
    rw [_root_.if_pos q]
    rw [q] at hmo ⊢
    have l1 : ∀ i, i < ms.length → Ev (fun k => spec_IncidenceOf.l0 k ((ms.take (i + 1)).map fun w => incRow w ms.length) ((i + 1 : Nat) : Int) ms) (ms.map (fun w => incRow w ms.length), true) →
        ∀ b, b ≤ ms.length → Ev (fun k => spec_IncidenceOf.l1 k ((ms.take i).map fun w => incRow w ms.length) (i : Int) (row b fun b => (cnt (rd_L1 ms (i : Int)) (b : Int) : Int)) (b : Int) ms) (ms.map (fun w => incRow w ms.length), true) := by
      intro i hi ih0
      refine down ms.length ?_ ?_
      · refine Ev.step (fun k => by simp only [spec_IncidenceOf.l1]; rw [_root_.if_neg (by omega), _root_.if_pos (by rw [List.length_map, List.length_take]; omega), wsucc (by omega)]) ?_
        rw [take_succ ms i hi, List.map_append, List.map_cons, List.map_nil] at ih0
        rw [rdLL ms i hi]; exact ih0
      · intro b hb ih
        refine Ev.step (fun k => by simp only [spec_IncidenceOf.l1]; rw [_root_.if_pos (by omega), _root_.if_pos (by omega), _root_.if_pos (by omega), wsucc (by omega), rdLL ms i hi]) ?_
        refine Ev.bind (specCount_ev _ _ (by have := total_at ms i hi; omega)) ?_
        refine Ev.if_pos (by rw [row_length]; omega) ?_
        rw [row_succ, rdLL ms i hi] at ih; exact ih
    have key : ∀ i, i ≤ ms.length → Ev (fun k => spec_IncidenceOf.l0 k ((ms.take i).map fun w => incRow w ms.length) (i : Int) ms) (ms.map (fun w => incRow w ms.length), true) := by
      refine down ms.length ?_ ?_
      · refine Ev.step (fun k => by simp only [spec_IncidenceOf.l0]; rw [_root_.if_neg (by omega)]) ?_
        refine Ev.step (fun k => by simp only [spec_IncidenceOf.j1]; rw [_root_.if_neg (by simp)]) ?_
        rw [List.take_length]; exact Ev.bind hmo (Ev.some _)
      · intro i hi ih
        refine Ev.step (fun k => by simp only [spec_IncidenceOf.l0]; rw [_root_.if_pos (by omega)]) ?_
        refine Ev.bind hmo ?_
        refine Ev.step (fun k => by simp only [spec_IncidenceOf.j1]; rw [_root_.if_pos trivial]) ?_
        exact l1 i hi ih 0 (by omega)
    exact key 0 (by omega)
  · unfold inc
    rw [_root_.if_neg q]
    rw [Bool.eq_false_iff.2 q] at hmo ⊢
    have fin : Ev (fun k => spec_IncidenceOf.j1 k [] 0 false ms) ([], false) := by
      refine Ev.step (fun k => by simp only [spec_IncidenceOf.j1]; rw [_root_.if_neg (by simp)]) ?_
      exact Ev.bind hmo (Ev.some _)
    refine Ev.step (fun k => by simp only [spec_IncidenceOf.l0]; rfl) ?_
    refine Ev.ite (fun _ => ?_) (fun _ => ?_)
    · exact Ev.bind hmo fin
    · exact fin

theorem mo_letters {ms : List (List Int)} (h : mo ms = true) (i : Nat) (hi : i < ms.length) (j : Nat) (hj : j < ms[i].length) : 0 ≤ ms[i][j] ∧ ms[i][j] < (ms.length : Int) := by
  unfold mo isL at h
  rw [Bool.and_eq_true, List.all_eq_true] at h
  have := h.2 _ (List.getElem_mem hi)
  rw [Bool.and_eq_true, List.all_eq_true] at this
  exact of_decide_eq_true (this.2 _ (List.getElem_mem hj))

theorem implInc_ev (ms : List (List Int)) (h : ms.length ≤ 1048576) (ht : total ms ≤ 1048576) : Ev (fun k => impl_IncidenceOf.f k ms) (inc ms, mo ms) := by
  unfold impl_IncidenceOf.f
  refine Ev.bind (Ev.some _) (Ev.bind (implIsMorphism_ev ms h ht) ?_)
  by_cases q : mo ms = true
  · unfold inc
    rw [_root_.if_pos q]
    refine Ev.if_pos q ?_
    rw [q]
    have l1 : ∀ i, i < ms.length → ∀ (w : List Int), w = rd_L1 ms (i : Int) → w.length ≤ 8 → (∀ j, (hj : j < w.length) → 0 ≤ w[j] ∧ w[j] < (ms.length : Int)) → Ev (fun k => impl_IncidenceOf.l0 k (((ms.take i).map fun w => incRow w ms.length) ++ [incRow w ms.length]) ms (ms.length : Int) ((i + 1 : Nat) : Int) ms) (ms.map (fun w => incRow w ms.length), true) →
        ∀ j, j ≤ w.length → Ev (fun k => impl_IncidenceOf.l1 k ((ms.take i).map fun w => incRow w ms.length) (incRow (w.take j) ms.length) ms (ms.length : Int) (i : Int) w (w.length : Int) (j : Int) ms) (ms.map (fun w => incRow w ms.length), true) := by
      intro i hi w hwe hw8 hl ih0
      refine down w.length ?_ ?_
      · refine Ev.step (fun k => by simp only [impl_IncidenceOf.l1]; rw [_root_.if_neg (by omega), _root_.if_pos (by rw [List.length_map, List.length_take]; omega), wsucc (by omega)]) ?_
        rw [List.take_length]; exact ih0
      · intro j hj ih
        have h1 := hl j hj
        obtain ⟨x, hx⟩ : ∃ x : Nat, w[j] = (x : Int) := ⟨w[j].toNat, by omega⟩
        have h2 := cnt_le (w.take j) (x : Int)
        rw [List.length_take] at h2
        have e : (incRow (w.take j) ms.length).set ((w[j]) : Int).toNat (wrap64 (rd (incRow (w.take j) ms.length) w[j] + 1)) = incRow (w.take (j + 1)) ms.length := by
          rw [hx, Int.toNat_natCast]
          unfold incRow
          rw [rd_row _ _ _ (by omega), row_set]
          refine row_congr _ _ _ (fun b hb => ?_)
          rw [cnt_take w _ j hj, hx]
          by_cases e : b = x
          · rw [_root_.if_pos e, e, _root_.if_pos rfl, w_id (by omega) (by omega)]; omega
          · rw [_root_.if_neg e, _root_.if_neg (by omega)]; rfl
        refine Ev.step (fun k => by simp only [impl_IncidenceOf.l1]; rw [_root_.if_pos (by omega), _root_.if_pos (by omega), _root_.if_pos (by omega), wsucc (by omega), rd_get w j hj, _root_.if_pos h1.1, _root_.if_pos (by unfold incRow; rw [row_length]; exact h1.2), e]) ih
    have key : ∀ i, i ≤ ms.length → Ev (fun k => impl_IncidenceOf.l0 k ((ms.take i).map fun w => incRow w ms.length) ms (ms.length : Int) (i : Int) ms) (ms.map (fun w => incRow w ms.length), true) := by
      refine down ms.length ?_ ?_
      · refine Ev.step (fun k => by simp only [impl_IncidenceOf.l0]; rw [_root_.if_neg (by omega)]) ?_
        rw [List.take_length]; exact Ev.some _
      · intro i hi ih
        rw [take_succ ms i hi, List.map_append, List.map_cons, List.map_nil] at ih
        refine Ev.step (fun k => by simp only [impl_IncidenceOf.l0]; rw [_root_.if_pos (by omega), _root_.if_pos (by omega), _root_.if_pos (by omega), _root_.if_pos (by omega), _root_.if_pos (by omega), Int.toNat_natCast]) ?_
        have hr := rdLL ms i hi
        have := l1 i hi (rd_L1 ms (i : Int)) rfl (by rw [hr]; exact mo_at q i hi) (fun j hj => by simp only [hr] at hj ⊢; exact mo_letters q i hi j hj) (by rw [hr]; exact ih) 0 (by omega)
        have e : incRow ((rd_L1 ms (i : Int)).take 0) ms.length = List.replicate ms.length 0 := by
          rw [row_replicate]; unfold incRow; exact row_congr _ _ _ (fun b _ => by simp [cnt])
        rw [e] at this
        exact this
    exact key 0 (by omega)
  · unfold inc
    rw [_root_.if_neg q]
    refine Ev.if_neg q ?_
    rw [Bool.eq_false_iff.2 q]; exact Ev.some _
theorem inc_len (ms : List (List Int)) : (inc ms).length ≤ 16 ∧ ∀ r ∈ inc ms, r.length = ms.length ∧ r.length ≤ 16 := by
  unfold inc
  split
  · rename_i q
    have : ms.length ≤ 16 := by unfold mo at q; rw [Bool.and_eq_true] at q; exact (of_decide_eq_true q.1).2
    refine ⟨by rw [List.length_map]; exact this, fun r hr => ?_⟩
    obtain ⟨w, _, rfl⟩ := List.mem_map.1 hr
    unfold incRow; rw [row_length]; exact ⟨rfl, this⟩
  · simp
theorem total_le (xs : List (List Int)) (c : Nat) (h : ∀ r ∈ xs, r.length ≤ c) : total xs ≤ c * xs.length := by
  induction xs with
  | nil => simp [total]
  | cons x xs ih =>
    have h1 := ih (fun r hr => h r (List.mem_cons_of_mem _ hr))
    have h2 := h x (List.mem_cons_self ..)
    simp only [total, List.length_cons, Nat.mul_succ]; omega
end Go.Proofs.Ytooamcjgejajeaa.M
/- Whether some power of a morphism takes every letter to all letters: the reference keeps sets of letters, the program matrices; both tell the same. No condition but lengths that fit. -/
namespace Go.Proofs.Ytooamcjgejajeaa.M
open Go.RowKit Go.Proofs.YtooamcjgejajeaaW.PrintWords Go.Proofs.YtooamcjgejajeaaW.PrintMore Go.Proofs.Ytooamcjgejajeaa.K
set_option linter.unusedVariables false
/-! Lists of lists told by their places. -/
def mt (n : Nat) (f : Nat → List Int) : List (List Int) := (List.range n).map f
theorem mt_length (n : Nat) (f : Nat → List Int) : (mt n f).length = n := by simp [mt]
theorem mt_get (n : Nat) (f : Nat → List Int) (i : Nat) (h : i < n) : (mt n f)[i]'(by rw [mt_length]; exact h) = f i := by simp [mt]
theorem rd_mt (n : Nat) (f : Nat → List Int) (i : Nat) (h : i < n) : rd_L1 (mt n f) (i : Int) = f i := by rw [rdLL _ i (by rw [mt_length]; exact h), mt_get n f i h]
theorem mt_set (n : Nat) (f : Nat → List Int) (i : Nat) (v : List Int) : (mt n f).set i v = mt n (fun m => if m = i then v else f m) := by
  apply List.ext_getElem
  · rw [List.length_set, mt_length, mt_length]
  · intro m h1 h2
    have hm : m < n := by rw [mt_length] at h2; exact h2
    rw [List.getElem_set, mt_get n f m hm, mt_get n (fun m => if m = i then v else f m) m hm]
    by_cases q : i = m
    · rw [if_pos q, if_pos q.symm]
    · rw [if_neg q, if_neg (fun (h : m = i) => q h.symm)]
theorem mt_congr (n : Nat) (f g : Nat → List Int) (h : ∀ i, i < n → f i = g i) : mt n f = mt n g := by
  unfold mt; exact List.map_congr_left (fun i hi => h i (List.mem_range.1 hi))
theorem mt_succ (n : Nat) (f : Nat → List Int) : mt (n + 1) f = mt n f ++ [f n] := by simp [mt, List.range_succ]
/-! Sets of letters. -/
def ded (acc l : List Int) : List Int := l.foldl (fun acc y => if y ∈ acc then acc else acc ++ [y]) acc
theorem ded_mem : ∀ (l acc : List Int) (y : Int), y ∈ ded acc l ↔ y ∈ acc ∨ y ∈ l
  | [], acc, y => by simp [ded]
  | x :: l, acc, y => by
    show y ∈ ded (if x ∈ acc then acc else acc ++ [x]) l ↔ _
    rw [ded_mem l, List.mem_cons]
    split
    · rename_i q
      constructor
      · rintro (h | h)
        · exact .inl h
        · exact .inr (.inr h)
      · rintro (h | rfl | h)
        · exact .inl h
        · exact .inl q
        · exact .inr h
    · rw [List.mem_append, List.mem_singleton, or_assoc]
theorem ded_nodup : ∀ (l acc : List Int), acc.Nodup → (ded acc l).Nodup
  | [], _, h => h
  | x :: l, acc, h => by
    show (ded (if x ∈ acc then acc else acc ++ [x]) l).Nodup
    refine ded_nodup l _ ?_
    split
    · exact h
    · rename_i q
      rw [List.nodup_append]
      exact ⟨h, by simp, fun a ha b hb e => by rw [List.mem_singleton] at hb; subst hb; subst e; exact q ha⟩
def nxt (R : List (List Int)) (acc w : List Int) : List Int := w.foldl (fun acc x => ded acc (rd_L1 R x)) acc
theorem nxt_mem (R : List (List Int)) : ∀ (w acc : List Int) (y : Int), y ∈ nxt R acc w ↔ y ∈ acc ∨ ∃ x ∈ w, y ∈ rd_L1 R x
  | [], acc, y => by simp [nxt]
  | x :: w, acc, y => by
    show y ∈ nxt R (ded acc (rd_L1 R x)) w ↔ _
    rw [nxt_mem R w, ded_mem, or_assoc]
    simp
theorem nxt_nodup (R : List (List Int)) : ∀ (w acc : List Int), acc.Nodup → (nxt R acc w).Nodup
  | [], _, h => h
  | x :: w, acc, h => nxt_nodup R w _ (ded_nodup _ _ h)
def st (R : List (List Int)) : Nat → Int → List Int
  | 0, a => [a]
  | t + 1, a => nxt R [] (st R t a)
theorem st_nodup (R : List (List Int)) : ∀ t a, (st R t a).Nodup
  | 0, a => by simp [st]
  | t + 1, a => nxt_nodup R _ _ List.nodup_nil
theorem sub_len : ∀ (L M : List Int), L.Nodup → (∀ x ∈ L, x ∈ M) → L.length ≤ M.length
  | [], _, _, _ => Nat.zero_le _
  | x :: L, M, hn, hs => by
    rw [List.nodup_cons] at hn
    have hx := hs x (List.mem_cons_self ..)
    have := sub_len L (M.erase x) hn.2 (fun y hy => (List.mem_erase_of_ne (fun e => hn.1 (by rw [← e]; exact hy))).2 (hs y (List.mem_cons_of_mem _ hy)))
    rw [List.length_erase_of_mem hx] at this
    have := List.length_pos_of_mem hx
    simp only [List.length_cons]; omega
def rg (n : Nat) : List Int := (List.range n).map fun (i : Nat) => (i : Int)
theorem rg_mem (n : Nat) (y : Int) : y ∈ rg n ↔ 0 ≤ y ∧ y < (n : Int) := by
  unfold rg
  rw [List.mem_map]
  constructor
  · rintro ⟨i, hi, rfl⟩; have := List.mem_range.1 hi; omega
  · intro h; exact ⟨y.toNat, List.mem_range.2 (by omega), by omega⟩
theorem rg_nodup (n : Nat) : (rg n).Nodup := by
  unfold rg List.Nodup
  rw [List.pairwise_map]
  exact (List.nodup_range (n := n)).imp (fun h e => h (by omega))
theorem rg_len (n : Nat) : (rg n).length = n := by simp [rg]
theorem full_iff (L : List Int) (n : Nat) (hn : L.Nodup) (hr : ∀ x ∈ L, 0 ≤ x ∧ x < (n : Int)) : L.length ≤ n ∧ (L.length = n ↔ ∀ j : Nat, j < n → (j : Int) ∈ L) := by
  have h1 := sub_len L (rg n) hn (fun x hx => (rg_mem n x).2 (hr x hx))
  rw [rg_len] at h1
  refine ⟨h1, fun h j hj => ?_, fun h => ?_⟩
  · apply Classical.byContradiction
    intro hc
    have := sub_len L ((rg n).erase (j : Int)) hn (fun x hx => (List.mem_erase_of_ne (fun e => hc (by rw [← e]; exact hx))).2 ((rg_mem n x).2 (hr x hx)))
    rw [List.length_erase_of_mem ((rg_mem n (j : Int)).2 (by omega)), rg_len] at this
    omega
  · have := sub_len (rg n) L (rg_nodup n) (fun x hx => by
      have hx := (rg_mem n x).1 hx
      have := h x.toNat (by omega)
      rwa [show ((x.toNat : Nat) : Int) = x by omega] at this)
    rw [rg_len] at this; omega
section prim
variable (R : List (List Int)) (hmo : mo R = true) (hn6 : R.length ≤ 6)
include hmo
theorem row_letters (x : Int) (h0 : 0 ≤ x) (h1 : x < (R.length : Int)) : ∀ y ∈ rd_L1 R x, 0 ≤ y ∧ y < (R.length : Int) := by
  obtain ⟨i, rfl⟩ : ∃ i : Nat, x = (i : Int) := ⟨x.toNat, by omega⟩
  rw [rdLL R i (by omega)]
  intro y hy
  obtain ⟨j, hj, rfl⟩ := List.mem_iff_getElem.1 hy
  exact mo_letters hmo i (by omega) j hj
theorem st_range : ∀ t (a : Int), 0 ≤ a → a < (R.length : Int) → ∀ y ∈ st R t a, 0 ≤ y ∧ y < (R.length : Int)
  | 0, a, h0, h1, y, hy => by
    rw [show y = a by simpa [st] using hy]; exact ⟨h0, h1⟩
  | t + 1, a, h0, h1, y, hy => by
    rcases (nxt_mem R (st R t a) [] y).1 hy with h | ⟨x, hx, h⟩
    · cases h
    · have := st_range t a h0 h1 x hx
      exact row_letters R hmo x this.1 this.2 y h
theorem st_len (t : Nat) (a : Nat) (ha : a < R.length) : (st R t (a : Int)).length ≤ R.length := (full_iff _ _ (st_nodup R t a) (st_range R hmo t a (by omega) (by omega))).1
omit hmo in
theorem has_ev (l : List Int) (x : Int) (hl : l.length ≤ 1000000) : Ev (fun k => spec_l4Has.f k l x) (decide (x ∈ l)) := by
  have key : ∀ i, i ≤ l.length → Ev (fun k => spec_l4Has.l0 k l x (i : Int)) (decide (x ∈ l.drop i)) := by
    refine down l.length ?_ ?_
    · refine Ev.step (fun k => by simp only [spec_l4Has.l0]; rw [_root_.if_neg (by omega)]) ?_
      rw [List.drop_length, decide_eq_false (by simp)]; exact Ev.some _
    · intro i hi ih
      refine Ev.step (fun k => by simp only [spec_l4Has.l0]; rw [_root_.if_pos (by omega), _root_.if_pos (by omega), rd_get l i hi, wsucc (by omega)]) ?_
      rw [drop_eq l i hi]
      refine Ev.ite (fun q => ?_) (fun q => ?_)
      · rw [decide_eq_true (by rw [q]; simp)]; exact Ev.some _
      · have : decide (x ∈ l[i] :: l.drop (i + 1)) = decide (x ∈ l.drop (i + 1)) := decide_eq_decide.2 ⟨fun h => (List.mem_cons.1 h).resolve_left (fun e => q e.symm), List.mem_cons_of_mem _⟩
        rw [this]; exact ih
  unfold spec_l4Has.f
  exact key 0 (by omega)
omit hmo in
theorem specP_l4 (S : List (List Int)) (t : Int) (b : Bool) (a : Int) (x10 : Int) (im : List Int) (him : im.length ≤ 8) (r : Bool) : ∀ j, j ≤ im.length → ∀ acc : List Int, acc.length ≤ 100000 + j →
    Ev (fun k => spec_IsPrimitiveMorphism.l3 k (R.length : Int) S t b a (ded acc (im.drop j)) (wrap64 (x10 + 1)) R) r → Ev (fun k => spec_IsPrimitiveMorphism.l4 k (R.length : Int) S t b a acc x10 im (j : Int) R) r := by
  refine down im.length ?_ ?_
  · intro acc _ h
    rw [List.drop_length] at h
    have h : Ev (fun k => spec_IsPrimitiveMorphism.l3 k (R.length : Int) S t b a acc (wrap64 (x10 + 1)) R) r := h
    exact Ev.step (fun k => by simp only [spec_IsPrimitiveMorphism.l4]; rw [_root_.if_neg (by omega)]) h
  · intro j hj ih acc ha h
    rw [drop_eq im j hj] at h
    refine Ev.step (fun k => by simp only [spec_IsPrimitiveMorphism.l4]; rw [_root_.if_pos (by omega), _root_.if_pos (by omega), rd_get im j hj, wsucc (by omega)]) ?_
    refine Ev.bind (has_ev acc im[j] (by omega)) ?_
    have hd : ded acc (im[j] :: im.drop (j + 1)) = ded (if im[j] ∈ acc then acc else acc ++ [im[j]]) (im.drop (j + 1)) := rfl
    rw [hd] at h
    refine Ev.ite (fun q => ?_) (fun q => ?_)
    · rw [_root_.if_pos (of_decide_eq_true q)] at h
      exact ih acc (by omega) h
    · rw [_root_.if_neg (fun hh => q (decide_eq_true hh))] at h
      exact Ev.if_pos (by omega) (ih _ (by simp; omega) h)
omit hmo in
theorem ded_len : ∀ l acc : List Int, (ded acc l).length ≤ acc.length + l.length
  | [], acc => by simp [ded]
  | x :: l, acc => by
    have := ded_len l (if x ∈ acc then acc else acc ++ [x])
    have h2 : (if x ∈ acc then acc else acc ++ [x]).length ≤ acc.length + 1 := by split <;> simp
    show (ded _ l).length ≤ _
    simp only [List.length_cons]; omega
theorem specP_l3 (S : List (List Int)) (t : Int) (b : Bool) (a : Nat) (ha : a < S.length) (w : List Int) (hw : rd_L1 S (a : Int) = w) (hwl : w.length ≤ 1000) (hwr : ∀ y ∈ w, 0 ≤ y ∧ y < (R.length : Int)) (r : Bool) (hS : S.length ≤ 1000) : ∀ i, i ≤ w.length → ∀ acc : List Int, acc.length ≤ 8 * i →
    Ev (fun k => if b = true then spec_IsPrimitiveMorphism.l2 k (R.length : Int) (S.set a (nxt R acc (w.drop i))) t (((nxt R acc (w.drop i)).length : Int) == (R.length : Int)) ((a + 1 : Nat) : Int) R else spec_IsPrimitiveMorphism.l2 k (R.length : Int) (S.set a (nxt R acc (w.drop i))) t false ((a + 1 : Nat) : Int) R) r →
    Ev (fun k => spec_IsPrimitiveMorphism.l3 k (R.length : Int) S t b (a : Int) acc (i : Int) R) r := by
  refine down w.length ?_ ?_
  · intro acc _ h
    rw [List.drop_length] at h
    have h : Ev (fun k => if b = true then spec_IsPrimitiveMorphism.l2 k (R.length : Int) (S.set a acc) t ((acc.length : Int) == (R.length : Int)) ((a + 1 : Nat) : Int) R else spec_IsPrimitiveMorphism.l2 k (R.length : Int) (S.set a acc) t false ((a + 1 : Nat) : Int) R) r := h
    exact Ev.step (fun k => by simp only [spec_IsPrimitiveMorphism.l3]; rw [_root_.if_pos (by omega), _root_.if_pos (by omega), hw, _root_.if_neg (by omega), Option.bind_some, Int.toNat_natCast, wsucc (by omega)]) h
  · intro i hi ih acc hacc h
    have hx := hwr _ (List.getElem_mem hi)
    obtain ⟨x, hxe⟩ : ∃ x : Nat, w[i] = (x : Int) := ⟨w[i].toNat, by omega⟩
    have hxl : x < R.length := by omega
    have h8 : (rd_L1 R w[i]).length ≤ 8 := by rw [hxe]; exact rd_image hmo x (by omega) (by omega)
    rw [drop_eq w i hi] at h
    refine Ev.step (fun k => by simp only [spec_IsPrimitiveMorphism.l3]; rw [_root_.if_pos (by omega), _root_.if_pos (by omega), hw, _root_.if_pos (by omega), _root_.if_pos (by omega), rd_get w i hi, _root_.if_pos hx.1, _root_.if_pos hx.2]) ?_
    refine specP_l4 R S t b a (i : Int) (rd_L1 R w[i]) h8 r 0 (Nat.zero_le _) acc (by omega) ?_
    rw [List.drop_zero, wsucc (by omega)]
    refine ih _ ?_ h
    have := ded_len (rd_L1 R w[i]) acc
    omega
def wh (R : List (List Int)) (t a : Nat) : Bool := (List.range a).all fun m => decide ((st R (t + 1) (m : Int)).length = R.length)
omit hmo in
theorem wh_succ (t a : Nat) : wh R t (a + 1) = (wh R t a && decide ((st R (t + 1) (a : Int)).length = R.length)) := by
  unfold wh; rw [List.range_succ, List.all_append]; simp
def anyF (P : Nat → Bool) : Nat → Nat → Bool
  | 0, _ => false
  | d + 1, t => P t || anyF P d (t + 1)
theorem specP_l2 (t : Nat) (ht : t ≤ 1000) (r : Bool) (hn : R.length ≤ 6) (h : Ev (fun k => if wh R t R.length = true then Option.some true else spec_IsPrimitiveMorphism.l1 k (R.length : Int) (mt R.length fun m => st R (t + 1) (m : Int)) ((t + 1 : Nat) : Int) R) r) :
    ∀ a, a ≤ R.length → Ev (fun k => spec_IsPrimitiveMorphism.l2 k (R.length : Int) (mt R.length fun m => if m < a then st R (t + 1) (m : Int) else st R t (m : Int)) (t : Int) (wh R t a) (a : Int) R) r := by
  refine down R.length ?_ ?_
  · rw [show (mt R.length fun m => if m < R.length then st R (t + 1) (m : Int) else st R t (m : Int)) = (mt R.length fun m => st R (t + 1) (m : Int)) from mt_congr _ _ _ (fun i hi => by rw [_root_.if_pos hi])]
    exact Ev.step (fun k => by simp only [spec_IsPrimitiveMorphism.l2]; rw [_root_.if_neg (by omega), wsucc (by omega)]) h
  · intro a ha ih
    refine Ev.step (fun k => by simp only [spec_IsPrimitiveMorphism.l2]; rw [_root_.if_pos (by omega)]) ?_
    have hw : rd_L1 (mt R.length fun m => if m < a then st R (t + 1) (m : Int) else st R t (m : Int)) (a : Int) = st R t (a : Int) := by rw [rd_mt _ _ a ha, _root_.if_neg (by omega)]
    have hl := st_len R hmo t a ha
    refine specP_l3 R hmo _ (t : Int) (wh R t a) a (by rw [mt_length]; exact ha) (st R t (a : Int)) hw (by omega) (st_range R hmo t _ (by omega) (by omega)) r (by rw [mt_length]; omega) 0 (Nat.zero_le _) [] (Nat.zero_le _) ?_
    rw [List.drop_zero, mt_set]
    have e : (mt R.length fun m => if m = a then nxt R [] (st R t (a : Int)) else if m < a then st R (t + 1) (m : Int) else st R t (m : Int)) = (mt R.length fun m => if m < a + 1 then st R (t + 1) (m : Int) else st R t (m : Int)) := mt_congr _ _ _ (fun i hi => by
      by_cases q : i = a
      · subst q; rw [_root_.if_pos rfl, _root_.if_pos (by omega)]; rfl
      · rw [_root_.if_neg q]
        by_cases q2 : i < a
        · rw [_root_.if_pos q2, _root_.if_pos (by omega)]
        · rw [_root_.if_neg q2, _root_.if_neg (by omega)])
    rw [e]
    rw [wh_succ] at ih
    refine Ev.ite (fun q => ?_) (fun q => ?_)
    · rw [q, Bool.true_and] at ih
      have e2 : (((nxt R [] (st R t (a : Int))).length : Int) == (R.length : Int)) = decide ((st R (t + 1) (a : Int)).length = R.length) := by
        show (((st R (t + 1) (a : Int)).length : Int) == (R.length : Int)) = _
        by_cases q2 : (st R (t + 1) (a : Int)).length = R.length
        · rw [decide_eq_true q2, q2]; simp
        · rw [decide_eq_false q2]; exact beq_eq_false_iff_ne.2 (by omega)
      rw [e2]; exact ih
    · rw [Bool.eq_false_iff.2 q, Bool.false_and] at ih; exact ih
theorem specP_l1 (hn : R.length ≤ 6) : ∀ d t, t + d = R.length * R.length → Ev (fun k => spec_IsPrimitiveMorphism.l1 k (R.length : Int) (mt R.length fun m => st R t (m : Int)) (t : Int) R) (anyF (fun t => wh R t R.length) d t) := by
  have hsq : R.length * R.length ≤ 36 := Nat.mul_le_mul hn hn
  have hw : wrap64 ((R.length : Int) * (R.length : Int)) = ((R.length * R.length : Nat) : Int) := by rw [← Int.natCast_mul]; exact w_id (by omega) (by omega)
  intro d
  induction d with
  | zero =>
    intro t ht
    exact Ev.step (fun k => by simp only [spec_IsPrimitiveMorphism.l1]; rw [hw, _root_.if_neg (by omega)]; rfl) (Ev.some _)
  | succ d ih =>
    intro t ht
    refine Ev.step (fun k => by simp only [spec_IsPrimitiveMorphism.l1]; rw [hw, _root_.if_pos (by omega)]) ?_
    have := specP_l2 R hmo t (by omega) (anyF (fun t => wh R t R.length) (d + 1) t) hn (by
      show Ev _ (wh R t R.length || anyF (fun t => wh R t R.length) d (t + 1))
      refine Ev.ite (fun q => ?_) (fun q => ?_)
      · rw [q, Bool.true_or]; exact Ev.some _
      · rw [Bool.eq_false_iff.2 q, Bool.false_or]; exact ih (t + 1) (by omega)) 0 (Nat.zero_le _)
    rw [show (mt R.length fun m => if m < 0 then st R (t + 1) (m : Int) else st R t (m : Int)) = (mt R.length fun m => st R t (m : Int)) from mt_congr _ _ _ (fun i hi => by rw [_root_.if_neg (by omega)])] at this
    exact this
end prim
def pm (R : List (List Int)) : Bool := mo R && (decide (R.length ≤ 6) && anyF (fun t => wh R t R.length) (R.length * R.length) 0)
theorem specPM_ev (R : List (List Int)) (h : R.length ≤ 1048576) (ht : total R ≤ 1048576) : Ev (fun k => spec_IsPrimitiveMorphism.f k R) (pm R) := by
  have hm := specIsMorphism_ev R h ht
  unfold spec_IsPrimitiveMorphism.f pm
  refine Ev.bind hm ?_
  refine Ev.ite (fun q => ?_) (fun q => ?_)
  · rw [q, Bool.true_and]
    by_cases q6 : R.length ≤ 6
    · rw [decide_eq_true q6, Bool.true_and, decide_eq_false (by omega)]
      refine Ev.step (fun k => by simp only [spec_IsPrimitiveMorphism.j0]; rw [_root_.if_neg (by simp)]) ?_
      have l0 : ∀ i, i ≤ R.length → Ev (fun k => spec_IsPrimitiveMorphism.l0 k (R.length : Int) (mt i fun m => st R 0 (m : Int)) (i : Int) R) (anyF (fun t => wh R t R.length) (R.length * R.length) 0) := by
        refine down R.length ?_ ?_
        · exact Ev.step (fun k => by simp only [spec_IsPrimitiveMorphism.l0]; rw [_root_.if_neg (by omega)]; rfl) (specP_l1 R q q6 _ 0 (by omega))
        · intro i hi ih
          rw [mt_succ] at ih
          exact Ev.step (fun k => by simp only [spec_IsPrimitiveMorphism.l0]; rw [_root_.if_pos (by omega), _root_.if_pos (by rw [mt_length]; omega), wsucc (by omega)]; rfl) ih
      exact l0 0 (Nat.zero_le _)
    · rw [decide_eq_false q6, Bool.false_and, decide_eq_true (by omega)]
      exact Ev.step (fun k => by simp only [spec_IsPrimitiveMorphism.j0]; rw [_root_.if_pos trivial]) (Ev.some _)
  · rw [Bool.eq_false_iff.2 q, Bool.false_and]
    exact Ev.step (fun k => by simp only [spec_IsPrimitiveMorphism.j0]; rw [_root_.if_pos trivial]) (Ev.some _)
end Go.Proofs.Ytooamcjgejajeaa.M
/- The program's matrices of a morphism's powers: which letters come after how many steps. No condition but lengths that fit. -/
namespace Go.Proofs.Ytooamcjgejajeaa.M
open Go.RowKit Go.Proofs.YtooamcjgejajeaaW.PrintWords Go.Proofs.YtooamcjgejajeaaW.PrintMore Go.Proofs.Ytooamcjgejajeaa.K
set_option linter.unusedVariables false
theorem rd_set (X : List (List Int)) (i : Nat) (v : List Int) (h : i < X.length) : rd_L1 (X.set i v) (i : Int) = v := by
  rw [rdLL _ i (by rw [List.length_set]; exact h), List.getElem_set_self]
def pk (h : List Int) (M : List (List Int)) : Nat → Nat → Int
  | 0, _ => 0
  | k + 1, j => mx (pk h M k j) (wrap64 (mn (rd h (k : Int)) 1 * mn (rd (rd_L1 M (k : Int)) (j : Int)) 1))
section loops
variable (M H : List (List Int)) (n : Nat) (hn : n ≤ 6) (hM : M.length = n) (hMr : ∀ i : Nat, i < n → (rd_L1 M (i : Int)).length = n) (hH : H.length = n) (hHr : ∀ i : Nat, i < n → (rd_L1 H (i : Int)).length = n) (N x36 : Int) (r : Bool)
include hn hM hMr hH hHr
omit hHr in
theorem implP_l5 (X : List (List Int)) (hX : X.length = n) (i : Nat) (hi : i < n) (k0 : Nat) (hk : k0 < n)
    (hc : Ev (fun k => impl_IsPrimitiveMorphism.l4 k M (n : Int) (X.set i (row n (pk (rd_L1 H (i : Int)) M (k0 + 1)))) (i : Int) N x36 H (n : Int) (i : Int) (rd_L1 H (i : Int)) (n : Int) ((k0 + 1 : Nat) : Int)) r) :
    ∀ j, j ≤ n → Ev (fun k => impl_IsPrimitiveMorphism.l5 k M (n : Int) (X.set i (row n fun m => if m < j then pk (rd_L1 H (i : Int)) M (k0 + 1) m else pk (rd_L1 H (i : Int)) M k0 m)) (i : Int) N x36 H (n : Int) (i : Int) (rd_L1 H (i : Int)) (n : Int) (k0 : Int) (rd_L1 M (k0 : Int)) (n : Int) (j : Int)) r := by
  have hiX : i < X.length := by omega
  have hm := hMr k0 hk
  refine down n ?_ ?_
  · rw [row_congr n (fun m => if m < n then pk (rd_L1 H (i : Int)) M (k0 + 1) m else pk (rd_L1 H (i : Int)) M k0 m) (pk (rd_L1 H (i : Int)) M (k0 + 1)) (fun m hm => by rw [_root_.if_pos hm])]
    exact Ev.step (fun k => by simp only [impl_IsPrimitiveMorphism.l5]; rw [_root_.if_neg (by omega), wsucc (by omega)]) hc
  · intro j hj ih
    refine Ev.step (fun k => by
      simp only [impl_IsPrimitiveMorphism.l5]
      rw [_root_.if_pos (by omega), _root_.if_pos (by omega), _root_.if_pos (by omega), _root_.if_pos (by omega), _root_.if_pos (by rw [List.length_set]; omega), rd_set X i _ hiX, _root_.if_pos (by rw [row_length]; omega), Int.toNat_natCast, Int.toNat_natCast, rd_row _ _ j hj, List.set_set, row_set, wsucc (by omega)]) ?_
    rw [row_congr n _ (fun m => if m < j + 1 then pk (rd_L1 H (i : Int)) M (k0 + 1) m else pk (rd_L1 H (i : Int)) M k0 m) (fun m hm => by
      by_cases q : m = j
      · subst q
        rw [_root_.if_pos rfl, _root_.if_neg (Nat.lt_irrefl m), _root_.if_pos (Nat.lt_succ_self m)]; rfl
      · rw [_root_.if_neg q]
        by_cases q2 : m < j
        · rw [_root_.if_pos q2, _root_.if_pos (by omega)]
        · rw [_root_.if_neg q2, _root_.if_neg (by omega)])]
    exact ih
theorem implP_l4 (X : List (List Int)) (hX : X.length = n) (i : Nat) (hi : i < n)
    (hc : Ev (fun k => impl_IsPrimitiveMorphism.l3 k M (n : Int) (X.set i (row n (pk (rd_L1 H (i : Int)) M n))) N x36 H (n : Int) ((i + 1 : Nat) : Int)) r) :
    ∀ k0, k0 ≤ n → Ev (fun k => impl_IsPrimitiveMorphism.l4 k M (n : Int) (X.set i (row n (pk (rd_L1 H (i : Int)) M k0))) (i : Int) N x36 H (n : Int) (i : Int) (rd_L1 H (i : Int)) (n : Int) (k0 : Int)) r := by
  have hh := hHr i hi
  refine down n ?_ ?_
  · exact Ev.step (fun k => by simp only [impl_IsPrimitiveMorphism.l4]; rw [_root_.if_neg (by omega), wsucc (by omega)]) hc
  · intro k0 hk ih
    have hm := hMr k0 hk
    refine Ev.step (fun k => by simp only [impl_IsPrimitiveMorphism.l4]; rw [_root_.if_pos (by omega), _root_.if_pos (by omega), _root_.if_pos (by omega), _root_.if_pos (by omega), hm]) ?_
    have := implP_l5 M H n hn hM hMr hH N x36 r X hX i hi k0 hk ih 0 (Nat.zero_le _)
    rw [row_congr n (fun m => if m < 0 then pk (rd_L1 H (i : Int)) M (k0 + 1) m else pk (rd_L1 H (i : Int)) M k0 m) (pk (rd_L1 H (i : Int)) M k0) (fun m _ => by rw [_root_.if_neg (by omega)])] at this
    exact this
theorem implP_l3 (hc : Ev (fun k => impl_IsPrimitiveMorphism.l0 k M (n : Int) (mt n fun m => row n (pk (rd_L1 H (m : Int)) M n)) N (wrap64 (x36 + 1))) r) :
    ∀ i, i ≤ n → Ev (fun k => impl_IsPrimitiveMorphism.l3 k M (n : Int) (mt n fun m => if m < i then row n (pk (rd_L1 H (m : Int)) M n) else row n fun _ => 0) N x36 H (n : Int) (i : Int)) r := by
  refine down n ?_ ?_
  · rw [mt_congr n _ (fun m => row n (pk (rd_L1 H (m : Int)) M n)) (fun m hm => by rw [_root_.if_pos hm])]
    exact Ev.step (fun k => by simp only [impl_IsPrimitiveMorphism.l3]; rw [_root_.if_neg (by omega)]) hc
  · intro i hi ih
    have hh := hHr i hi
    refine Ev.step (fun k => by simp only [impl_IsPrimitiveMorphism.l3]; rw [_root_.if_pos (by omega), _root_.if_pos (by omega), _root_.if_pos (by omega), hh]) ?_
    have := implP_l4 M H n hn hM hMr hH hHr N x36 r (mt n fun m => if m < i then row n (pk (rd_L1 H (m : Int)) M n) else row n fun _ => 0) (mt_length _ _) i hi (by
      rw [mt_set, mt_congr n _ (fun m => if m < i + 1 then row n (pk (rd_L1 H (m : Int)) M n) else row n fun _ => 0) (fun m hm => by
        by_cases q : m = i
        · subst q; rw [_root_.if_pos rfl, _root_.if_pos (by omega)]
        · rw [_root_.if_neg q]
          by_cases q2 : m < i
          · rw [_root_.if_pos q2, _root_.if_pos (by omega)]
          · rw [_root_.if_neg q2, _root_.if_neg (by omega)])]
      exact ih) 0 (Nat.zero_le _)
    rw [mt_set, mt_congr n _ (fun m => if m < i then row n (pk (rd_L1 H (m : Int)) M n) else row n fun _ => 0) (fun m hm => by
      by_cases q : m = i
      · subst q; rw [_root_.if_pos rfl, _root_.if_neg (by omega)]; rfl
      · rw [_root_.if_neg q])] at this
    exact this
def posR (w : List Int) : Bool := w.all fun y => decide (y > 0)
omit hMr hHr in
theorem implP_l2 (i : Nat) (hi : i < n) (w : List Int) (hw : w.length ≤ 1000) : ∀ j, j ≤ w.length → ∀ b : Bool,
    Ev (fun k => impl_IsPrimitiveMorphism.l1 k M (n : Int) H (b && posR (w.drop j)) N x36 H (n : Int) ((i + 1 : Nat) : Int)) r → Ev (fun k => impl_IsPrimitiveMorphism.l2 k M (n : Int) H b N x36 H (n : Int) (i : Int) w (w.length : Int) (j : Int)) r := by
  refine down w.length ?_ ?_
  · intro b h
    rw [List.drop_length, show posR [] = true from rfl, Bool.and_true] at h
    exact Ev.step (fun k => by simp only [impl_IsPrimitiveMorphism.l2]; rw [_root_.if_neg (by omega), wsucc (by omega)]) h
  · intro j hj ih b h
    rw [drop_eq w j hj] at h
    have e : posR (w[j] :: w.drop (j + 1)) = (decide (w[j] > 0) && posR (w.drop (j + 1))) := rfl
    rw [e] at h
    refine Ev.step (fun k => by simp only [impl_IsPrimitiveMorphism.l2]; rw [_root_.if_pos (by omega), _root_.if_pos (by omega), _root_.if_pos (by omega), rd_get w j hj, wsucc (by omega)]) ?_
    refine Ev.ite (fun q => ?_) (fun q => ?_)
    · rw [q, Bool.true_and] at h
      exact ih _ h
    · rw [Bool.eq_false_iff.2 q, Bool.false_and] at h
      exact ih _ (by rw [Bool.false_and]; exact h)
omit hM hMr hH hHr in
theorem square_ev : Ev (fun k => impl_square.f k (n : Int)) (mt n fun _ => row n fun _ => 0) := by
  have key : ∀ i, i ≤ n → Ev (fun k => impl_square.l0 k (n : Int) (mt i fun _ => row n fun _ => 0) (n : Int) (i : Int)) (mt n fun _ => row n fun _ => 0) := by
    refine down n ?_ ?_
    · exact Ev.step (fun k => by simp only [impl_square.l0]; rw [_root_.if_neg (by omega)]) (Ev.some _)
    · intro i hi ih
      rw [mt_succ] at ih
      exact Ev.step (fun k => by simp only [impl_square.l0]; rw [_root_.if_pos (by omega), _root_.if_pos (by omega), _root_.if_pos (by omega), _root_.if_pos (by rw [mt_length]; omega), Int.toNat_natCast, row_replicate, wsucc (by omega)]) ih
  unfold impl_square.f
  exact key 0 (Nat.zero_le _)
theorem implP_l1 (hc : Ev (fun k => if (H.all posR) = true then Option.some true else impl_IsPrimitiveMorphism.l0 k M (n : Int) (mt n fun m => row n (pk (rd_L1 H (m : Int)) M n)) N (wrap64 (x36 + 1))) r) :
    ∀ i, i ≤ n → ∀ b : Bool, (b && (H.drop i).all posR) = H.all posR → Ev (fun k => impl_IsPrimitiveMorphism.l1 k M (n : Int) H b N x36 H (n : Int) (i : Int)) r := by
  refine down n ?_ ?_
  · intro b hb
    rw [List.drop_eq_nil_of_le (by omega), List.all_nil, Bool.and_true] at hb
    subst hb
    refine Ev.step (fun k => by simp only [impl_IsPrimitiveMorphism.l1]; rw [_root_.if_neg (by omega), hH]) ?_
    by_cases q : H.all posR = true
    · have hc2 : Ev (fun _ => Option.some true) r := Ev.congr (fun k => by rw [_root_.if_pos q]) hc
      exact Ev.if_pos q hc2
    · have hc2 : Ev (fun k => impl_IsPrimitiveMorphism.l0 k M (n : Int) (mt n fun m => row n (pk (rd_L1 H (m : Int)) M n)) N (wrap64 (x36 + 1))) r := Ev.congr (fun k => by rw [_root_.if_neg q]) hc
      refine Ev.if_neg q (Ev.bind (square_ev n hn) ?_)
      have := implP_l3 M H n hn hM hMr hH hHr N x36 r hc2 0 (Nat.zero_le _)
      rw [mt_congr n _ (fun _ => row n fun _ => 0) (fun m _ => by rw [_root_.if_neg (by omega)])] at this
      exact this
  · intro i hi ih b hb
    rw [drop_eq H i (by omega), List.all_cons] at hb
    have hr := rdLL H i (by omega)
    have hh := hHr i hi
    refine Ev.step (fun k => by simp only [impl_IsPrimitiveMorphism.l1]; rw [_root_.if_pos (by omega), _root_.if_pos (by omega), _root_.if_pos (by omega)]) ?_
    refine implP_l2 M H n hn hM hH N x36 r i hi (rd_L1 H (i : Int)) (by omega) 0 (Nat.zero_le _) b ?_
    rw [List.drop_zero]
    refine ih _ ?_
    rw [hr, Bool.and_assoc]; exact hb
end loops
/-- What the program's matrices hold. -/
def hs (R : List (List Int)) : Nat → Nat → List Int
  | 0, i => rd_L1 (inc R) (i : Int)
  | t + 1, i => row R.length (pk (hs R t i) (inc R) R.length)
section prim
variable (R : List (List Int)) (hmo : mo R = true) (hn6 : R.length ≤ 6)
include hmo
theorem inc_n : (inc R).length = R.length := by unfold inc; rw [_root_.if_pos hmo, List.length_map]
theorem inc_row (i : Nat) (hi : i < R.length) : rd_L1 (inc R) (i : Int) = row R.length fun b => (cnt (rd_L1 R (i : Int)) (b : Int) : Int) := by
  rw [rdLL (inc R) i (by rw [inc_n R hmo]; exact hi)]
  simp only [inc, hmo, if_true, List.getElem_map]
  rw [rdLL R i hi]; rfl
omit hmo in
theorem cnt_pos (w : List Int) (b : Int) : (0 : Int) < (cnt w b : Int) ↔ b ∈ w := by
  unfold cnt
  rw [Int.natCast_pos, List.countP_pos_iff]
  constructor
  · rintro ⟨x, hx, h⟩; rw [← of_decide_eq_true h]; exact hx
  · intro h; exact ⟨b, h, decide_eq_true rfl⟩
theorem hs_len : ∀ t (i : Nat), i < R.length → (hs R t i).length = R.length
  | 0, i, hi => by show (rd_L1 (inc R) (i : Int)).length = _; rw [inc_row R hmo i hi, row_length]
  | t + 1, i, hi => row_length _ _
omit hmo in
theorem mn_one (x : Int) (hx : 0 ≤ x) : mn x 1 = if 0 < x then 1 else 0 := by
  unfold mn
  by_cases q : 1 < x
  · rw [_root_.if_pos q, _root_.if_pos (by omega)]
  · rw [_root_.if_neg q]
    by_cases q2 : 0 < x
    · rw [_root_.if_pos q2]; omega
    · rw [_root_.if_neg q2]; omega
omit hmo in
theorem pk_pos (h : List Int) (M : List (List Int)) (n : Nat) (hh : ∀ k : Nat, k < n → 0 ≤ rd h (k : Int)) (hM : ∀ k j : Nat, k < n → j < n → 0 ≤ rd (rd_L1 M (k : Int)) (j : Int)) (j : Nat) (hj : j < n) : ∀ k, k ≤ n → 0 ≤ pk h M k j ∧ (0 < pk h M k j ↔ ∃ m : Nat, m < k ∧ 0 < rd h (m : Int) ∧ 0 < rd (rd_L1 M (m : Int)) (j : Int))
  | 0, _ => ⟨Int.le_refl 0, fun h => absurd h (Int.lt_irrefl 0), fun ⟨m, hm, _⟩ => absurd hm (Nat.not_lt_zero m)⟩
  | k + 1, hk => by
    obtain ⟨h0, h1⟩ := pk_pos h M n hh hM j hj k (by omega)
    have a := hh k (by omega)
    have b := hM k j (by omega) hj
    have e : pk h M (k + 1) j = mx (pk h M k j) (wrap64 (mn (rd h (k : Int)) 1 * mn (rd (rd_L1 M (k : Int)) (j : Int)) 1)) := rfl
    rw [e, mn_one _ a, mn_one _ b]
    have key : wrap64 ((if 0 < rd h (k : Int) then (1 : Int) else 0) * (if 0 < rd (rd_L1 M (k : Int)) (j : Int) then (1 : Int) else 0)) = if 0 < rd h (k : Int) ∧ 0 < rd (rd_L1 M (k : Int)) (j : Int) then 1 else 0 := by
      by_cases q1 : 0 < rd h (k : Int) <;> by_cases q2 : 0 < rd (rd_L1 M (k : Int)) (j : Int) <;> simp [q1, q2, wrap64]
    rw [key]
    unfold mx
    by_cases q : 0 < rd h (k : Int) ∧ 0 < rd (rd_L1 M (k : Int)) (j : Int)
    · rw [_root_.if_pos q]
      refine ⟨by split <;> omega, fun _ => ⟨k, by omega, q⟩, fun _ => by split <;> omega⟩
    · rw [_root_.if_neg q, _root_.if_neg (by omega)]
      refine ⟨h0, fun h => ?_, fun h => ?_⟩
      · obtain ⟨m, hm, h2⟩ := h1.1 h; exact ⟨m, by omega, h2⟩
      · obtain ⟨m, hm, h2⟩ := h
        rcases Nat.lt_or_eq_of_le (Nat.le_of_lt_succ hm) with h3 | h3
        · exact h1.2 ⟨m, h3, h2⟩
        · subst h3; exact absurd h2 q
theorem inc_at (i j : Nat) (hi : i < R.length) (hj : j < R.length) : 0 ≤ rd (rd_L1 (inc R) (i : Int)) (j : Int) ∧ (0 < rd (rd_L1 (inc R) (i : Int)) (j : Int) ↔ (j : Int) ∈ rd_L1 R (i : Int)) := by
  rw [inc_row R hmo i hi, rd_row _ _ j hj]
  exact ⟨Int.natCast_nonneg _, cnt_pos _ _⟩
theorem hs_pos : ∀ t (i j : Nat), i < R.length → j < R.length → 0 ≤ rd (hs R t i) (j : Int) ∧ (0 < rd (hs R t i) (j : Int) ↔ (j : Int) ∈ st R (t + 1) (i : Int))
  | 0, i, j, hi, hj => by
    have h := inc_at R hmo i j hi hj
    refine ⟨h.1, h.2.trans ?_⟩
    show _ ↔ (j : Int) ∈ nxt R [] [(i : Int)]
    rw [nxt_mem]; simp
  | t + 1, i, j, hi, hj => by
    have ih := fun m (hm : m < R.length) => hs_pos t i m hi hm
    have h := pk_pos (hs R t i) (inc R) R.length (fun k hk => (ih k hk).1) (fun k j hk hj => (inc_at R hmo k j hk hj).1) j hj R.length (Nat.le_refl _)
    show 0 ≤ rd (row R.length (pk (hs R t i) (inc R) R.length)) (j : Int) ∧ (0 < rd (row R.length (pk (hs R t i) (inc R) R.length)) (j : Int) ↔ (j : Int) ∈ nxt R [] (st R (t + 1) (i : Int)))
    rw [rd_row _ _ j hj, nxt_mem]
    refine ⟨h.1, h.2.trans ⟨fun ⟨m, hm, h1, h2⟩ => .inr ⟨(m : Int), (ih m hm).2.1 h1, (inc_at R hmo m j hm hj).2.1 h2⟩, fun hx => ?_⟩⟩
    rcases hx with hx | ⟨x, hx, hy⟩
    · cases hx
    · have hr := st_range R hmo (t + 1) (i : Int) (by omega) (by omega) x hx
      obtain ⟨m, rfl⟩ : ∃ m : Nat, x = (m : Int) := ⟨x.toNat, by omega⟩
      exact ⟨m, by omega, (ih m (by omega)).2.2 hx, (inc_at R hmo m j (by omega) hj).2.2 hy⟩
theorem hs_all (t : Nat) : (mt R.length (hs R t)).all posR = wh R t R.length := by
  rw [Bool.eq_iff_iff]
  unfold wh mt posR
  rw [List.all_map, List.all_eq_true, List.all_eq_true]
  have one : ∀ i, i < R.length → ((hs R t i).all (fun y => decide (y > 0)) = true ↔ (st R (t + 1) (i : Int)).length = R.length) := fun i hi => by
    rw [(full_iff _ _ (st_nodup R (t + 1) (i : Int)) (st_range R hmo (t + 1) (i : Int) (by omega) (by omega))).2, List.all_eq_true]
    have hl := hs_len R hmo t i hi
    constructor
    · intro h j hj
      refine (hs_pos R hmo t i j hi hj).2.1 ?_
      rw [rd_get _ j (by omega)]
      exact of_decide_eq_true (h _ (List.getElem_mem _))
    · intro h y hy
      obtain ⟨j, hj, rfl⟩ := List.mem_iff_getElem.1 hy
      have := (hs_pos R hmo t i j hi (by omega)).2.2 (h j (by omega))
      rw [rd_get _ j hj] at this
      exact decide_eq_true this
  constructor
  · intro h i hi; exact decide_eq_true ((one i (List.mem_range.1 hi)).1 (h i hi))
  · intro h i hi; exact (one i (List.mem_range.1 hi)).2 (of_decide_eq_true (h i hi))
include hn6
theorem implP_l0 : ∀ d t, t + d = R.length * R.length → Ev (fun k => impl_IsPrimitiveMorphism.l0 k (inc R) (R.length : Int) (mt R.length (hs R t)) ((R.length * R.length : Nat) : Int) (t : Int)) (anyF (fun t => wh R t R.length) d t) := by
  have hsq : R.length * R.length ≤ 36 := Nat.mul_le_mul hn6 hn6
  intro d
  induction d with
  | zero =>
    intro t ht
    exact Ev.step (fun k => by simp only [impl_IsPrimitiveMorphism.l0]; rw [_root_.if_neg (by omega)]; rfl) (Ev.some _)
  | succ d ih =>
    intro t ht
    have hM := inc_n R hmo
    have e : (mt R.length fun m => row R.length (pk (rd_L1 (mt R.length (hs R t)) (m : Int)) (inc R) R.length)) = mt R.length (hs R (t + 1)) := mt_congr _ _ _ (fun m hm => by rw [rd_mt _ _ m hm]; rfl)
    refine Ev.step (fun k => by simp only [impl_IsPrimitiveMorphism.l0]; rw [_root_.if_pos (by omega), mt_length]) ?_
    refine implP_l1 (inc R) (mt R.length (hs R t)) R.length hn6 hM (fun i hi => by rw [inc_row R hmo i hi, row_length]) (mt_length _ _) (fun i hi => by rw [rd_mt _ _ i hi]; exact hs_len R hmo t i hi) _ (t : Int) _ ?_ 0 (Nat.zero_le _) true (by rw [Bool.true_and, List.drop_zero])
    rw [e, wsucc (by omega), hs_all R hmo t]
    show Ev _ (wh R t R.length || anyF (fun t => wh R t R.length) d (t + 1))
    refine Ev.ite (fun q => ?_) (fun q => ?_)
    · rw [q, Bool.true_or]; exact Ev.some _
    · rw [Bool.eq_false_iff.2 q, Bool.false_or]; exact ih (t + 1) (by omega)
end prim
theorem implPM_ev (R : List (List Int)) (h : R.length ≤ 1048576) (ht : total R ≤ 1048576) : Ev (fun k => impl_IsPrimitiveMorphism.f k R) (pm R) := by
  unfold impl_IsPrimitiveMorphism.f pm
  refine Ev.bind (implInc_ev R h ht) ?_
  refine Ev.ite (fun q => ?_) (fun q => ?_)
  · have q : mo R = true := q
    rw [q, Bool.true_and]
    dsimp only
    have hM := inc_n R q
    by_cases q6 : R.length ≤ 6
    · rw [decide_eq_true q6, Bool.true_and, hM, decide_eq_false (by omega)]
      have hsq : R.length * R.length ≤ 36 := Nat.mul_le_mul q6 q6
      have hw : wrap64 ((R.length : Int) * (R.length : Int)) = ((R.length * R.length : Nat) : Int) := by rw [← Int.natCast_mul]; exact w_id (by omega) (by omega)
      have e : mt R.length (hs R 0) = inc R := by
        apply List.ext_getElem
        · rw [mt_length, hM]
        · intro i h1 h2
          rw [mt_length] at h1
          rw [mt_get _ _ i h1]
          exact rdLL _ i h2
      have := implP_l0 R q q6 (R.length * R.length) 0 (by omega)
      rw [e] at this
      exact Ev.step (fun k => by simp only [impl_IsPrimitiveMorphism.j0]; rw [_root_.if_neg (by simp), hw]; rfl) this
    · rw [decide_eq_false q6, Bool.false_and, hM, decide_eq_true (by omega)]
      exact Ev.step (fun k => by simp only [impl_IsPrimitiveMorphism.j0]; rw [_root_.if_pos trivial]) (Ev.some _)
  · have q : ¬ mo R = true := q
    rw [Bool.eq_false_iff.2 q, Bool.false_and]
    exact Ev.step (fun k => by simp only [impl_IsPrimitiveMorphism.j0]; rw [_root_.if_pos trivial]) (Ev.some _)
end Go.Proofs.Ytooamcjgejajeaa.M
/- FnExactIsPrimitiveMorphism: the law itself, over the printed walk: the checks of the law hold. No condition. -/
namespace Go.Proofs.Ytooamcjgejajeaa.M
open Go.RowKit Go.Proofs.YtooamcjgejajeaaW.PrintWords Go.Proofs.Ytooamcjgejajeaa.K
set_option linter.unusedVariables false
theorem lawFnExactIsPrimitiveMorphism (l : List (List Int))  (h : l.length ≤ maxLen) (hx : ∀ x ∈ l, x.length ≤ maxLen ∧ ∀ y ∈ x, (Lit.int .i64 y).wf = true)  : ∃ k, laws_FnExactIsPrimitiveMorphism.f k l  = some true := by
  have main : Ev (fun k => laws_FnExactIsPrimitiveMorphism.f k l ) true := by
    unfold laws_FnExactIsPrimitiveMorphism.f
    refine Ev.bind (szMorphism_ev l h (fun x hx' => (hx x hx').1)) ?_
    refine Ev.ite (fun _ => Ev.some _) (fun q => ?_)
    have hs : l.length + total l ≤ 1048576 := by split at q <;> omega
    have h1 : l.length ≤ 1048576 := by omega
    have h2 : total l ≤ 1048576 := by omega
    refine Ev.bind (toMorphism_ev l h1 h2) (Ev.bind (specPM_ev l  h1 h2) (Ev.bind (toMorphism_ev l h1 h2) (Ev.bind (implPM_ev l  h1 h2) ?_)))
    refine Ev.if_neg (by simp) (Ev.bind (toMorphism_ev l h1 h2) (Ev.bind (eqMorphism_ev l h1 h2) (Ev.if_pos rfl (Ev.some _))))
  obtain ⟨k, hk⟩ := main.rounds
  exact ⟨k, hk⟩
end Go.Proofs.Ytooamcjgejajeaa.M
