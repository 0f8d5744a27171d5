/- Texts of the claim on FnExactPatternLine, joined (part 2 of 4): walks of the functions, what they come to, and in the last part the row. No condition of mine. -/
import Derived.Test.YtdekenijnbhpfaaDoorBFnExactPatternLine0
import Derived.Test.YtdekenijnbhpfaaDoorBFnExactPatternLine1
namespace Go.Proofs.YtdekenijnbhpfaaDoor.M
open Go.RowKit Go.Proofs.YtdekenijnbhpfaaDoor.KW Go.Proofs.YtdekenijnbhpfaaDoorW.PrintWords Go.Proofs.YtdekenijnbhpfaaDoorW.PrintLast Go.Proofs.YtdekenijnbhpfaaDoorW.PrintMore
attribute [local go_sem] max2_int min2_int max_two min_two max_three min_three max_four min_four
set_option linter.unusedVariables false
set_option linter.unusedSimpArgs false
mutual
def spec_IsDoubled.l0 : Nat → List Int → Int → Option (Bool)
 | 0, _, _ => none
 | k + 1, x0, x3 => (spec_l28Letters.f k x0).bind fun t209 => (if x3 < t209 then ((spec_IsPattern.f k x0).bind fun t210 => (spec_IsDoubled.j1 k x0 x3 t210)) else (spec_IsDoubled.j1 k x0 x3 false))
def spec_IsDoubled.j1 : Nat → List Int → Int → Bool → Option (Bool)
 | 0, _, _, _ => none
 | k + 1, x0, x3, x11 => if x11 = true then ((spec_CountLetters.f k x0 x3).bind fun t211 => (if t211 < 2 then (some false) else (spec_IsDoubled.l0 k x0 (wrap64 (x3 + 1))))) else ((spec_IsPattern.f k x0).bind fun t212 => (some t212))
end
def spec_IsDoubled.f (k : Nat) (l0 : List Int) : Option (Bool) := spec_IsDoubled.l0 k l0 0
set_option maxHeartbeats 8000000 in
set_option maxRecDepth 100000 in
theorem spec_IsDoubled.calls (k : Nat) (A0 : Option Addr) (c0 : Nat) (l0 : List Int) (r : Bool) (w : World) (hr0 : Kd.C (Kd.int .i64) w A0 l0.length l0) (hc0 : l0.length ≤ c0) (h : spec_IsDoubled.f k l0 = some r) :
  Calls Tryd.prog 33 #[.slice A0 l0.length c0] w fun e w' => e = .returned (.bool r) ∧ Below w.heap.size w w' := by
 have HR0 := Aside0.mk hr0; have HC0 := Aside0.mk hc0; clear hr0 hc0; have HB := Aside0.mk (Below.refl w.heap.size w); have H : (spec_IsDoubled.l0 k l0 0) = some r := h; clear h; have H' := Aside0.mk H; clear H; go_enter Tryd.func33, Tryd.ntmps33; go_wp2; go_loopg [3] k (fun kq v3 w' => ∃ (x3_1 : Int), v3 = .int .i64 x3_1 ∧ Aside0 (spec_IsDoubled.l0 kq l0 x3_1 = some r) ∧ Aside0 (kq ≤ k) ∧ Aside0 (Below w.heap.size w w'))
 case atStart => exact ⟨(0), (by first | rfl | (simp; done) | (simp [*]; done)), H', ⟨Nat.le_refl _⟩, ⟨by repeat (first | (with_reducible first | exact HB.out | apply below_alloc | apply pw_below_drewN | apply below_drew1) | exact HB.out)⟩⟩
 case round =>
  clear H'; obtain ⟨x3_1, rfl, HA, HK1, HB⟩ := hrel; cases gk with
  | zero => exact absurd HA.out (by simp [spec_IsDoubled.l0])
  | succ k1 =>
   have H := HA.out; clear HA; simp only [spec_IsDoubled.l0] at H; have HC2 := Aside0.mk H; clear H; go_upto_region 2 with (fail); go_cut [11] (fun v11 wc => ∃ (kq : Nat) (x11_1 : Bool), v11 = .bool x11_1 ∧ Aside0 (spec_IsDoubled.j1 kq l0 x3_1 x11_1 = some r) ∧ Aside0 (kq ≤ k1) ∧ Aside0 (Below w.heap.size w wc))
   case first =>
    have H := HC2.out; clear HC2; replace H := Option.bind_eq_some_iff.mp H; obtain ⟨t209, A30, H⟩ := H; replace H : (if x3_1 < t209 then ((spec_IsPattern.f k1 l0).bind fun t210 => (spec_IsDoubled.j1 k1 l0 x3_1 t210)) else (spec_IsDoubled.j1 k1 l0 x3_1 false)) = some r := H; have A3 := Aside0.mk A30; clear A30; by_cases c4 : x3_1 < t209
    ·rw [if_pos c4] at H; have c4b0 : decide (x3_1 < t209) = true := decide_eq_true c4; clear c4
     (first | rw [c4b0] | (simp only [i64_w, i32_w]; rw [c4b0]) | skip)
     replace H := Option.bind_eq_some_iff.mp H; obtain ⟨t210, A50, H⟩ := H; replace H : (spec_IsDoubled.j1 k1 l0 x3_1 t210) = some r := H; have A5 := Aside0.mk A50; clear A50; have H' := Aside0.mk H; clear H; go_wp2_with (first | ((with_reducible refine gate_callee (f := 86) rfl ?_); refine goesL_ (some 6) rfl rfl Tryd.func86 (by kernel_rfl) rfl #[.slice A0 l0.length c0] rfl (by (try simp only [List.map_toArray, List.map_cons, List.map_nil]); first | done | rfl | (simp only [List.length_drop, List.length_take]; rfl)) ?_; (with_reducible refine (spec_l28Letters.calls k1 _ _ l0 t209 _ ?side1 ?side2 A3.out).mono ?_); (case side1 => repeat (first | exact (Kd.C_below HR0.out HB.out) | (with_reducible refine Kd.C_alloc ?_ _) | (with_reducible refine Kd.C_drewN ?_ _) | (with_reducible refine Kd.C_drew ?_))); (case side2 => exact HC0.out); rintro e w6 ⟨rfl, hb⟩; refine ⟨_, rfl, ?_⟩; have n0_ := Aside0.mk (below_step (by repeat (first | (with_reducible first | exact HB.out | apply below_alloc | apply pw_below_drewN | apply below_drew1) | exact HB.out)) hb); clear HB; have HB := n0_; clear n0_; (try clear hb); (try clear hb2); (try clear hk); (try clear hi)) | (go_at_call 87; (with_reducible refine (spec_IsPattern.calls k1 _ _ l0 t210 _ ?side1 ?side2 A5.out).mono ?_); (case side1 => repeat (first | exact (Kd.C_below HR0.out HB.out) | (with_reducible refine Kd.C_alloc ?_ _) | (with_reducible refine Kd.C_drewN ?_ _) | (with_reducible refine Kd.C_drew ?_))); (case side2 => exact HC0.out); rintro e w' ⟨rfl, ⟨nd, rfl⟩⟩)); go_meet
     case rel => exact ⟨_, (t210), (by first | rfl | (simp; done) | (simp [*]; done)), H', ⟨by have := HK1.out; first | omega | exact Nat.le_refl _⟩, ⟨by repeat (first | (with_reducible first | exact HB.out | apply below_alloc | apply pw_below_drewN | apply below_drew1) | exact HB.out)⟩⟩
    ·rw [if_neg c4] at H; have c4b0 : decide (x3_1 < t209) = false := decide_eq_false c4; clear c4
     (first | rw [c4b0] | (simp only [i64_w, i32_w]; rw [c4b0]) | skip)
     have H' := Aside0.mk H; clear H; go_wp2_with (first | ((with_reducible refine gate_callee (f := 86) rfl ?_); refine goesL_ (some 6) rfl rfl Tryd.func86 (by kernel_rfl) rfl #[.slice A0 l0.length c0] rfl (by (try simp only [List.map_toArray, List.map_cons, List.map_nil]); first | done | rfl | (simp only [List.length_drop, List.length_take]; rfl)) ?_; (with_reducible refine (spec_l28Letters.calls k1 _ _ l0 t209 _ ?side1 ?side2 A3.out).mono ?_); (case side1 => repeat (first | exact (Kd.C_below HR0.out HB.out) | (with_reducible refine Kd.C_alloc ?_ _) | (with_reducible refine Kd.C_drewN ?_ _) | (with_reducible refine Kd.C_drew ?_))); (case side2 => exact HC0.out); rintro e w7 ⟨rfl, hb⟩; refine ⟨_, rfl, ?_⟩; have n0_ := Aside0.mk (below_step (by repeat (first | (with_reducible first | exact HB.out | apply below_alloc | apply pw_below_drewN | apply below_drew1) | exact HB.out)) hb); clear HB; have HB := n0_; clear n0_; (try clear hb); (try clear hb2); (try clear hk); (try clear hi))); go_meet
     case rel => exact ⟨_, (false), (by first | rfl | (simp; done) | (simp [*]; done)), H', ⟨by have := HK1.out; first | omega | exact Nat.le_refl _⟩, ⟨by repeat (first | (with_reducible first | exact HB.out | apply below_alloc | apply pw_below_drewN | apply below_drew1) | exact HB.out)⟩⟩
   case rest =>
    clear HC2
    try clear p2
    try clear c3
    try clear c4
    try clear c4b0
    obtain ⟨kq, x11_1, rfl, HA, HJ1, HB⟩ := hcut; cases kq with
    | zero => exact absurd HA.out (by simp [spec_IsDoubled.j1])
    | succ kj1 =>
     have H := HA.out; clear HA; simp only [spec_IsDoubled.j1] at H; by_cases c8 : x11_1 = true
     ·subst c8; have H1 : ((spec_CountLetters.f kj1 l0 x3_1).bind fun t211 => (if t211 < 2 then (some false) else (spec_IsDoubled.l0 kj1 l0 (wrap64 (x3_1 + 1))))) = some r := by rw [if_pos rfl] at H; exact H
      clear H; have H := H1; clear H1; replace H := Option.bind_eq_some_iff.mp H; obtain ⟨t211, A90, H⟩ := H; replace H : (if t211 < 2 then (some false) else (spec_IsDoubled.l0 kj1 l0 (wrap64 (x3_1 + 1)))) = some r := H; have A9 := Aside0.mk A90; clear A90; by_cases c10 : t211 < 2
      ·rw [if_pos c10] at H; have c10b0 : decide (t211 < 2) = true := decide_eq_true c10; clear c10; obtain rfl := Option.some.inj H; go_wp2_with (first | ((with_reducible refine gate_callee (f := 88) rfl ?_); refine goesL_ (some 16) rfl rfl Tryd.func88 (by kernel_rfl) rfl #[.slice A0 l0.length c0, .int .i64 x3_1] rfl (by (try simp only [List.map_toArray, List.map_cons, List.map_nil]); first | done | rfl | (simp only [List.length_drop, List.length_take]; rfl)) ?_; (with_reducible refine (spec_CountLetters.calls kj1 _ _ l0 x3_1 t211 _ ?side1 ?side2 A9.out).mono ?_); (case side1 => repeat (first | exact (Kd.C_below HR0.out HB.out) | (with_reducible refine Kd.C_alloc ?_ _) | (with_reducible refine Kd.C_drewN ?_ _) | (with_reducible refine Kd.C_drew ?_))); (case side2 => exact HC0.out); rintro e w' ⟨rfl, ⟨nd, rfl⟩⟩; refine ⟨_, rfl, ?_⟩)); go_ret; exact ⟨by first | rfl | (simp [errW_none, errW_some] <;> rfl) | (simp [*, errW_none, errW_some] <;> rfl), by repeat (first | (with_reducible first | exact HB.out | apply below_alloc | apply pw_below_drewN | apply below_drew1) | exact HB.out)⟩
      ·rw [if_neg c10] at H; have c10b0 : decide (t211 < 2) = false := decide_eq_false c10; clear c10; have H' := Aside0.mk H; clear H; go_wp2_with (first | ((with_reducible refine gate_callee (f := 88) rfl ?_); refine goesL_ (some 16) rfl rfl Tryd.func88 (by kernel_rfl) rfl #[.slice A0 l0.length c0, .int .i64 x3_1] rfl (by (try simp only [List.map_toArray, List.map_cons, List.map_nil]); first | done | rfl | (simp only [List.length_drop, List.length_take]; rfl)) ?_; (with_reducible refine (spec_CountLetters.calls kj1 _ _ l0 x3_1 t211 _ ?side1 ?side2 A9.out).mono ?_); (case side1 => repeat (first | exact (Kd.C_below HR0.out HB.out) | (with_reducible refine Kd.C_alloc ?_ _) | (with_reducible refine Kd.C_drewN ?_ _) | (with_reducible refine Kd.C_drew ?_))); (case side2 => exact HC0.out); rintro e w' ⟨rfl, ⟨nd, rfl⟩⟩; refine ⟨_, rfl, ?_⟩)); go_roundg kj1
       case measure => have := HK1.out; have := HJ1.out; omega
       case rel => exact ⟨(wrap64 (x3_1 + 1)), (by first | rfl | (simp; done) | (simp [*]; done)), H', ⟨by have := HK1.out; have := HJ1.out; omega⟩, ⟨by repeat (first | (with_reducible first | exact HB.out | apply below_alloc | apply pw_below_drewN | apply below_drew1) | exact HB.out)⟩⟩
     ·replace c8 := Bool.eq_false_iff.mpr c8; subst c8; have H1 : ((spec_IsPattern.f kj1 l0).bind fun t212 => (some t212)) = some r := by rw [if_neg (show ¬ (false = true) by decide)] at H; exact H
      clear H; have H := H1; clear H1; replace H := Option.bind_eq_some_iff.mp H; obtain ⟨t212, A110, H⟩ := H; replace H : (some t212) = some r := H; have A11 := Aside0.mk A110; clear A110; obtain rfl := Option.some.inj H; go_wp2_with (first | ((with_reducible refine gate_callee (f := 87) rfl ?_); refine goesL_ (some 19) rfl rfl Tryd.func87 (by kernel_rfl) rfl #[.slice A0 l0.length c0] rfl (by (try simp only [List.map_toArray, List.map_cons, List.map_nil]); first | done | rfl | (simp only [List.length_drop, List.length_take]; rfl)) ?_; (with_reducible refine (spec_IsPattern.calls kj1 _ _ l0 t212 _ ?side1 ?side2 A11.out).mono ?_); (case side1 => repeat (first | exact (Kd.C_below HR0.out HB.out) | (with_reducible refine Kd.C_alloc ?_ _) | (with_reducible refine Kd.C_drewN ?_ _) | (with_reducible refine Kd.C_drew ?_))); (case side2 => exact HC0.out); rintro e w' ⟨rfl, ⟨nd, rfl⟩⟩; refine ⟨_, rfl, ?_⟩)); go_ret; exact ⟨by first | rfl | (simp [errW_none, errW_some] <;> rfl) | (simp [*, errW_none, errW_some] <;> rfl), by repeat (first | (with_reducible first | exact HB.out | apply below_alloc | apply pw_below_drewN | apply below_drew1) | exact HB.out)⟩
def spec_FormatInt.l0 : Nat → Int → ByteArray → Bool → Option (ByteArray)
 | 0, _, _, _ => none
 | k + 1, x0, x3, x4 => if x0 = 0 then (if x4 = true then (if 1 + x3.size ≤ 9223372036854775807 then (some ((⟨#[45]⟩ : ByteArray) ++ x3)) else (none)) else (some x3)) else (if (Int.tmod x0 10) < 0 then ((some (([(wrap64 (48 + (wrap64 (-(Int.tmod x0 10))))) % 256] : List Int) : List Int)).bind fun y213 => (if (strOfNums y213).size + x3.size ≤ 9223372036854775807 then (spec_FormatInt.l0 k (wrap64 (Int.tdiv x0 10)) ((strOfNums y213) ++ x3) x4) else (none))) else ((some (([(wrap64 (48 + (Int.tmod x0 10))) % 256] : List Int) : List Int)).bind fun y216 => (if (strOfNums y216).size + x3.size ≤ 9223372036854775807 then (spec_FormatInt.l0 k (wrap64 (Int.tdiv x0 10)) ((strOfNums y216) ++ x3) x4) else (none))))
def spec_FormatInt.f (k : Nat) (a0 : Int) : Option (ByteArray) := if a0 = 0 then (some (⟨#[48]⟩ : ByteArray)) else (spec_FormatInt.l0 k a0 (⟨#[]⟩ : ByteArray) (decide (a0 < 0)))
set_option maxHeartbeats 8000000 in
set_option maxRecDepth 100000 in
theorem spec_FormatInt.calls (k : Nat) (a0 : Int) (r : ByteArray) (w : World) (h : spec_FormatInt.f k a0 = some r) :
  Calls Tryd.prog 34 #[.int .i64 a0] w fun e w' => e = .returned (.string r) ∧ Below w.heap.size w w' := by
 have HB := Aside0.mk (Below.refl w.heap.size w); have H : (if a0 = 0 then (some (⟨#[48]⟩ : ByteArray)) else (spec_FormatInt.l0 k a0 (⟨#[]⟩ : ByteArray) (decide (a0 < 0)))) = some r := h; clear h; by_cases c2 : a0 = 0
 ·rw [if_pos c2] at H; have c2b0 : (a0 == 0) = true := beq_iff_eq.mpr c2; have c2b1 : (a0 != 0) = false := bne_eq_false_iff_eq.mpr c2; clear c2; obtain rfl := Option.some.inj H; go_enter Tryd.func34, Tryd.ntmps34; go_wp2; go_ret; exact ⟨by first | rfl | (simp [errW_none, errW_some] <;> rfl) | (simp [*, errW_none, errW_some] <;> rfl), by repeat (first | (with_reducible first | exact HB.out | apply below_alloc | apply pw_below_drewN | apply below_drew1) | exact HB.out)⟩
 ·rw [if_neg c2] at H; have c2b0 : (a0 == 0) = false := beq_eq_false_iff_ne.mpr c2; have c2b1 : (a0 != 0) = true := bne_iff_ne.mpr c2; have H' := Aside0.mk H; clear H; go_enter Tryd.func34, Tryd.ntmps34; go_wp2; go_loopg [0, 3] k (fun kq v0 v3 w' => ∃ (x0_1 : Int) (x3_1 : ByteArray), v0 = .int .i64 x0_1 ∧ v3 = .string x3_1 ∧ Aside0 (spec_FormatInt.l0 kq x0_1 x3_1 (decide (a0 < 0)) = some r) ∧ Aside0 (kq ≤ k) ∧ Aside0 (Below w.heap.size w w'))
  case atStart => exact ⟨(a0), ((⟨#[]⟩ : ByteArray)), (by first | rfl | (simp; done) | (simp [*]; done)), (by first | rfl | (simp; done) | (simp [*]; done)), H', ⟨Nat.le_refl _⟩, ⟨by repeat (first | (with_reducible first | exact HB.out | apply below_alloc | apply pw_below_drewN | apply below_drew1) | exact HB.out)⟩⟩
  case round =>
   clear H'
   try clear c2
   try clear c2b0
   try clear c2b1
   try clear p2
   obtain ⟨x0_1, x3_1, rfl, rfl, HA, HK1, HB⟩ := hrel; cases gk with
   | zero => exact absurd HA.out (by simp [spec_FormatInt.l0])
   | succ k1 =>
    have H := HA.out; clear HA; simp only [spec_FormatInt.l0] at H; by_cases c3 : x0_1 = 0
    ·rw [if_pos c3] at H; have c3b0 : (x0_1 == 0) = true := beq_iff_eq.mpr c3; have c3b1 : (x0_1 != 0) = false := bne_eq_false_iff_eq.mpr c3; clear c3; by_cases c4 : (decide (a0 < 0)) = true
     ·rw [if_pos c4] at H; have c4b0 : (decide (a0 < 0)) = true := c4; clear c4; by_cases c5 : 1 + x3_1.size ≤ 9223372036854775807
      ·rw [if_pos c5] at H; have c5b0 := eq_true c5; have c5b1 : decide (1 + x3_1.size ≤ 9223372036854775807) = true := decide_eq_true c5
       try have c5b2 : (9223372036854775807 < 1 + x3_1.size) = False := eq_false (Nat.not_lt.2 c5)
       obtain rfl := Option.some.inj H; go_wp2
       all_goals (try (exact absurd (of_decide_eq_true c4b0) (by omega)))
       go_ret; exact ⟨by first | rfl | (simp [errW_none, errW_some] <;> rfl) | (simp [*, errW_none, errW_some] <;> rfl), by repeat (first | (with_reducible first | exact HB.out | apply below_alloc | apply pw_below_drewN | apply below_drew1) | exact HB.out)⟩
      ·rw [if_neg c5] at H; exact absurd H (by simp)
     ·rw [if_neg c4] at H; have c4b0 : (decide (a0 < 0)) = false := by simpa using c4
      clear c4; obtain rfl := Option.some.inj H; go_wp2
      all_goals (try (exact absurd (show a0 < 0 by omega) (of_decide_eq_false c4b0)))
      go_ret; exact ⟨by first | rfl | (simp [errW_none, errW_some] <;> rfl) | (simp [*, errW_none, errW_some] <;> rfl), by repeat (first | (with_reducible first | exact HB.out | apply below_alloc | apply pw_below_drewN | apply below_drew1) | exact HB.out)⟩
    ·rw [if_neg c3] at H; have c3b0 : (x0_1 == 0) = false := beq_eq_false_iff_ne.mpr c3; have c3b1 : (x0_1 != 0) = true := bne_iff_ne.mpr c3; by_cases c6 : (Int.tmod x0_1 10) < 0
     ·rw [if_pos c6] at H; have c6b0 : decide ((Int.tmod x0_1 10) < 0) = true := decide_eq_true c6; clear c6; obtain ⟨y213, hy213⟩ : ∃ y_ : List Int, y_ = (([(wrap64 (48 + (wrap64 (-(Int.tmod x0_1 10))))) % 256] : List Int)) := ⟨_, rfl⟩; replace H : (if (strOfNums y213).size + x3_1.size ≤ 9223372036854775807 then (spec_FormatInt.l0 k1 (wrap64 (Int.tdiv x0_1 10)) ((strOfNums y213) ++ x3_1) (decide (a0 < 0))) else (none)) = some r := by first | (rw [hy213]; with_reducible exact H) | (have H2_ := (Option.bind_some _ _).symm.trans H; rw [hy213]; with_reducible exact H2_) | (have H2_ := (Option.bind_some _ _).symm.trans H; with_reducible exact H2_) | with_reducible exact H | (rw [hy213]; exact H) | exact H
      have Ny213 := Aside0.mk hy213; clear hy213; by_cases c7 : (strOfNums y213).size + x3_1.size ≤ 9223372036854775807
      ·rw [if_pos c7] at H; have c7b0 := eq_true c7; have c7b1 : decide ((strOfNums y213).size + x3_1.size ≤ 9223372036854775807) = true := decide_eq_true c7
       try have c7b2 : (9223372036854775807 < (strOfNums y213).size + x3_1.size) = False := eq_false (Nat.not_lt.2 c7)
       have H' := Aside0.mk H; clear H; go_wp2_with (first | ((with_reducible refine gate_dst (N := 21) rfl ?_); refine Kd.R_lit (Kd.int .u8) _ 5 ?hg (N := 21) ?hd (xs := ([(wrap64 (48 + (wrap64 (-(Int.tmod x0_1 10))))) % 256] : List Int)) (inner := [.int .u8 ((wrap64 (48 + (wrap64 (-(Int.tmod x0_1 10))))) % 256)]) (ok := fun _ => True) (okp := fun _ => True) ?hr ?hp (fun _ hk => hk) trivial (Below.refl _ _) (Nat.le_refl _) (by simp) ?_; (case hd => rfl); (case hg => rfl); (case hr => first | (go_simp; done) | (go_simp; rfl)); (case hp => exact (Reps.one (show Kd.M (Kd.int .u8) _ _ _ ((wrap64 (48 + (wrap64 (-(Int.tmod x0_1 10))))) % 256) [.int .u8 ((wrap64 (48 + (wrap64 (-(Int.tmod x0_1 10))))) % 256)] from rfl) (Reps.none _ _))); intro v214 w8 ho9 hb hg_ hnew_; clear hg_ hnew_; (first | rw [← Ny213.out] at ho9 | (simp only [Int.reduceToNat] at ho9; rw [← Ny213.out] at ho9)); have n0_ := Aside0.mk (Kd.R_lower ho9 (below_size (by repeat (first | (with_reducible first | exact HB.out | apply below_alloc | apply pw_below_drewN | apply below_drew1) | exact HB.out)))); have n1_ := Aside0.mk (below_step (by repeat (first | (with_reducible first | exact HB.out | apply below_alloc | apply pw_below_drewN | apply below_drew1) | exact HB.out)) hb); clear HB; have HO215 := n0_; have HB := n1_; clear n0_ n1_; clear hb ho9; have hcv10 := own_string (P := Tryd.prog) Tryd.underlying91 Tryd.underlying5 Tryd.underlying9 (Kd.own_of_R HO215.out))); go_roundg k1
       case measure => have := HK1.out; omega
       case rel => exact ⟨(wrap64 (Int.tdiv x0_1 10)), ((strOfNums y213) ++ x3_1), (by first | rfl | (simp; done) | (simp [*]; done)), (by first | rfl | (simp; done) | (simp [*]; done)), H', ⟨by have := HK1.out; omega⟩, ⟨by repeat (first | (with_reducible first | exact HB.out | apply below_alloc | apply pw_below_drewN | apply below_drew1) | exact HB.out)⟩⟩
      ·rw [if_neg c7] at H; exact absurd H (by simp)
     ·rw [if_neg c6] at H; have c6b0 : decide ((Int.tmod x0_1 10) < 0) = false := decide_eq_false c6; clear c6; obtain ⟨y216, hy216⟩ : ∃ y_ : List Int, y_ = (([(wrap64 (48 + (Int.tmod x0_1 10))) % 256] : List Int)) := ⟨_, rfl⟩; replace H : (if (strOfNums y216).size + x3_1.size ≤ 9223372036854775807 then (spec_FormatInt.l0 k1 (wrap64 (Int.tdiv x0_1 10)) ((strOfNums y216) ++ x3_1) (decide (a0 < 0))) else (none)) = some r := by first | (rw [hy216]; with_reducible exact H) | (have H2_ := (Option.bind_some _ _).symm.trans H; rw [hy216]; with_reducible exact H2_) | (have H2_ := (Option.bind_some _ _).symm.trans H; with_reducible exact H2_) | with_reducible exact H | (rw [hy216]; exact H) | exact H
      have Ny216 := Aside0.mk hy216; clear hy216; by_cases c11 : (strOfNums y216).size + x3_1.size ≤ 9223372036854775807
      ·rw [if_pos c11] at H; have c11b0 := eq_true c11; have c11b1 : decide ((strOfNums y216).size + x3_1.size ≤ 9223372036854775807) = true := decide_eq_true c11
       try have c11b2 : (9223372036854775807 < (strOfNums y216).size + x3_1.size) = False := eq_false (Nat.not_lt.2 c11)
       have H' := Aside0.mk H; clear H; go_wp2_with (first | ((with_reducible refine gate_dst (N := 21) rfl ?_); refine Kd.R_lit (Kd.int .u8) _ 5 ?hg (N := 21) ?hd (xs := ([(wrap64 (48 + (Int.tmod x0_1 10))) % 256] : List Int)) (inner := [.int .u8 ((wrap64 (48 + (Int.tmod x0_1 10))) % 256)]) (ok := fun _ => True) (okp := fun _ => True) ?hr ?hp (fun _ hk => hk) trivial (Below.refl _ _) (Nat.le_refl _) (by simp) ?_; (case hd => rfl); (case hg => rfl); (case hr => first | (go_simp; done) | (go_simp; rfl)); (case hp => exact (Reps.one (show Kd.M (Kd.int .u8) _ _ _ ((wrap64 (48 + (Int.tmod x0_1 10))) % 256) [.int .u8 ((wrap64 (48 + (Int.tmod x0_1 10))) % 256)] from rfl) (Reps.none _ _))); intro v217 w12 ho13 hb hg_ hnew_; clear hg_ hnew_; (first | rw [← Ny216.out] at ho13 | (simp only [Int.reduceToNat] at ho13; rw [← Ny216.out] at ho13)); have n0_ := Aside0.mk (Kd.R_lower ho13 (below_size (by repeat (first | (with_reducible first | exact HB.out | apply below_alloc | apply pw_below_drewN | apply below_drew1) | exact HB.out)))); have n1_ := Aside0.mk (below_step (by repeat (first | (with_reducible first | exact HB.out | apply below_alloc | apply pw_below_drewN | apply below_drew1) | exact HB.out)) hb); clear HB; have HO218 := n0_; have HB := n1_; clear n0_ n1_; clear hb ho13; have hcv14 := own_string (P := Tryd.prog) Tryd.underlying91 Tryd.underlying5 Tryd.underlying9 (Kd.own_of_R HO218.out))); go_roundg k1
       case measure => have := HK1.out; omega
       case rel => exact ⟨(wrap64 (Int.tdiv x0_1 10)), ((strOfNums y216) ++ x3_1), (by first | rfl | (simp; done) | (simp [*]; done)), (by first | rfl | (simp; done) | (simp [*]; done)), H', ⟨by have := HK1.out; omega⟩, ⟨by repeat (first | (with_reducible first | exact HB.out | apply below_alloc | apply pw_below_drewN | apply below_drew1) | exact HB.out)⟩⟩
      ·rw [if_neg c11] at H; exact absurd H (by simp)
end Go.Proofs.YtdekenijnbhpfaaDoor.M
/- freeWords of the program, walked for any test of words: the words of a length whose beginnings all pass the test, in rows that share no memory. Conditions: the test is a function value that only reads the word, and there is room. -/
namespace Go.Proofs.YtdekenijnbhpfaaDoor.M
open Go.RowKit Go.Proofs.YtdekenijnbhpfaaDoorW.PrintWords Go.Proofs.YtdekenijnbhpfaaDoorW.PrintLast Go.Proofs.YtdekenijnbhpfaaDoorW.PrintMore Go.Proofs.YtdekenijnbhpfaaDoor.K Go.Proofs.YtdekenijnbhpfaaDoor.KW
set_option linter.unusedVariables false
set_option linter.unusedSimpArgs false
/-- A word, longer by each letter below m, where the test lets it. -/
def ext (p : List Int → Bool) (word : List Int) (x : Nat) : List (List Int) := ((List.range x).map fun (a : Nat) => word ++ [(a : Int)]).filter p
def fwStep (m : Nat) (p : List Int → Bool) (ws : List (List Int)) : List (List Int) := ws.flatMap fun word => ext p word m
def fw (m : Nat) (p : List Int → Bool) : Nat → List (List Int)
 | 0 => [[]]
 | n + 1 => fwStep m p (fw m p n)
theorem ext_succ (p : List Int → Bool) (word : List Int) (x : Nat) : ext p word (x + 1) = ext p word x ++ (if p (word ++ [(x : Int)]) = true then [word ++ [(x : Int)]] else []) := by
 unfold ext; rw [List.range_succ, List.map_append, List.filter_append]; by_cases h : p (word ++ [(x : Int)]) = true <;> simp [h]
theorem ext_le (p : List Int → Bool) (word : List Int) (x : Nat) : (ext p word x).length ≤ x := by
 unfold ext; refine Nat.le_trans (List.length_filter_le _ _) ?_; simp
theorem fwStep_le (m : Nat) (p : List Int → Bool) (ws : List (List Int)) : (fwStep m p ws).length ≤ m * ws.length := by
 induction ws with
 | nil => simp [fwStep]
 | cons w ws ih =>
  have := ext_le p w m; simp only [fwStep, List.flatMap_cons, List.length_append, List.length_cons] at ih ⊢; rw [Nat.mul_add]; omega
theorem fwStep_take (m : Nat) (p : List Int → Bool) (ws : List (List Int)) (i : Nat) (h : i < ws.length) : fwStep m p (ws.take (i + 1)) = fwStep m p (ws.take i) ++ ext p ws[i] m := by
 unfold fwStep; rw [take_succ ws i h, List.flatMap_append]; simp
theorem fw_le (m : Nat) (p : List Int → Bool) (n : Nat) : (fw m p n).length ≤ m ^ n := by
 induction n with
 | zero => simp [fw]
 | succ n ih => unfold fw; refine Nat.le_trans (fwStep_le m p _) ?_; rw [Nat.pow_succ, Nat.mul_comm]; exact Nat.mul_le_mul_right _ ih
theorem ext_len (p : List Int → Bool) (word : List Int) (x : Nat) : ∀ u ∈ ext p word x, u.length = word.length + 1 := by
 intro u hu; unfold ext at hu; obtain ⟨a, _, rfl⟩ := List.mem_map.1 (List.mem_filter.1 hu).1; simp
theorem fw_len (m : Nat) (p : List Int → Bool) (n : Nat) : ∀ u ∈ fw m p n, u.length = n := by
 induction n with
 | zero => intro u hu; simp [fw] at hu; subst hu; rfl
 | succ n ih =>
  intro u hu; unfold fw fwStep at hu; obtain ⟨word, hw, hu⟩ := List.mem_flatMap.1 hu; rw [ext_len p word m u hu, ih word hw]
/-- The rows collected so far, all made since Wm. -/
def MidRel (Wm : World) (acc : List (List Int)) (v : Value) (wr : World) : Prop :=
 Kd.S (Kd.slice 3 (Kd.int .i64)) 22 wr Wm.heap.size (fun k => Wm.heap.size ≤ k) v acc ∧ Below Wm.heap.size Wm wr
set_option maxHeartbeats 4000000 in
set_option maxRecDepth 100000 in
theorem freeWords_calls (f : FuncId) (fn : Func) (cap : Array Value) (p : List Int → Bool) (m n : Nat) (w : World)
  (hf : Tryd.prog.funcs[f]? = some fn) (hname : (fn.name == "runtime.NumGoroutine") = false) (hbody : fn.body.isSome = true)
  (hm : m ≤ 1000) (hn : n ≤ 1000) (hroom : ∀ i, i ≤ n → m ^ i ≤ 1000000000000)
  (hp : ∀ (W : World) (A : Option Addr) (c : Nat) (xs : List Int), Below w.heap.size w W → Kd.C (Kd.int .i64) W A xs.length xs → xs.length ≤ c → xs.length ≤ n → Calls Tryd.prog f (#[.slice A xs.length c] ++ cap) W (fun e w' => e = .returned (.bool (p xs)) ∧ Below W.heap.size W w')) :
  Calls Tryd.prog 99 #[.int .i64 m, .int .i64 n, .func (.func f) #[] cap] w fun e w' => ∃ v0_ : Value, e = .returned v0_ ∧ Kd.S (Kd.slice 3 (Kd.int .i64)) 22 w' w.heap.size (fun _ => True) v0_ (fw m p n) ∧ Below w.heap.size w w' := by
 have HP := Aside0.mk hp; have HROOM := Aside0.mk hroom; have HF := Aside0.mk hf; clear hp hroom hf; go_enter Tryd.func99, Tryd.ntmps99; go_wp2_with ((with_reducible refine gate_dst (N := 13) rfl ?_); refine Aside0.out ?_); refine Aside0.mk ?_; refine Kd.R_lit (Kd.int .i64) _ 3 ?hg (N := 13) ?hd (xs := ([] : List Int)) (inner := []) (ok := fun _ => True) (okp := fun _ => True) ?hr ?hp (fun _ hk => hk) trivial (Below.refl _ _) (Nat.le_refl _) (by simp) ?_
 case hd => rfl
 case hg => rfl
 case hr => first | (go_simp; done) | (go_simp; rfl)
 case hp => exact (Reps.none _ _)
 intro v13 w1 ho1 hb1 _ _; obtain ⟨A13, c13, rfl⟩ := Kd.R_slice ho1; have HO1 := Aside0.mk ho1; have HB1 := Aside0.mk hb1; clear ho1 hb1; go_wp2_with ((with_reducible refine gate_dst (N := 14) rfl ?_); refine Aside0.out ?_); refine Aside0.mk ?_; refine Kd.S_lits (Kd.slice 3 (Kd.int .i64)) (w0 := w) w.heap.size 22 ?hg (N := 14) ?hd (xs := ([[]] : List (List Int))) (inner := [.slice A13 ([] : List Int).length c13]) (ok := fun _ => True) (fun j k => j = 0 ∧ some k = (Value.slice A13 ([] : List Int).length c13).ownBlock) ?hr rfl ?hrep (fun i j k h1 h2 => h1.1.trans h2.1.symm) (fun _ _ _ => trivial) trivial HB1.out HB1.out.size (by simp) ?_
 case hd => rfl
 case hg => rfl
 case hr => first | (go_simp; done) | (go_simp; rfl)
 case hrep =>
  intro j x hj; rcases j with _ | j
  ·simp at hj; subst hj; exact ⟨_, rfl, Kd.R_reok rfl HO1.out (fun k hk => ⟨rfl, hk.symm⟩)⟩
  ·simp at hj
 intro v14 w2 ho2 hb2 _ _; have HO2 := Aside0.mk ho2; have HB2 := Aside0.mk hb2; clear HO1 HB1 ho2 hb2; go_wp2_with fail; go_loopw [7, 16] (fun v i wr => ∃ k : Nat, k ≤ n ∧ i = .int .i64 k ∧ Aside0 (Kd.S (Kd.slice 3 (Kd.int .i64)) 22 wr w.heap.size (fun _ => True) v (fw m p k)) ∧ Aside0 (Below w.heap.size w wr)) (fun _ i _ => n - (intOf i).toNat)
 case atStart => exact ⟨0, Nat.zero_le _, rfl, HO2, HB2⟩
 case round =>
  clear HO2 HB2; obtain ⟨k, hk, rfl, HO, HB⟩ := hrel; generalize wr = wo at *; by_cases hlt : k < n
  ·have HWS := Aside0.mk (show (fwStep m p (fw m p k)) = fw m p (k + 1) from rfl); have hwl : (fw m p k).length ≤ 1000000000000 := Nat.le_trans (fw_le m p k) (HROOM.out k (by omega)); have HML := Aside0.mk (show m * (fw m p k).length ≤ 1000000000000 from Nat.le_trans (Nat.mul_le_mul_left m (fw_le m p k)) (by have := HROOM.out (k + 1) (by omega); rwa [Nat.pow_succ, Nat.mul_comm] at this)); have HLEN := Aside0.mk (fw_len m p k); generalize fw m p k = ws at *; obtain ⟨A7, c7, rfl⟩ := Kd.S_slice HO.out; go_wp2_with ((with_reducible refine gate_dst (N := 18) rfl ?_); refine Aside0.out ?_); refine Aside0.mk ?_; refine Kd.S_lit (Kd.slice 3 (Kd.int .i64)) (w0 := wo) wo.heap.size 22 ?hg (N := 18) ?hd (xs := ([] : List (List Int))) (inner := []) (ok := fun k => wo.heap.size ≤ k) (okp := fun _ => False) ?hr ?hp (fun _ hk => hk.elim) (Nat.le_refl _) (Below.refl _ _) (Nat.le_refl _) (by simp) ?_
   case hd => rfl
   case hg => rfl
   case hr => first | (go_simp; done) | (go_simp; rfl)
   case hp => exact (Reps.none _ _)
   intro v18 w3 ho3 hb3 _ _; have HM3 := Aside0.mk (show MidRel wo [] v18 w3 from ⟨ho3, hb3⟩); clear ho3 hb3; go_wp2_with fail; go_loopw [8, 21] (fun v j wm => ∃ q : Nat, q ≤ ws.length ∧ j = .int .i64 q ∧ Aside0 (MidRel wo (fwStep m p (ws.take q)) v wm)) (fun _ j _ => ws.length - (intOf j).toNat)
   case atStart => exact ⟨0, Nat.zero_le _, rfl, by simpa [fwStep] using HM3⟩
   case round =>
    clear HM3; obtain ⟨q, hq, rfl, HM⟩ := hrel; generalize wr = wm at *; by_cases hlq : q < ws.length
    ·obtain ⟨ad, A0, c0, hA, hx0, hl0, hC0⟩ := at_L3 (Kd.S_reads' HO.out).2.2 (q : Int) (by omega) (by omega); subst hA; have hx1 := pw_cell_below HM.out.2 hx0; rw [Int.toNat_natCast] at hx1; have hword : rd_L3 ws (q : Int) = ws[q] := by unfold rd_L3; rw [Int.toNat_natCast, List.getD_eq_getElem?_getD, List.getElem?_eq_getElem hlq]; rfl
     rw [hword] at hx1 hl0 hC0; have HT := Aside0.mk (fwStep_take m p ws q hlq); have HWL := Aside0.mk (HLEN.out ws[q] (List.getElem_mem hlq)); have HC0 := Aside0.mk hC0; have HL0 := Aside0.mk hl0; have hacc : (fwStep m p (ws.take q)).length ≤ m * q := by have := fwStep_le m p (ws.take q); rwa [List.length_take, Nat.min_eq_left (by omega)] at this
     have HACC := Aside0.mk hacc; clear hx0 hl0 hC0 hword hacc; generalize ws[q] = word at *; generalize hfa : fwStep m p (ws.take q) = acc at *; have HFA := Aside0.mk hfa; clear hfa; go_wp2_with fail; go_loopw [8, 26] (fun v x wi => ∃ a : Nat, a ≤ m ∧ x = .int .i64 a ∧ Aside0 (MidRel wo (acc ++ ext p word a) v wi)) (fun _ x _ => m - (intOf x).toNat)
     case atStart => exact ⟨0, Nat.zero_le _, rfl, by simpa [ext] using HM⟩
     case round =>
      clear HM; obtain ⟨a, ha, rfl, HM⟩ := hrel; generalize wr = wi at *; by_cases hla : a < m
      ·have HLE := Aside0.mk (ext_le p word a); have HQ := Aside0.mk (show m * q + m ≤ m * ws.length from by have := Nat.mul_le_mul_left m (show q + 1 ≤ ws.length from hlq); rwa [Nat.mul_add, Nat.mul_one] at this); obtain ⟨b, hb_⟩ : ∃ b, p (word ++ [(a : Int)]) = b := ⟨_, rfl⟩; have HPX := Aside0.mk hb_; clear hb_; go_wp2_with ((with_reducible refine gate_dst (N := 29) rfl ?_); refine Aside0.out ?_); refine Aside0.mk ?_; refine Kd.R_lit (Kd.int .i64) _ 3 ?hg (N := 29) ?hd (xs := ([] : List Int)) (inner := []) (ok := fun _ => True) (okp := fun _ => True) ?hr ?hp (fun _ hk => hk) trivial (Below.refl _ _) (Nat.le_refl _) (by simp) ?_
       case hd => rfl
       case hg => rfl
       case hr => first | (go_simp; done) | (go_simp; rfl)
       case hp => exact (Reps.none _ _)
       intro v29 w4 ho4 hb4 _ _; have HO4 := Aside0.mk ho4; have HB4 := Aside0.mk hb4; clear ho4 hb4; go_wp2_with ((with_reducible refine gate_builtin (b := .append) (xs := #[.tmp 29, .tmp 30]) rfl ?_); refine Aside0.out ?_); refine Aside0.mk ?_
       at_builtin
       refine Kd.R_append_rows (Kd.int .i64) (Rr := (Kd.int .i64).K w4) (w0 := wi) wi.heap.size rfl (.tmp 29) (.tmp 30) 22 3 (.int .i64 0) 8 rfl Tryd.underlying22 info3 rfl (by decide) (by omega) v29 [] word A0 _ c0 (fun _ => True) (fun _ => False) rfl rfl HO4.out ?aR (fun _ _ h => h) (fun _ hk => hk.elim) (fun _ _ => trivial) HB4.out HB4.out.size ?aL ?_
       case aR => exact Kd.C_below HC0.out (below_step HM.out.2 HB4.out)
       case aL => have := HWL.out; simp only [List.length_nil]; omega
       intro v31 w5 ho5 hb5 _ _; rw [List.nil_append] at ho5; have HO5 := Aside0.mk ho5; have HB5 := Aside0.mk hb5; clear ho5 hb5 HO4 HB4; go_wp2_with ((with_reducible refine gate_builtin (b := .append) (xs := #[.tmp 31, .tmp 33]) rfl ?_); refine Aside0.out ?_); refine Aside0.mk ?_
       at_builtin
       refine Kd.R_append (Kd.int .i64) (w0 := wi) wi.heap.size rfl (.tmp 31) (.tmp 33) 22 3 (.int .i64 0) 8 rfl Tryd.underlying22 info3 rfl (by decide) (by omega) v31 word (a : Int) [.int .i64 a] (fun _ => True) (fun _ => False) rfl rfl rfl (fun _ hk => hk.elim) (fun _ _ => trivial) HO5.out HB5.out HB5.out.size ?aL ?_
       case aL => have := HWL.out; omega
       intro v34 w6 ho6 hb6 _ _; generalize hnw : word ++ [(a : Int)] = nw at *; have HNW := Aside0.mk hnw; clear hnw; obtain ⟨A34, c34, rfl⟩ := Kd.R_slice ho6; have HO6 := Aside0.mk ho6; have HB6 := Aside0.mk hb6; clear ho6 hb6 HO5 HB5; have HCALL := Aside0.mk (HP.out w6 A34 c34 nw (below_step (below_step HB.out HM.out.2) HB6.out) (Kd.R_reads' HO6.out).2.2 (Kd.R_reads' HO6.out).2.1 (by have := HWL.out; rw [← HNW.out, List.length_append, this]; simp; omega)); rw [HPX.out] at HCALL; go_wp2_with ((with_reducible refine gate_calleeV (t := 35) rfl ?_); refine Aside0.out ?_); refine Aside0.mk ?_; refine goesV_ (some 37) rfl rfl (t := 35) (f := f) (cap := cap) HF.out hname hbody (#[.slice A34 (nw).length c34] ++ cap) rfl rfl (congrArg (· ++ cap) (by (try simp only [List.map_toArray, List.map_cons, List.map_nil]); first | done | rfl)) ?_; refine HCALL.out.mono ?_; rintro e w7 ⟨rfl, hb7⟩; refine ⟨_, rfl, ?_⟩; have HB7 := Aside0.mk (below_step HB6.out hb7); have HO7 := Aside0.mk (Kd.R_lower (Kd.R_below HO6.out hb7) HM.out.2.size); have HBS := Aside0.mk (fun k (hk : (Value.slice A34 (nw).length c34).ownBlock = some k) => Kd.R_base HO6.out k hk); have HS7 := Aside0.mk (Kd.S_below (Kd.S_mono (ok' := fun k => wo.heap.size ≤ k ∧ k < wi.heap.size) (Kd.S_bound HM.out.1) (fun k hk => ⟨hk.1, hk.2.2.1⟩)) HB7.out); clear HCALL HO6 HB6 hb7; cases b with
       | false =>
        go_wp2_with fail; go_roundw
        case rel => exact ⟨a + 1, by omega, by go_num, ⟨by rw [ext_succ, HNW.out, HPX.out]; simpa using Kd.S_mono HS7.out (fun k hk => hk.1), below_step HM.out.2 HB7.out⟩⟩
        case measure => simp [intOf]; omega
       | true =>
        go_wp2_with ((with_reducible refine gate_builtin (b := .append) (xs := #[.tmp 38, .tmp 40]) rfl ?_); refine Aside0.out ?_); refine Aside0.mk ?_
        at_builtin
        refine Kd.S_append (Kd.slice 3 (Kd.int .i64)) (w0 := wo) wo.heap.size rfl (.tmp 38) (.tmp 40) 27 22 (.slice none 0 0) 24 rfl Tryd.underlying27 info22 rfl (by decide) (by omega) _ (acc ++ ext p word a) (nw) [.slice A34 (nw).length c34] (fun k => wo.heap.size ≤ k) (fun k => some k = (Value.slice A34 (nw).length c34).ownBlock) rfl rfl ?aP ?aK ?aF ?aO ?aB ?aS ?aL ?_
        case aP => exact ⟨_, rfl, Kd.R_reok rfl HO7.out (fun k hk => hk.symm)⟩
        case aK => exact fun k hk => ⟨Nat.le_trans HM.out.2.size (HBS.out k hk.symm), fun he => by have h1 := Kd.S_lt HM.out.1 k he.symm; have h2 := HBS.out k hk.symm; omega⟩
        case aF => exact fun k hk => Nat.le_trans (Nat.le_trans HM.out.2.size HB7.out.size) hk
        case aO => exact Kd.S_mono HS7.out (fun k hk => ⟨hk.1, fun he => by have h2 := HBS.out k he.symm; omega⟩)
        case aB => exact below_step HM.out.2 HB7.out
        case aS => exact Nat.le_trans HM.out.2.size HB7.out.size
        case aL => have h1 := HLE.out; have h2 := HACC.out; have h3 := HQ.out; have h4 := HML.out; rw [List.length_append]; omega
        intro v41 w8 ho8 hb8 _ _; have HO8 := Aside0.mk ho8; have HB8 := Aside0.mk hb8; clear ho8 hb8; go_wp2_with fail; go_roundw
        case rel => exact ⟨a + 1, by omega, by go_num, ⟨by rw [ext_succ, HNW.out, HPX.out, _root_.if_pos rfl, ← List.append_assoc]; exact HO8.out, HB8.out⟩⟩
        case measure => simp [intOf]; omega
      ·have e : a = m := by omega
       subst e; go_wp2_with fail; go_roundw
       case rel => exact ⟨q + 1, by omega, by go_num, by rw [HT.out]; exact HM⟩
       case measure => simp [intOf]; omega
    ·have e : q = ws.length := by omega
     subst e; rw [List.take_length] at HM; go_wp2_with fail; go_roundw
     case rel => exact ⟨k + 1, by omega, by go_num, ⟨by have h := Kd.S_lower (Kd.S_mono (ok' := fun _ => True) HM.out.1 (fun _ _ => trivial)) HB.out.size; rwa [HWS.out] at h⟩, ⟨below_step HB.out HM.out.2⟩⟩
     case measure => simp [intOf]; omega
  ·have e : k = n := by omega
   subst e; go_wp2; go_ret; exact ⟨_, rfl, HO.out, HB.out⟩
end Go.Proofs.YtdekenijnbhpfaaDoor.M
namespace Go.Proofs.YtdekenijnbhpfaaDoor.M
open Go.RowKit Go.Proofs.YtdekenijnbhpfaaDoor.KW Go.Proofs.YtdekenijnbhpfaaDoorW.PrintWords Go.Proofs.YtdekenijnbhpfaaDoorW.PrintLast Go.Proofs.YtdekenijnbhpfaaDoorW.PrintMore
attribute [local go_sem] max2_int min2_int max_two min_two max_three min_three max_four min_four
set_option linter.unusedVariables false
set_option linter.unusedSimpArgs false
mutual
def impl_patternLetters.l0 : Nat → List Int → Int → List Int → Int → Int → Option (Int)
 | 0, _, _, _, _, _ => none
 | k + 1, x0, x3, x6, x7, x8 => if x8 < x7 then (if 0 ≤ x8 then (if x8 < (x6.length : Int) then (if (rd x6 x8) < 0 then (impl_patternLetters.j1 k x0 x3 (rd x6 x8) x6 x7 x8 true) else (impl_patternLetters.j1 k x0 x3 (rd x6 x8) x6 x7 x8 (decide ((rd x6 x8) > x3)))) else (none)) else (none)) else (if (x0.length : Int) > 6 then (some 0) else (if x3 > 3 then (some 0) else (some x3)))
def impl_patternLetters.j1 : Nat → List Int → Int → Int → List Int → Int → Int → Bool → Option (Int)
 | 0, _, _, _, _, _, _, _ => none
 | k + 1, x0, x3, x5, x6, x7, x8, x18 => if x18 = true then (some 0) else (if x5 = x3 then (impl_patternLetters.l0 k x0 (wrap64 (x3 + 1)) x6 x7 (wrap64 (x8 + 1))) else (impl_patternLetters.l0 k x0 x3 x6 x7 (wrap64 (x8 + 1))))
end
def impl_patternLetters.f (k : Nat) (l0 : List Int) : Option (Int) := impl_patternLetters.l0 k l0 0 l0 (l0.length : Int) 0
set_option maxHeartbeats 8000000 in
set_option maxRecDepth 100000 in
theorem impl_patternLetters.calls (k : Nat) (A0 : Option Addr) (c0 : Nat) (l0 : List Int) (r : Int) (w : World) (hr0 : Kd.C (Kd.int .i64) w A0 l0.length l0) (hc0 : l0.length ≤ c0) (h : impl_patternLetters.f k l0 = some r) :
  Calls Tryd.prog 94 #[.slice A0 l0.length c0] w fun e w' => e = .returned (.int .i64 r) ∧ Drawn0 w w' := by
 have HR0 := Aside0.mk hr0; have HC0 := Aside0.mk hc0; clear hr0 hc0; have H : (impl_patternLetters.l0 k l0 0 l0 (l0.length : Int) 0) = some r := h; clear h; have H' := Aside0.mk H; clear H; go_enter Tryd.func94, Tryd.ntmps94; go_wp2; go_loopg [3, 8] k (fun kq v3 v8 w' => ∃ (x3_1 : Int) (x8_1 : Int), v3 = .int .i64 x3_1 ∧ v8 = .int .i64 x8_1 ∧ Aside0 (impl_patternLetters.l0 kq l0 x3_1 l0 (l0.length : Int) x8_1 = some r) ∧ Aside0 (kq ≤ k) ∧ Drawn0 w w')
 case atStart => exact ⟨(0), (0), (by first | rfl | (simp; done) | (simp [*]; done)), (by first | rfl | (simp; done) | (simp [*]; done)), H', ⟨Nat.le_refl _⟩, by repeat (first | exact Drawn0.refl _ | apply Drawn0.step)⟩
 case round =>
  clear H'; obtain ⟨x3_1, x8_1, rfl, rfl, HA, HK1, ⟨m1, rfl⟩⟩ := hrel; cases gk with
  | zero => exact absurd HA.out (by simp [impl_patternLetters.l0])
  | succ k1 =>
   have H := HA.out; clear HA; simp only [impl_patternLetters.l0] at H; by_cases c2 : x8_1 < (l0.length : Int)
   ·rw [if_pos c2] at H; have c2b0 : decide (x8_1 < (l0.length : Int)) = true := decide_eq_true c2; clear c2; by_cases c3 : 0 ≤ x8_1
    ·rw [if_pos c3] at H; have c3b0 : decide (0 ≤ x8_1) = true := decide_eq_true c3; clear c3; by_cases c4 : x8_1 < (l0.length : Int)
     ·rw [if_pos c4] at H; have c4b0 : decide (x8_1 < (l0.length : Int)) = true := decide_eq_true c4; clear c4; have HC5 := Aside0.mk H; clear H; have p235 : 0 ≤ (x8_1 : Int) := of_decide_eq_true (by first | (with_reducible assumption) | assumption); have q235 : x8_1 < (l0.length : Int) := of_decide_eq_true (by first | (with_reducible assumption) | assumption); obtain ⟨ad235, e235, hx235_0⟩ := Kd.at_int HR0.out x8_1 p235 q235; cases e235; replace p235 := eq_true p235; replace q235 := eq_true q235; go_upto_region 5 with (fail); go_cut [18] (fun v18 wc => ∃ (kq : Nat) (x18_4 : Bool), v18 = .bool x18_4 ∧ Aside0 (impl_patternLetters.j1 kq l0 x3_1 (rd l0 x8_1) l0 (l0.length : Int) x8_1 x18_4 = some r) ∧ Aside0 (kq ≤ k1) ∧ Drawn0 w wc)
      case first =>
       have H := HC5.out; clear HC5; by_cases c6 : (rd l0 x8_1) < 0
       ·rw [if_pos c6] at H; have c6b0 : decide ((rd l0 x8_1) < 0) = true := decide_eq_true c6; clear c6
        (first | rw [c6b0] | (simp only [i64_w, i32_w]; rw [c6b0]) | skip)
        have H' := Aside0.mk H; clear H; go_wp2; go_meet
        case rel => exact ⟨_, (true), (by first | rfl | (simp; done) | (simp [*]; done)), H', ⟨by have := HK1.out; first | omega | exact Nat.le_refl _⟩, by repeat (first | exact Drawn0.refl _ | apply Drawn0.step)⟩
       ·rw [if_neg c6] at H; have c6b0 : decide ((rd l0 x8_1) < 0) = false := decide_eq_false c6; clear c6
        (first | rw [c6b0] | (simp only [i64_w, i32_w]; rw [c6b0]) | skip)
        have H' := Aside0.mk H; clear H; go_wp2; go_meet
        case rel => exact ⟨_, (decide ((rd l0 x8_1) > x3_1)), (by first | rfl | (simp; done) | (simp [*]; done)), H', ⟨by have := HK1.out; first | omega | exact Nat.le_refl _⟩, by repeat (first | exact Drawn0.refl _ | apply Drawn0.step)⟩
      case rest =>
       clear HC5
       try clear c2
       try clear c2b0
       try clear p2
       try clear q2
       try clear hx2
       try clear c3
       try clear c3b0
       try clear c4
       try clear c4b0
       try clear c6
       try clear c6b0
       try clear hx235_0
       try clear p235
       try clear q235
       obtain ⟨kq, x18_4, rfl, HA, HJ4, ⟨mc4, rfl⟩⟩ := hcut; cases kq with
       | zero => exact absurd HA.out (by simp [impl_patternLetters.j1])
       | succ kj4 =>
        have H := HA.out; clear HA; simp only [impl_patternLetters.j1] at H; by_cases c7 : x18_4 = true
        ·subst c7; have H1 : (some 0) = some r := by rw [if_pos rfl] at H; exact H
         clear H; have H := H1; clear H1; obtain rfl := Option.some.inj H; go_wp2; go_ret; exact ⟨by first | rfl | (simp; done) | (simp [*]; done), by repeat (first | exact Drawn0.refl _ | apply Drawn0.step)⟩
        ·replace c7 := Bool.eq_false_iff.mpr c7; subst c7; have H1 : (if (rd l0 x8_1) = x3_1 then (impl_patternLetters.l0 kj4 l0 (wrap64 (x3_1 + 1)) l0 (l0.length : Int) (wrap64 (x8_1 + 1))) else (impl_patternLetters.l0 kj4 l0 x3_1 l0 (l0.length : Int) (wrap64 (x8_1 + 1)))) = some r := by rw [if_neg (show ¬ (false = true) by decide)] at H; exact H
         clear H; have H := H1; clear H1; by_cases c8 : (rd l0 x8_1) = x3_1
         ·rw [if_pos c8] at H; have c8b0 : ((rd l0 x8_1) == x3_1) = true := beq_iff_eq.mpr c8; have c8b1 : ((rd l0 x8_1) != x3_1) = false := bne_eq_false_iff_eq.mpr c8; clear c8; have H' := Aside0.mk H; clear H; go_wp2; go_roundg kj4
          case measure => have := HK1.out; have := HJ4.out; omega
          case rel => exact ⟨(wrap64 (x3_1 + 1)), (wrap64 (x8_1 + 1)), (by first | rfl | (simp; done) | (simp [*]; done)), (by first | rfl | (simp; done) | (simp [*]; done)), H', ⟨by have := HK1.out; have := HJ4.out; omega⟩, by repeat (first | exact Drawn0.refl _ | apply Drawn0.step)⟩
         ·rw [if_neg c8] at H; have c8b0 : ((rd l0 x8_1) == x3_1) = false := beq_eq_false_iff_ne.mpr c8; have c8b1 : ((rd l0 x8_1) != x3_1) = true := bne_iff_ne.mpr c8; have H' := Aside0.mk H; clear H; go_wp2; go_roundg kj4
          case measure => have := HK1.out; have := HJ4.out; omega
          case rel => exact ⟨(x3_1), (wrap64 (x8_1 + 1)), (by first | rfl | (simp; done) | (simp [*]; done)), (by first | rfl | (simp; done) | (simp [*]; done)), H', ⟨by have := HK1.out; have := HJ4.out; omega⟩, by repeat (first | exact Drawn0.refl _ | apply Drawn0.step)⟩
     ·rw [if_neg c4] at H; exact absurd H (by simp)
    ·rw [if_neg c3] at H; exact absurd H (by simp)
   ·rw [if_neg c2] at H; have c2b0 : decide (x8_1 < (l0.length : Int)) = false := decide_eq_false c2; clear c2; by_cases c9 : (l0.length : Int) > 6
    ·rw [if_pos c9] at H; have c9b0 : decide (6 < (l0.length : Int)) = true := decide_eq_true c9; have c9b1 : decide (6 < l0.length) = true := decide_eq_true (by omega); clear c9; obtain rfl := Option.some.inj H; go_wp2; go_ret; exact ⟨by first | rfl | (simp; done) | (simp [*]; done), by repeat (first | exact Drawn0.refl _ | apply Drawn0.step)⟩
    ·rw [if_neg c9] at H; have c9b0 : decide (6 < (l0.length : Int)) = false := decide_eq_false c9; have c9b1 : decide (6 < l0.length) = false := decide_eq_false (by omega); clear c9; by_cases c10 : x3_1 > 3
     ·rw [if_pos c10] at H; have c10b0 : decide (3 < x3_1) = true := decide_eq_true c10; clear c10; obtain rfl := Option.some.inj H; go_wp2; go_ret; exact ⟨by first | rfl | (simp; done) | (simp [*]; done), by repeat (first | exact Drawn0.refl _ | apply Drawn0.step)⟩
     ·rw [if_neg c10] at H; have c10b0 : decide (3 < x3_1) = false := decide_eq_false c10; clear c10; obtain rfl := Option.some.inj H; go_wp2; go_ret; exact ⟨by first | rfl | (simp; done) | (simp [*]; done), by repeat (first | exact Drawn0.refl _ | apply Drawn0.step)⟩
def impl_IsPattern.f (k : Nat) (l0 : List Int) : Option (Bool) := (impl_patternLetters.f k l0).bind fun t236 => (some (decide (t236 > 0)))
set_option maxHeartbeats 8000000 in
set_option maxRecDepth 100000 in
theorem impl_IsPattern.calls (k : Nat) (A0 : Option Addr) (c0 : Nat) (l0 : List Int) (r : Bool) (w : World) (hr0 : Kd.C (Kd.int .i64) w A0 l0.length l0) (hc0 : l0.length ≤ c0) (h : impl_IsPattern.f k l0 = some r) :
  Calls Tryd.prog 128 #[.slice A0 l0.length c0] w fun e w' => e = .returned (.bool r) ∧ Drawn0 w w' := by
 have HR0 := Aside0.mk hr0; have HC0 := Aside0.mk hc0; clear hr0 hc0; have H : ((impl_patternLetters.f k l0).bind fun t236 => (some (decide (t236 > 0)))) = some r := h; clear h; replace H := Option.bind_eq_some_iff.mp H; obtain ⟨t236, A20, H⟩ := H; replace H : (some (decide (t236 > 0))) = some r := H; have A2 := Aside0.mk A20; clear A20; obtain rfl := Option.some.inj H; go_enter Tryd.func128, Tryd.ntmps128; go_wp2_with (first | ((with_reducible refine gate_callee (f := 94) rfl ?_); refine goesL_ (some 4) rfl rfl Tryd.func94 (by kernel_rfl) rfl #[.slice A0 l0.length c0] rfl (by (try simp only [List.map_toArray, List.map_cons, List.map_nil]); first | done | rfl | (simp only [List.length_drop, List.length_take]; rfl)) ?_; (with_reducible refine (impl_patternLetters.calls k _ _ l0 t236 _ ?side1 ?side2 A2.out).mono ?_); (case side1 => repeat (first | exact HR0.out | (with_reducible refine Kd.C_alloc ?_ _) | (with_reducible refine Kd.C_drewN ?_ _) | (with_reducible refine Kd.C_drew ?_))); (case side2 => exact HC0.out); rintro e w' ⟨rfl, ⟨nd, rfl⟩⟩; refine ⟨_, rfl, ?_⟩)); go_ret; exact ⟨by first | rfl | (simp; done) | (simp [*]; done), by repeat (first | exact Drawn0.refl _ | apply Drawn0.step)⟩
mutual
def impl_areLengths.j0 : Nat → List Int → Bool → Option (Bool)
 | 0, _, _ => none
 | k + 1, x1, x16 => if x16 = true then (some false) else (impl_areLengths.l0 k x1 (x1.length : Int) 0)
def impl_areLengths.l0 : Nat → List Int → Int → Int → Option (Bool)
 | 0, _, _, _ => none
 | k + 1, x17, x18, x19 => if x19 < x18 then (if 0 ≤ x19 then (if x19 < (x17.length : Int) then (if (rd x17 x19) < 1 then (some false) else (if (rd x17 x19) > 40 then (some false) else (impl_areLengths.l0 k x17 x18 (wrap64 (x19 + 1))))) else (none)) else (none)) else (some true)
end
def impl_areLengths.f (k : Nat) (l0 : List Int) (l1 : List Int) : Option (Bool) := (impl_IsPattern.f k l0).bind fun t238 => (if t238 = true then ((impl_patternLetters.f k l0).bind fun t239 => (impl_areLengths.j0 k l1 ((l1.length : Int) != t239))) else (impl_areLengths.j0 k l1 true))
set_option maxHeartbeats 8000000 in
set_option maxRecDepth 100000 in
theorem impl_areLengths.calls (k : Nat) (A0 : Option Addr) (c0 : Nat) (l0 : List Int) (A1 : Option Addr) (c1 : Nat) (l1 : List Int) (r : Bool) (w : World) (hr0 : Kd.C (Kd.int .i64) w A0 l0.length l0) (hc0 : l0.length ≤ c0) (hr1 : Kd.C (Kd.int .i64) w A1 l1.length l1) (hc1 : l1.length ≤ c1) (h : impl_areLengths.f k l0 l1 = some r) :
  Calls Tryd.prog 184 #[.slice A0 l0.length c0, .slice A1 l1.length c1] w fun e w' => e = .returned (.bool r) ∧ Drawn0 w w' := by
 have HR0 := Aside0.mk hr0; have HC0 := Aside0.mk hc0; clear hr0 hc0; have HR1 := Aside0.mk hr1; have HC1 := Aside0.mk hc1; clear hr1 hc1; have H : ((impl_IsPattern.f k l0).bind fun t238 => (if t238 = true then ((impl_patternLetters.f k l0).bind fun t239 => (impl_areLengths.j0 k l1 ((l1.length : Int) != t239))) else (impl_areLengths.j0 k l1 true))) = some r := h; clear h; have HC3 := Aside0.mk H; clear H; go_enter Tryd.func184, Tryd.ntmps184; go_upto_region 1 with (fail); go_cut [16] (fun v16 wc => ∃ (kq : Nat) (x16_2 : Bool), v16 = .bool x16_2 ∧ Aside0 (impl_areLengths.j0 kq l1 x16_2 = some r) ∧ Aside0 (kq ≤ k) ∧ Drawn0 w wc)
 case first =>
  have H := HC3.out; clear HC3; replace H := Option.bind_eq_some_iff.mp H; obtain ⟨t238, A40, H⟩ := H; replace H : (if t238 = true then ((impl_patternLetters.f k l0).bind fun t239 => (impl_areLengths.j0 k l1 ((l1.length : Int) != t239))) else (impl_areLengths.j0 k l1 true)) = some r := H; have A4 := Aside0.mk A40; clear A40; by_cases c5 : t238 = true
  ·subst c5; have H1 : ((impl_patternLetters.f k l0).bind fun t239 => (impl_areLengths.j0 k l1 ((l1.length : Int) != t239))) = some r := by rw [if_pos rfl] at H; exact H
   clear H; have H := H1; clear H1; replace H := Option.bind_eq_some_iff.mp H; obtain ⟨t239, A60, H⟩ := H; replace H : (impl_areLengths.j0 k l1 ((l1.length : Int) != t239)) = some r := H; have A6 := Aside0.mk A60; clear A60; have H' := Aside0.mk H; clear H; go_wp2_with (first | ((with_reducible refine gate_callee (f := 128) rfl ?_); refine goesL_ (some 8) rfl rfl Tryd.func128 (by kernel_rfl) rfl #[.slice A0 l0.length c0] rfl (by (try simp only [List.map_toArray, List.map_cons, List.map_nil]); first | done | rfl | (simp only [List.length_drop, List.length_take]; rfl)) ?_; (with_reducible refine (impl_IsPattern.calls k _ _ l0 true _ ?side1 ?side2 A4.out).mono ?_); (case side1 => repeat (first | exact HR0.out | (with_reducible refine Kd.C_alloc ?_ _) | (with_reducible refine Kd.C_drewN ?_ _) | (with_reducible refine Kd.C_drew ?_))); (case side2 => exact HC0.out); rintro e w' ⟨rfl, ⟨nd, rfl⟩⟩; refine ⟨_, rfl, ?_⟩) | (go_at_call 94; (with_reducible refine (impl_patternLetters.calls k _ _ l0 t239 _ ?side1 ?side2 A6.out).mono ?_); (case side1 => repeat (first | exact HR0.out | (with_reducible refine Kd.C_alloc ?_ _) | (with_reducible refine Kd.C_drewN ?_ _) | (with_reducible refine Kd.C_drew ?_))); (case side2 => exact HC0.out); rintro e w' ⟨rfl, ⟨nd, rfl⟩⟩)); go_meet
   case rel => exact ⟨_, (((l1.length : Int) != t239)), (by first | rfl | (simp; done) | (simp [*]; done)), H', ⟨by first | omega | exact Nat.le_refl _⟩, by repeat (first | exact Drawn0.refl _ | apply Drawn0.step)⟩
  ·replace c5 := Bool.eq_false_iff.mpr c5; subst c5; have H1 : (impl_areLengths.j0 k l1 true) = some r := by rw [if_neg (show ¬ (false = true) by decide)] at H; exact H
   clear H; have H := H1; clear H1; have H' := Aside0.mk H; clear H; go_wp2_with (first | ((with_reducible refine gate_callee (f := 128) rfl ?_); refine goesL_ (some 8) rfl rfl Tryd.func128 (by kernel_rfl) rfl #[.slice A0 l0.length c0] rfl (by (try simp only [List.map_toArray, List.map_cons, List.map_nil]); first | done | rfl | (simp only [List.length_drop, List.length_take]; rfl)) ?_; (with_reducible refine (impl_IsPattern.calls k _ _ l0 false _ ?side1 ?side2 A4.out).mono ?_); (case side1 => repeat (first | exact HR0.out | (with_reducible refine Kd.C_alloc ?_ _) | (with_reducible refine Kd.C_drewN ?_ _) | (with_reducible refine Kd.C_drew ?_))); (case side2 => exact HC0.out); rintro e w' ⟨rfl, ⟨nd, rfl⟩⟩; refine ⟨_, rfl, ?_⟩)); go_meet
   case rel => exact ⟨_, (true), (by first | rfl | (simp; done) | (simp [*]; done)), H', ⟨by first | omega | exact Nat.le_refl _⟩, by repeat (first | exact Drawn0.refl _ | apply Drawn0.step)⟩
 case rest =>
  clear HC3
  try clear c1
  try clear p2
  try clear c5
  obtain ⟨kq, x16_2, rfl, HA, HJ2, ⟨mc2, rfl⟩⟩ := hcut; cases kq with
  | zero => exact absurd HA.out (by simp [impl_areLengths.j0])
  | succ kj2 =>
   have H := HA.out; clear HA; simp only [impl_areLengths.j0] at H; by_cases c7 : x16_2 = true
   ·subst c7; have H1 : (some false) = some r := by rw [if_pos rfl] at H; exact H
    clear H; have H := H1; clear H1; obtain rfl := Option.some.inj H; go_wp2; go_ret; exact ⟨by first | rfl | (simp; done) | (simp [*]; done), by repeat (first | exact Drawn0.refl _ | apply Drawn0.step)⟩
   ·replace c7 := Bool.eq_false_iff.mpr c7; subst c7; have H1 : (impl_areLengths.l0 kj2 l1 (l1.length : Int) 0) = some r := by rw [if_neg (show ¬ (false = true) by decide)] at H; exact H
    clear H; have H := H1; clear H1; have H' := Aside0.mk H; clear H; go_wp2; go_loopg [19] kj2 (fun kq v19 w' => ∃ (x19_2 : Int), v19 = .int .i64 x19_2 ∧ Aside0 (impl_areLengths.l0 kq l1 (l1.length : Int) x19_2 = some r) ∧ Aside0 (kq ≤ kj2) ∧ Drawn0 w w')
    case atStart => exact ⟨(0), (by first | rfl | (simp; done) | (simp [*]; done)), H', ⟨Nat.le_refl _⟩, by repeat (first | exact Drawn0.refl _ | apply Drawn0.step)⟩
    case round =>
     clear H'
     try clear c1
     try clear c2
     try clear p2
     try clear c5
     try clear c7
     try clear p2
     obtain ⟨x19_2, rfl, HA, HK2, ⟨m2, rfl⟩⟩ := hrel; cases gk with
     | zero => exact absurd HA.out (by simp [impl_areLengths.l0])
     | succ k2 =>
      have H := HA.out; clear HA; simp only [impl_areLengths.l0] at H; by_cases c8 : x19_2 < (l1.length : Int)
      ·rw [if_pos c8] at H; have c8b0 : decide (x19_2 < (l1.length : Int)) = true := decide_eq_true c8; clear c8; by_cases c9 : 0 ≤ x19_2
       ·rw [if_pos c9] at H; have c9b0 : decide (0 ≤ x19_2) = true := decide_eq_true c9; clear c9; by_cases c10 : x19_2 < (l1.length : Int)
        ·rw [if_pos c10] at H; have c10b0 : decide (x19_2 < (l1.length : Int)) = true := decide_eq_true c10; clear c10; by_cases c11 : (rd l1 x19_2) < 1
         ·rw [if_pos c11] at H; have c11b0 : decide ((rd l1 x19_2) < 1) = true := decide_eq_true c11; clear c11; obtain rfl := Option.some.inj H; have p240 : 0 ≤ (x19_2 : Int) := of_decide_eq_true (by first | (with_reducible assumption) | assumption); have q240 : x19_2 < (l1.length : Int) := of_decide_eq_true (by first | (with_reducible assumption) | assumption); obtain ⟨ad240, e240, hx240_0⟩ := Kd.at_int HR1.out x19_2 p240 q240; cases e240; replace p240 := eq_true p240; replace q240 := eq_true q240; go_wp2; go_ret; exact ⟨by first | rfl | (simp; done) | (simp [*]; done), by repeat (first | exact Drawn0.refl _ | apply Drawn0.step)⟩
         ·rw [if_neg c11] at H; have c11b0 : decide ((rd l1 x19_2) < 1) = false := decide_eq_false c11; clear c11; by_cases c12 : (rd l1 x19_2) > 40
          ·rw [if_pos c12] at H; have c12b0 : decide (40 < (rd l1 x19_2)) = true := decide_eq_true c12; clear c12; obtain rfl := Option.some.inj H; have p240 : 0 ≤ (x19_2 : Int) := of_decide_eq_true (by first | (with_reducible assumption) | assumption); have q240 : x19_2 < (l1.length : Int) := of_decide_eq_true (by first | (with_reducible assumption) | assumption); obtain ⟨ad240, e240, hx240_0⟩ := Kd.at_int HR1.out x19_2 p240 q240; cases e240; replace p240 := eq_true p240; replace q240 := eq_true q240; go_wp2; go_ret; exact ⟨by first | rfl | (simp; done) | (simp [*]; done), by repeat (first | exact Drawn0.refl _ | apply Drawn0.step)⟩
          ·rw [if_neg c12] at H; have c12b0 : decide (40 < (rd l1 x19_2)) = false := decide_eq_false c12; clear c12; have H' := Aside0.mk H; clear H; have p240 : 0 ≤ (x19_2 : Int) := of_decide_eq_true (by first | (with_reducible assumption) | assumption); have q240 : x19_2 < (l1.length : Int) := of_decide_eq_true (by first | (with_reducible assumption) | assumption); obtain ⟨ad240, e240, hx240_0⟩ := Kd.at_int HR1.out x19_2 p240 q240; cases e240; replace p240 := eq_true p240; replace q240 := eq_true q240; go_wp2; go_roundg k2
           case measure => have := HJ2.out; have := HK2.out; omega
           case rel => exact ⟨(wrap64 (x19_2 + 1)), (by first | rfl | (simp; done) | (simp [*]; done)), H', ⟨by have := HJ2.out; have := HK2.out; omega⟩, by repeat (first | exact Drawn0.refl _ | apply Drawn0.step)⟩
        ·rw [if_neg c10] at H; exact absurd H (by simp)
       ·rw [if_neg c9] at H; exact absurd H (by simp)
      ·rw [if_neg c8] at H; have c8b0 : decide (x19_2 < (l1.length : Int)) = false := decide_eq_false c8; clear c8; obtain rfl := Option.some.inj H; go_wp2; go_ret; exact ⟨by first | rfl | (simp; done) | (simp [*]; done), by repeat (first | exact Drawn0.refl _ | apply Drawn0.step)⟩
end Go.Proofs.YtdekenijnbhpfaaDoor.M
/- Patterns and matches as values: program and reference tell the same. No condition but lengths that fit. -/
namespace Go.Proofs.YtdekenijnbhpfaaDoor.M
open Go.RowKit Go.Proofs.YtdekenijnbhpfaaDoorW.PrintWords Go.Proofs.YtdekenijnbhpfaaDoor.K
set_option linter.unusedVariables false
theorem in_val (x a b : Int) : spec_l1In.f x a b = some (decide (a ≤ x ∧ x ≤ b)) := by
 unfold spec_l1In.f; by_cases h : x ≥ a
 ·rw [_root_.if_pos h]; by_cases k : x ≤ b
  ·rw [decide_eq_true k, decide_eq_true ⟨h, k⟩]
  ·rw [decide_eq_false k, decide_eq_false (fun q => k q.2)]
 ·rw [_root_.if_neg h, decide_eq_false (fun q => h q.1)]
/-- The letters of a pattern, counted as they come; none: it is no pattern. -/
def ngo : List Int → Nat → Option Nat
 | [], m => some m
 | x :: p, m => if x < 0 ∨ (m : Int) < x then none else ngo p (if x = (m : Int) then m + 1 else m)
def isPat (p : List Int) : Bool := match ngo p 0 with
 | none => false
 | some m => decide (p.length ≤ 6 ∧ m ≤ 3 ∧ 1 ≤ m)
def nl (p : List Int) : Nat := (ngo p 0).getD 0
theorem ngo_le (p : List Int) : ∀ m m', ngo p m = some m' → m ≤ m' ∧ m' ≤ m + p.length := by
 induction p with
 | nil => intro m m' h; simp only [ngo] at h; obtain rfl := Option.some.inj h; simp
 | cons x p ih =>
  intro m m' h; simp only [ngo] at h; split at h
  ·cases h
  ·have := ih _ _ h; simp only [List.length_cons]; split at this <;> omega
theorem ngo_pos (p : List Int) (m' : Nat) (h : ngo p 0 = some m') : 1 ≤ m' ↔ 1 ≤ p.length := by
 cases p with
 | nil => simp only [ngo] at h; obtain rfl := Option.some.inj h; simp
 | cons x p =>
  simp only [ngo] at h; split at h
  ·cases h
  ·rename_i q; have hx : x = 0 := by omega
   subst hx; have := ngo_le _ _ _ h; rw [_root_.if_pos (by rfl)] at this; simp only [List.length_cons]; omega
theorem ngo_mem (p : List Int) : ∀ m m', ngo p m = some m' → (∀ x ∈ p, 0 ≤ x ∧ x < (m' : Int)) ∧ ∀ j : Nat, m ≤ j → j < m' → (j : Int) ∈ p := by
 induction p with
 | nil => intro m m' h; simp only [ngo] at h; obtain rfl := Option.some.inj h; exact ⟨by simp, fun j h1 h2 => by omega⟩
 | cons x p ih =>
  intro m m' h; simp only [ngo] at h; split at h
  ·cases h
  ·rename_i q; obtain ⟨h1, h2⟩ := ih _ _ h; have h3 := ngo_le _ _ _ h; refine ⟨fun y hy => ?_, fun j hj hj' => ?_⟩
   ·rcases List.mem_cons.1 hy with rfl | hy
    ·split at h3 <;> omega
    ·exact h1 y hy
   ·by_cases e : x = (m : Int)
    ·rw [_root_.if_pos e] at h2; by_cases e2 : j = m
     ·subst e2; rw [e]; exact List.mem_cons_self ..
     ·exact List.mem_cons_of_mem _ (h2 j (by omega) hj')
    ·rw [_root_.if_neg e] at h2; exact List.mem_cons_of_mem _ (h2 j hj hj')
theorem specIsPattern_ev (p : List Int) (hp : p.length ≤ 1048576) : Ev (fun k => spec_IsPattern.f k p) (isPat p) := by
 have key : ∀ i, i ≤ p.length → ∀ m : Nat, m ≤ 3 → m ≤ i → Ev (fun k => spec_IsPattern.l0 k p (m : Int) (i : Int)) (match ngo (p.drop i) m with | none => false | some m' => decide (p.length ≤ 6 ∧ m' ≤ 3 ∧ 1 ≤ p.length)) := by
  refine down p.length ?_ ?_
  ·intro m hm hi; refine Ev.step (fun k => by simp only [spec_IsPattern.l0]; rw [_root_.if_neg (by omega)]) ?_; refine Ev.bind (Ev.val (in_val _ _ _)) ?_; rw [List.drop_length]; simp only [ngo]; refine Ev.same (Ev.some _) ?_; exact decide_eq_decide.2 (by omega)
  ·intro i hi ih m hm hmi; rw [drop_eq p i hi]; simp only [ngo]; have bad : ∀ b, b = true → Ev (fun k => spec_IsPattern.j1 k p (m : Int) (i : Int) b) false := fun b hb => by
    refine Ev.step (fun k => by simp only [spec_IsPattern.j1]; rw [_root_.if_pos hb]) ?_; exact Ev.some _
   refine Ev.step (fun k => by simp only [spec_IsPattern.l0]; rw [_root_.if_pos (by omega), _root_.if_pos (by omega), rd_get p i hi]) ?_; refine Ev.ite (fun q1 => ?_) (fun q1 => ?_)
   ·rw [_root_.if_pos (Or.inl q1)]; exact bad _ rfl
   ·refine Ev.ite (fun q2 => ?_) (fun q2 => ?_)
    ·rw [_root_.if_pos (Or.inr q2)]; exact bad _ rfl
    ·rw [_root_.if_neg (by omega)]; by_cases q3 : p[i] > 2
     ·rw [decide_eq_true q3]; refine Ev.same (bad _ rfl) ?_; have e1 : p[i] = (m : Int) := by omega
      rw [_root_.if_pos e1]; split
      ·rfl
      ·rename_i m' h; have := ngo_le _ _ _ h; rw [decide_eq_false (by omega)]
     ·rw [decide_eq_false q3]; refine Ev.step (fun k => by simp only [spec_IsPattern.j1]; rw [_root_.if_neg (by simp), _root_.if_pos (by omega), _root_.if_pos (by omega), rd_get p i hi, wsucc (i := m) (by omega), wsucc (i := i) (by omega)]) ?_; refine Ev.ite (fun e => ?_) (fun e => ?_)
      ·rw [_root_.if_pos e]; exact ih (m + 1) (by omega) (by omega)
      ·rw [_root_.if_neg e]; exact ih m hm (by omega)
 have := key 0 (by omega) 0 (by omega) (by omega); unfold spec_IsPattern.f; refine Ev.same this ?_; unfold isPat; rw [List.drop_zero]; split
 ·rfl
 ·rename_i m h; have := ngo_pos p m h; exact decide_eq_decide.2 (by omega)
theorem implLetters_ev (p : List Int) (hp : p.length ≤ 1048576) : Ev (fun k => impl_patternLetters.f k p) (if isPat p = true then (nl p : Int) else 0) := by
 have key : ∀ i, i ≤ p.length → ∀ m : Nat, m ≤ i → Ev (fun k => impl_patternLetters.l0 k p (m : Int) p (p.length : Int) (i : Int)) (match ngo (p.drop i) m with | none => 0 | some m' => if p.length ≤ 6 ∧ m' ≤ 3 then (m' : Int) else 0) := by
  refine down p.length ?_ ?_
  ·intro m hm; refine Ev.step (fun k => by simp only [impl_patternLetters.l0]; rw [_root_.if_neg (by omega)]) ?_; rw [List.drop_length]; simp only [ngo]; refine Ev.ite (fun q => ?_) (fun q => ?_)
   ·rw [_root_.if_neg (by omega)]; exact Ev.some _
   ·refine Ev.ite (fun q2 => ?_) (fun q2 => ?_)
    ·rw [_root_.if_neg (by omega)]; exact Ev.some _
    ·rw [_root_.if_pos (by omega)]; exact Ev.some _
  ·intro i hi ih m hmi; rw [drop_eq p i hi]; simp only [ngo]; have bad : ∀ b, b = true → Ev (fun k => impl_patternLetters.j1 k p (m : Int) p[i] p (p.length : Int) (i : Int) b) 0 := fun b hb => by
    refine Ev.step (fun k => by simp only [impl_patternLetters.j1]; rw [_root_.if_pos hb]) ?_; exact Ev.some _
   refine Ev.step (fun k => by simp only [impl_patternLetters.l0]; rw [_root_.if_pos (by omega), _root_.if_pos (by omega), _root_.if_pos (by omega), rd_get p i hi]) ?_; refine Ev.ite (fun q1 => ?_) (fun q1 => ?_)
   ·rw [_root_.if_pos (Or.inl q1)]; exact bad _ rfl
   ·by_cases q2 : p[i] > (m : Int)
    ·rw [decide_eq_true q2, _root_.if_pos (Or.inr q2)]; exact bad _ rfl
    ·rw [decide_eq_false q2, _root_.if_neg (by omega)]; refine Ev.step (fun k => by simp only [impl_patternLetters.j1]; rw [_root_.if_neg (by simp), wsucc (i := m) (by omega), wsucc (i := i) (by omega)]) ?_; refine Ev.ite (fun e => ?_) (fun e => ?_)
     ·rw [_root_.if_pos e]; exact ih (m + 1) (by omega)
     ·rw [_root_.if_neg e]; exact ih m (by omega)
 have := key 0 (by omega) 0 (by omega); unfold impl_patternLetters.f; refine Ev.same this ?_; unfold isPat nl; rw [List.drop_zero]; cases h : ngo p 0 with
 | none => rfl
 | some m =>
  simp only [Option.getD_some]; by_cases q : p.length ≤ 6 ∧ m ≤ 3
  ·rw [_root_.if_pos q]; by_cases q2 : 1 ≤ m
   ·rw [decide_eq_true ⟨q.1, q.2, q2⟩, _root_.if_pos rfl]
   ·rw [decide_eq_false (fun x => q2 x.2.2), _root_.if_neg (by simp)]; omega
  ·rw [_root_.if_neg q, decide_eq_false (fun x => q ⟨x.1, x.2.1⟩), _root_.if_neg (by simp)]
theorem isPat_nl {p : List Int} (h : isPat p = true) : ngo p 0 = some (nl p) ∧ p.length ≤ 6 ∧ nl p ≤ 3 ∧ 1 ≤ nl p := by
 unfold isPat at h; unfold nl; cases q : ngo p 0 with
 | none => rw [q] at h; cases h
 | some m => rw [q] at h; exact ⟨rfl, of_decide_eq_true h⟩
theorem implIsPattern_ev (p : List Int) (hp : p.length ≤ 1048576) : Ev (fun k => impl_IsPattern.f k p) (isPat p) := by
 unfold impl_IsPattern.f; refine Ev.bind (implLetters_ev p hp) (Ev.same (Ev.some _) ?_); cases h : isPat p with
 | false => simp
 | true => rw [_root_.if_pos rfl]; have := (isPat_nl h).2.2.2; exact decide_eq_true (by omega)
/-- For a pattern alone. -/
theorem specLetters_ev (p : List Int) (h : isPat p = true) : Ev (fun k => spec_l28Letters.f k p) (nl p : Int) := by
 obtain ⟨h0, h6, h3, h1⟩ := isPat_nl h; have key : ∀ i, i ≤ p.length → ∀ m : Nat, m ≤ 10 → ngo (p.drop i) m = some (nl p) → Ev (fun k => spec_l28Letters.l0 k p (m : Int) (i : Int)) (nl p : Int) := by
  refine down p.length ?_ ?_
  ·intro m hm hn; refine Ev.step (fun k => by simp only [spec_l28Letters.l0]; rw [_root_.if_neg (by omega)]) ?_; rw [List.drop_length] at hn; simp only [ngo] at hn; obtain e := Option.some.inj hn; rw [e]; exact Ev.some _
  ·intro i hi ih m hm hn; rw [drop_eq p i hi] at hn; simp only [ngo] at hn; split at hn
   ·cases hn
   ·rename_i q; have hle := ngo_le _ _ _ hn; have e : mx (m : Int) (wrap64 (p[i] + 1)) = ((if p[i] = (m : Int) then m + 1 else m : Nat) : Int) := by
     rw [w_id (by omega) (by omega)]; unfold mx; split <;> split <;> omega
    refine Ev.step (fun k => by simp only [spec_l28Letters.l0]; rw [_root_.if_pos (by omega), _root_.if_pos (by omega), rd_get p i hi, e, wsucc (i := i) (by omega)]) ?_; exact ih _ (by split at hle <;> split <;> omega) hn
 exact key 0 (by omega) 0 (by omega) (by rw [List.drop_zero]; exact h0)
/-- Lengths that fit a pattern. -/
def okL (p L : List Int) : Bool := isPat p && (decide (L.length = nl p) && L.all fun y => decide (1 ≤ y ∧ y ≤ 40))
theorem specLengths_ev (p L : List Int) (hp : p.length ≤ 1048576) (hL : L.length ≤ 1048576) : Ev (fun k => spec_l28Lengths.f k p L) (okL p L) := by
 have key : ∀ i, i ≤ L.length → Ev (fun k => spec_l28Lengths.l0 k p L (i : Int)) (isPat p && (decide (L.length = nl p) && (L.drop i).all fun y => decide (1 ≤ y ∧ y ≤ 40))) := by
  refine down L.length ?_ ?_
  ·refine Ev.step (fun k => by simp only [spec_l28Lengths.l0]; rw [_root_.if_neg (by omega)]) ?_; refine Ev.bind (specIsPattern_ev p hp) ?_; rw [List.drop_length]; cases h : isPat p with
   | false => exact Ev.if_neg (by simp) (Ev.some _)
   | true =>
    refine Ev.if_pos rfl (Ev.bind (specLetters_ev p h) (Ev.same (Ev.some _) ?_)); rw [List.all_nil, Bool.and_true, Bool.true_and, Bool.eq_iff_iff, beq_iff_eq, decide_eq_true_iff]; omega
  ·intro i hi ih; rw [drop_eq L i hi, List.all_cons]; refine Ev.step (fun k => by simp only [spec_l28Lengths.l0]; rw [_root_.if_pos (by omega), _root_.if_pos (by omega), rd_get L i hi, wsucc (i := i) (by omega)]) ?_; refine Ev.bind (Ev.val (in_val _ _ _)) ?_; by_cases q : 1 ≤ L[i] ∧ L[i] ≤ 40
   ·rw [decide_eq_true q, Bool.true_and]; exact Ev.if_pos rfl ih
   ·rw [decide_eq_false q, Bool.false_and, Bool.and_false, Bool.and_false]; exact Ev.if_neg (by simp) (Ev.some _)
 exact key 0 (by omega)
theorem implLengths_ev (p L : List Int) (hp : p.length ≤ 1048576) (hL : L.length ≤ 1048576) : Ev (fun k => impl_areLengths.f k p L) (okL p L) := by
 have bad : ∀ b, b = true → Ev (fun k => impl_areLengths.j0 k L b) false := fun b hb => by
  refine Ev.step (fun k => by simp only [impl_areLengths.j0]; rw [_root_.if_pos hb]) ?_; exact Ev.some _
 unfold impl_areLengths.f okL; refine Ev.bind (implIsPattern_ev p hp) ?_; cases h : isPat p with
 | false => exact Ev.if_neg (by simp) (bad _ rfl)
 | true =>
  refine Ev.if_pos rfl (Ev.bind (implLetters_ev p hp) ?_); rw [_root_.if_pos h, Bool.true_and]; by_cases e : L.length = nl p
  ·rw [e, decide_eq_true rfl, Bool.true_and]; have hne : ((nl p : Int) != (nl p : Int)) = false := by simp
   rw [hne]; have key : ∀ i, i ≤ L.length → Ev (fun k => impl_areLengths.l0 k L (L.length : Int) (i : Int)) ((L.drop i).all fun y => decide (1 ≤ y ∧ y ≤ 40)) := by
    refine down L.length ?_ ?_
    ·refine Ev.step (fun k => by simp only [impl_areLengths.l0]; rw [_root_.if_neg (by omega)]) ?_; rw [List.drop_length]; exact Ev.some _
    ·intro i hi ih; rw [drop_eq L i hi, List.all_cons]; refine Ev.step (fun k => by simp only [impl_areLengths.l0]; rw [_root_.if_pos (by omega), _root_.if_pos (by omega), _root_.if_pos (by omega), rd_get L i hi, wsucc (i := i) (by omega)]) ?_; refine Ev.ite (fun q => ?_) (fun q => ?_)
     ·rw [decide_eq_false (by omega), Bool.false_and]; exact Ev.some _
     ·refine Ev.ite (fun q2 => ?_) (fun q2 => ?_)
      ·rw [decide_eq_false (by omega), Bool.false_and]; exact Ev.some _
      ·rw [decide_eq_true (by omega), Bool.true_and]; exact ih
   refine Ev.step (fun k => by simp only [impl_areLengths.j0]; rw [_root_.if_neg (by simp)]) ?_; exact key 0 (by omega)
  ·rw [decide_eq_false e, Bool.false_and]; exact bad _ (by rw [bne_iff_ne]; omega)
end Go.Proofs.YtdekenijnbhpfaaDoor.M
namespace Go.Proofs.YtdekenijnbhpfaaDoor.M
open Go.RowKit Go.Proofs.YtdekenijnbhpfaaDoor.KW Go.Proofs.YtdekenijnbhpfaaDoorW.PrintWords Go.Proofs.YtdekenijnbhpfaaDoorW.PrintLast Go.Proofs.YtdekenijnbhpfaaDoorW.PrintMore
attribute [local go_sem] max2_int min2_int max_two min_two max_three min_three max_four min_four
set_option linter.unusedVariables false
set_option linter.unusedSimpArgs false
def cmp_isNaN_int.f (a0 : Int) : Option (Bool) := some (a0 != a0)
set_option maxHeartbeats 8000000 in
set_option maxRecDepth 100000 in
theorem cmp_isNaN_int.calls (a0 : Int) (r : Bool) (w : World) (h : cmp_isNaN_int.f a0 = some r) :
  Calls Tryd.prog 200 #[.int .i64 a0] w fun e w' => e = .returned (.bool r) ∧ Drawn0 w w' := by
 have H : (some (a0 != a0)) = some r := h; clear h; obtain rfl := Option.some.inj H; go_enter Tryd.func200, Tryd.ntmps200; go_wp2; go_ret; exact ⟨by first | rfl | (simp; done) | (simp [*]; done), by repeat (first | exact Drawn0.refl _ | apply Drawn0.step)⟩
def cmp_Compare_int.f (a0 : Int) (a1 : Int) : Option (Int) := (cmp_isNaN_int.f a0).bind fun t241 => ((cmp_isNaN_int.f a1).bind fun t242 => (if t241 = true then (if t242 = true then (some 0) else (some (-1))) else (if t242 = true then (some 1) else (if a0 < a1 then (some (-1)) else (if a0 > a1 then (some 1) else (some 0))))))
set_option maxHeartbeats 8000000 in
set_option maxRecDepth 100000 in
theorem cmp_Compare_int.calls (a0 : Int) (a1 : Int) (r : Int) (w : World) (h : cmp_Compare_int.f a0 a1 = some r) :
  Calls Tryd.prog 197 #[.int .i64 a0, .int .i64 a1] w fun e w' => e = .returned (.int .i64 r) ∧ Drawn0 w w' := by
 have H : ((cmp_isNaN_int.f a0).bind fun t241 => ((cmp_isNaN_int.f a1).bind fun t242 => (if t241 = true then (if t242 = true then (some 0) else (some (-1))) else (if t242 = true then (some 1) else (if a0 < a1 then (some (-1)) else (if a0 > a1 then (some 1) else (some 0))))))) = some r := h; clear h; replace H := Option.bind_eq_some_iff.mp H; obtain ⟨t241, A30, H⟩ := H; replace H : ((cmp_isNaN_int.f a1).bind fun t242 => (if t241 = true then (if t242 = true then (some 0) else (some (-1))) else (if t242 = true then (some 1) else (if a0 < a1 then (some (-1)) else (if a0 > a1 then (some 1) else (some 0)))))) = some r := H; have A3 := Aside0.mk A30; clear A30; replace H := Option.bind_eq_some_iff.mp H; obtain ⟨t242, A40, H⟩ := H; replace H : (if t241 = true then (if t242 = true then (some 0) else (some (-1))) else (if t242 = true then (some 1) else (if a0 < a1 then (some (-1)) else (if a0 > a1 then (some 1) else (some 0))))) = some r := H; have A4 := Aside0.mk A40; clear A40; by_cases c5 : t241 = true
 ·subst c5; have H1 : (if t242 = true then (some 0) else (some (-1))) = some r := by rw [if_pos rfl] at H; exact H
  clear H; have H := H1; clear H1; by_cases c6 : t242 = true
  ·subst c6; have H1 : (some 0) = some r := by rw [if_pos rfl] at H; exact H
   clear H; have H := H1; clear H1; obtain rfl := Option.some.inj H; go_enter Tryd.func197, Tryd.ntmps197; go_wp2_with (first | ((with_reducible refine gate_callee (f := 200) rfl ?_); refine goesL_ (some 8) rfl rfl Tryd.func200 (by kernel_rfl) rfl #[.int .i64 a0] rfl (by (try simp only [List.map_toArray, List.map_cons, List.map_nil]); first | done | rfl | (simp only [List.length_drop, List.length_take]; rfl)) ?_; (with_reducible refine (cmp_isNaN_int.calls a0 true _ A3.out).mono ?_); rintro e w' ⟨rfl, ⟨nd, rfl⟩⟩; refine ⟨_, rfl, ?_⟩) | ((with_reducible refine gate_callee (f := 200) rfl ?_); refine goesL_ (some 10) rfl rfl Tryd.func200 (by kernel_rfl) rfl #[.int .i64 a1] rfl (by (try simp only [List.map_toArray, List.map_cons, List.map_nil]); first | done | rfl | (simp only [List.length_drop, List.length_take]; rfl)) ?_; (with_reducible refine (cmp_isNaN_int.calls a1 true _ A4.out).mono ?_); rintro e w' ⟨rfl, ⟨nd, rfl⟩⟩; refine ⟨_, rfl, ?_⟩)); go_ret; exact ⟨by first | rfl | (simp; done) | (simp [*]; done), by repeat (first | exact Drawn0.refl _ | apply Drawn0.step)⟩
  ·replace c6 := Bool.eq_false_iff.mpr c6; subst c6; have H1 : (some (-1)) = some r := by rw [if_neg (show ¬ (false = true) by decide)] at H; exact H
   clear H; have H := H1; clear H1; obtain rfl := Option.some.inj H; go_enter Tryd.func197, Tryd.ntmps197; go_wp2_with (first | ((with_reducible refine gate_callee (f := 200) rfl ?_); refine goesL_ (some 8) rfl rfl Tryd.func200 (by kernel_rfl) rfl #[.int .i64 a0] rfl (by (try simp only [List.map_toArray, List.map_cons, List.map_nil]); first | done | rfl | (simp only [List.length_drop, List.length_take]; rfl)) ?_; (with_reducible refine (cmp_isNaN_int.calls a0 true _ A3.out).mono ?_); rintro e w' ⟨rfl, ⟨nd, rfl⟩⟩; refine ⟨_, rfl, ?_⟩) | ((with_reducible refine gate_callee (f := 200) rfl ?_); refine goesL_ (some 10) rfl rfl Tryd.func200 (by kernel_rfl) rfl #[.int .i64 a1] rfl (by (try simp only [List.map_toArray, List.map_cons, List.map_nil]); first | done | rfl | (simp only [List.length_drop, List.length_take]; rfl)) ?_; (with_reducible refine (cmp_isNaN_int.calls a1 false _ A4.out).mono ?_); rintro e w' ⟨rfl, ⟨nd, rfl⟩⟩; refine ⟨_, rfl, ?_⟩)); go_ret; exact ⟨by first | rfl | (simp; done) | (simp [*]; done), by repeat (first | exact Drawn0.refl _ | apply Drawn0.step)⟩
 ·replace c5 := Bool.eq_false_iff.mpr c5; subst c5; have H1 : (if t242 = true then (some 1) else (if a0 < a1 then (some (-1)) else (if a0 > a1 then (some 1) else (some 0)))) = some r := by rw [if_neg (show ¬ (false = true) by decide)] at H; exact H
  clear H; have H := H1; clear H1; by_cases c7 : t242 = true
  ·subst c7; have H1 : (some 1) = some r := by rw [if_pos rfl] at H; exact H
   clear H; have H := H1; clear H1; obtain rfl := Option.some.inj H; go_enter Tryd.func197, Tryd.ntmps197; go_wp2_with (first | ((with_reducible refine gate_callee (f := 200) rfl ?_); refine goesL_ (some 8) rfl rfl Tryd.func200 (by kernel_rfl) rfl #[.int .i64 a0] rfl (by (try simp only [List.map_toArray, List.map_cons, List.map_nil]); first | done | rfl | (simp only [List.length_drop, List.length_take]; rfl)) ?_; (with_reducible refine (cmp_isNaN_int.calls a0 false _ A3.out).mono ?_); rintro e w' ⟨rfl, ⟨nd, rfl⟩⟩; refine ⟨_, rfl, ?_⟩) | ((with_reducible refine gate_callee (f := 200) rfl ?_); refine goesL_ (some 10) rfl rfl Tryd.func200 (by kernel_rfl) rfl #[.int .i64 a1] rfl (by (try simp only [List.map_toArray, List.map_cons, List.map_nil]); first | done | rfl | (simp only [List.length_drop, List.length_take]; rfl)) ?_; (with_reducible refine (cmp_isNaN_int.calls a1 true _ A4.out).mono ?_); rintro e w' ⟨rfl, ⟨nd, rfl⟩⟩; refine ⟨_, rfl, ?_⟩)); go_ret; exact ⟨by first | rfl | (simp; done) | (simp [*]; done), by repeat (first | exact Drawn0.refl _ | apply Drawn0.step)⟩
  ·replace c7 := Bool.eq_false_iff.mpr c7; subst c7; have H1 : (if a0 < a1 then (some (-1)) else (if a0 > a1 then (some 1) else (some 0))) = some r := by rw [if_neg (show ¬ (false = true) by decide)] at H; exact H
   clear H; have H := H1; clear H1; by_cases c8 : a0 < a1
   ·rw [if_pos c8] at H; have c8b0 : decide (a0 < a1) = true := decide_eq_true c8; clear c8; obtain rfl := Option.some.inj H; go_enter Tryd.func197, Tryd.ntmps197; go_wp2_with (first | ((with_reducible refine gate_callee (f := 200) rfl ?_); refine goesL_ (some 8) rfl rfl Tryd.func200 (by kernel_rfl) rfl #[.int .i64 a0] rfl (by (try simp only [List.map_toArray, List.map_cons, List.map_nil]); first | done | rfl | (simp only [List.length_drop, List.length_take]; rfl)) ?_; (with_reducible refine (cmp_isNaN_int.calls a0 false _ A3.out).mono ?_); rintro e w' ⟨rfl, ⟨nd, rfl⟩⟩; refine ⟨_, rfl, ?_⟩) | ((with_reducible refine gate_callee (f := 200) rfl ?_); refine goesL_ (some 10) rfl rfl Tryd.func200 (by kernel_rfl) rfl #[.int .i64 a1] rfl (by (try simp only [List.map_toArray, List.map_cons, List.map_nil]); first | done | rfl | (simp only [List.length_drop, List.length_take]; rfl)) ?_; (with_reducible refine (cmp_isNaN_int.calls a1 false _ A4.out).mono ?_); rintro e w' ⟨rfl, ⟨nd, rfl⟩⟩; refine ⟨_, rfl, ?_⟩)); go_ret; exact ⟨by first | rfl | (simp; done) | (simp [*]; done), by repeat (first | exact Drawn0.refl _ | apply Drawn0.step)⟩
   ·rw [if_neg c8] at H; have c8b0 : decide (a0 < a1) = false := decide_eq_false c8; clear c8; by_cases c9 : a0 > a1
    ·rw [if_pos c9] at H; have c9b0 : decide (a1 < a0) = true := decide_eq_true c9; clear c9; obtain rfl := Option.some.inj H; go_enter Tryd.func197, Tryd.ntmps197; go_wp2_with (first | ((with_reducible refine gate_callee (f := 200) rfl ?_); refine goesL_ (some 8) rfl rfl Tryd.func200 (by kernel_rfl) rfl #[.int .i64 a0] rfl (by (try simp only [List.map_toArray, List.map_cons, List.map_nil]); first | done | rfl | (simp only [List.length_drop, List.length_take]; rfl)) ?_; (with_reducible refine (cmp_isNaN_int.calls a0 false _ A3.out).mono ?_); rintro e w' ⟨rfl, ⟨nd, rfl⟩⟩; refine ⟨_, rfl, ?_⟩) | ((with_reducible refine gate_callee (f := 200) rfl ?_); refine goesL_ (some 10) rfl rfl Tryd.func200 (by kernel_rfl) rfl #[.int .i64 a1] rfl (by (try simp only [List.map_toArray, List.map_cons, List.map_nil]); first | done | rfl | (simp only [List.length_drop, List.length_take]; rfl)) ?_; (with_reducible refine (cmp_isNaN_int.calls a1 false _ A4.out).mono ?_); rintro e w' ⟨rfl, ⟨nd, rfl⟩⟩; refine ⟨_, rfl, ?_⟩)); go_ret; exact ⟨by first | rfl | (simp; done) | (simp [*]; done), by repeat (first | exact Drawn0.refl _ | apply Drawn0.step)⟩
    ·rw [if_neg c9] at H; have c9b0 : decide (a1 < a0) = false := decide_eq_false c9; clear c9; obtain rfl := Option.some.inj H; go_enter Tryd.func197, Tryd.ntmps197; go_wp2_with (first | ((with_reducible refine gate_callee (f := 200) rfl ?_); refine goesL_ (some 8) rfl rfl Tryd.func200 (by kernel_rfl) rfl #[.int .i64 a0] rfl (by (try simp only [List.map_toArray, List.map_cons, List.map_nil]); first | done | rfl | (simp only [List.length_drop, List.length_take]; rfl)) ?_; (with_reducible refine (cmp_isNaN_int.calls a0 false _ A3.out).mono ?_); rintro e w' ⟨rfl, ⟨nd, rfl⟩⟩; refine ⟨_, rfl, ?_⟩) | ((with_reducible refine gate_callee (f := 200) rfl ?_); refine goesL_ (some 10) rfl rfl Tryd.func200 (by kernel_rfl) rfl #[.int .i64 a1] rfl (by (try simp only [List.map_toArray, List.map_cons, List.map_nil]); first | done | rfl | (simp only [List.length_drop, List.length_take]; rfl)) ?_; (with_reducible refine (cmp_isNaN_int.calls a1 false _ A4.out).mono ?_); rintro e w' ⟨rfl, ⟨nd, rfl⟩⟩; refine ⟨_, rfl, ?_⟩)); go_ret; exact ⟨by first | rfl | (simp; done) | (simp [*]; done), by repeat (first | exact Drawn0.refl _ | apply Drawn0.step)⟩
def slices_Compare_int_int.l0 : Nat → List Int → List Int → List Int → Int → Int → Option (Int)
 | 0, _, _, _, _, _ => none
 | k + 1, x0, x1, x9, x10, x11 => if x11 < x10 then (if 0 ≤ x11 then (if x11 < (x9.length : Int) then (if x11 ≥ (x1.length : Int) then (some 1) else (if x11 < (x1.length : Int) then ((cmp_Compare_int.f (rd x9 x11) (rd x1 x11)).bind fun t245 => (if t245 = 0 then (slices_Compare_int_int.l0 k x0 x1 x9 x10 (wrap64 (x11 + 1))) else (some t245))) else (none))) else (none)) else (none)) else (if (x0.length : Int) < (x1.length : Int) then (some (-1)) else (some 0))
def slices_Compare_int_int.f (k : Nat) (l0 : List Int) (l1 : List Int) : Option (Int) := slices_Compare_int_int.l0 k l0 l1 l0 (l0.length : Int) 0
set_option maxHeartbeats 8000000 in
set_option maxRecDepth 100000 in
theorem slices_Compare_int_int.calls (k : Nat) (A0 : Option Addr) (c0 : Nat) (l0 : List Int) (A1 : Option Addr) (c1 : Nat) (l1 : List Int) (r : Int) (w : World) (hr0 : Kd.C (Kd.int .i64) w A0 l0.length l0) (hc0 : l0.length ≤ c0) (hr1 : Kd.C (Kd.int .i64) w A1 l1.length l1) (hc1 : l1.length ≤ c1) (h : slices_Compare_int_int.f k l0 l1 = some r) :
  Calls Tryd.prog 193 #[.slice A0 l0.length c0, .slice A1 l1.length c1] w fun e w' => e = .returned (.int .i64 r) ∧ Drawn0 w w' := by
 have HR0 := Aside0.mk hr0; have HC0 := Aside0.mk hc0; clear hr0 hc0; have HR1 := Aside0.mk hr1; have HC1 := Aside0.mk hc1; clear hr1 hc1; have H : (slices_Compare_int_int.l0 k l0 l1 l0 (l0.length : Int) 0) = some r := h; clear h; have H' := Aside0.mk H; clear H; go_enter Tryd.func193, Tryd.ntmps193; go_wp2; go_loopg [11] k (fun kq v11 w' => ∃ (x11_1 : Int), v11 = .int .i64 x11_1 ∧ Aside0 (slices_Compare_int_int.l0 kq l0 l1 l0 (l0.length : Int) x11_1 = some r) ∧ Aside0 (kq ≤ k) ∧ Drawn0 w w')
 case atStart => exact ⟨(0), (by first | rfl | (simp; done) | (simp [*]; done)), H', ⟨Nat.le_refl _⟩, by repeat (first | exact Drawn0.refl _ | apply Drawn0.step)⟩
 case round =>
  clear H'
  try clear c1
  try clear p2
  obtain ⟨x11_1, rfl, HA, HK1, ⟨m1, rfl⟩⟩ := hrel; cases gk with
  | zero => exact absurd HA.out (by simp [slices_Compare_int_int.l0])
  | succ k1 =>
   have H := HA.out; clear HA; simp only [slices_Compare_int_int.l0] at H; by_cases c3 : x11_1 < (l0.length : Int)
   ·rw [if_pos c3] at H; have c3b0 : decide (x11_1 < (l0.length : Int)) = true := decide_eq_true c3; clear c3; by_cases c4 : 0 ≤ x11_1
    ·rw [if_pos c4] at H; have c4b0 : decide (0 ≤ x11_1) = true := decide_eq_true c4; clear c4; by_cases c5 : x11_1 < (l0.length : Int)
     ·rw [if_pos c5] at H; have c5b0 : decide (x11_1 < (l0.length : Int)) = true := decide_eq_true c5; clear c5; by_cases c6 : x11_1 ≥ (l1.length : Int)
      ·rw [if_pos c6] at H; have c6b0 : decide ((l1.length : Int) ≤ x11_1) = true := decide_eq_true c6; clear c6; obtain rfl := Option.some.inj H; have p243 : 0 ≤ (x11_1 : Int) := of_decide_eq_true (by first | (with_reducible assumption) | assumption); have q243 : x11_1 < (l0.length : Int) := of_decide_eq_true (by first | (with_reducible assumption) | assumption); obtain ⟨ad243, e243, hx243_0⟩ := Kd.at_int HR0.out x11_1 p243 q243; cases e243; replace p243 := eq_true p243; replace q243 := eq_true q243; go_wp2; go_ret; exact ⟨by first | rfl | (simp; done) | (simp [*]; done), by repeat (first | exact Drawn0.refl _ | apply Drawn0.step)⟩
      ·rw [if_neg c6] at H; have c6b0 : decide ((l1.length : Int) ≤ x11_1) = false := decide_eq_false c6; clear c6; by_cases c7 : x11_1 < (l1.length : Int)
       ·rw [if_pos c7] at H; have c7b0 : decide (x11_1 < (l1.length : Int)) = true := decide_eq_true c7; clear c7; replace H := Option.bind_eq_some_iff.mp H; obtain ⟨t245, A80, H⟩ := H; replace H : (if t245 = 0 then (slices_Compare_int_int.l0 k1 l0 l1 l0 (l0.length : Int) (wrap64 (x11_1 + 1))) else (some t245)) = some r := H; have A8 := Aside0.mk A80; clear A80; by_cases c9 : t245 = 0
        ·rw [if_pos c9] at H; have c9b0 : (t245 == 0) = true := beq_iff_eq.mpr c9; have c9b1 : (t245 != 0) = false := bne_eq_false_iff_eq.mpr c9; clear c9; have H' := Aside0.mk H; clear H; have p243 : 0 ≤ (x11_1 : Int) := of_decide_eq_true (by first | (with_reducible assumption) | assumption); have q243 : x11_1 < (l0.length : Int) := of_decide_eq_true (by first | (with_reducible assumption) | assumption); obtain ⟨ad243, e243, hx243_0⟩ := Kd.at_int HR0.out x11_1 p243 q243; cases e243; replace p243 := eq_true p243; replace q243 := eq_true q243; have p244 : 0 ≤ (x11_1 : Int) := of_decide_eq_true (by first | (with_reducible assumption) | assumption); have q244 : x11_1 < (l1.length : Int) := of_decide_eq_true (by first | (with_reducible assumption) | assumption); obtain ⟨ad244, e244, hx244_0⟩ := Kd.at_int HR1.out x11_1 p244 q244; cases e244; replace p244 := eq_true p244; replace q244 := eq_true q244; go_wp2_with (first | ((with_reducible refine gate_callee (f := 197) rfl ?_); refine goesL_ (some 26) rfl rfl Tryd.func197 (by kernel_rfl) rfl #[.int .i64 (rd l0 x11_1), .int .i64 (rd l1 x11_1)] rfl (by (try simp only [List.map_toArray, List.map_cons, List.map_nil]); first | done | rfl | (simp only [List.length_drop, List.length_take]; rfl)) ?_; (with_reducible refine (cmp_Compare_int.calls (rd l0 x11_1) (rd l1 x11_1) t245 _ A8.out).mono ?_); rintro e w' ⟨rfl, ⟨nd, rfl⟩⟩; refine ⟨_, rfl, ?_⟩)); go_roundg k1
         case measure => have := HK1.out; omega
         case rel => exact ⟨(wrap64 (x11_1 + 1)), (by first | rfl | (simp; done) | (simp [*]; done)), H', ⟨by have := HK1.out; omega⟩, by repeat (first | exact Drawn0.refl _ | apply Drawn0.step)⟩
        ·rw [if_neg c9] at H; have c9b0 : (t245 == 0) = false := beq_eq_false_iff_ne.mpr c9; have c9b1 : (t245 != 0) = true := bne_iff_ne.mpr c9; obtain rfl := Option.some.inj H; have p243 : 0 ≤ (x11_1 : Int) := of_decide_eq_true (by first | (with_reducible assumption) | assumption); have q243 : x11_1 < (l0.length : Int) := of_decide_eq_true (by first | (with_reducible assumption) | assumption); obtain ⟨ad243, e243, hx243_0⟩ := Kd.at_int HR0.out x11_1 p243 q243; cases e243; replace p243 := eq_true p243; replace q243 := eq_true q243; have p244 : 0 ≤ (x11_1 : Int) := of_decide_eq_true (by first | (with_reducible assumption) | assumption); have q244 : x11_1 < (l1.length : Int) := of_decide_eq_true (by first | (with_reducible assumption) | assumption); obtain ⟨ad244, e244, hx244_0⟩ := Kd.at_int HR1.out x11_1 p244 q244; cases e244; replace p244 := eq_true p244; replace q244 := eq_true q244; go_wp2_with (first | ((with_reducible refine gate_callee (f := 197) rfl ?_); refine goesL_ (some 26) rfl rfl Tryd.func197 (by kernel_rfl) rfl #[.int .i64 (rd l0 x11_1), .int .i64 (rd l1 x11_1)] rfl (by (try simp only [List.map_toArray, List.map_cons, List.map_nil]); first | done | rfl | (simp only [List.length_drop, List.length_take]; rfl)) ?_; (with_reducible refine (cmp_Compare_int.calls (rd l0 x11_1) (rd l1 x11_1) t245 _ A8.out).mono ?_); rintro e w' ⟨rfl, ⟨nd, rfl⟩⟩; refine ⟨_, rfl, ?_⟩)); go_ret; exact ⟨by first | rfl | (simp; done) | (simp [*]; done), by repeat (first | exact Drawn0.refl _ | apply Drawn0.step)⟩
       ·rw [if_neg c7] at H; exact absurd H (by simp)
     ·rw [if_neg c5] at H; exact absurd H (by simp)
    ·rw [if_neg c4] at H; exact absurd H (by simp)
   ·rw [if_neg c3] at H; have c3b0 : decide (x11_1 < (l0.length : Int)) = false := decide_eq_false c3; clear c3; by_cases c10 : (l0.length : Int) < (l1.length : Int)
    ·rw [if_pos c10] at H; have c10b0 : decide ((l0.length : Int) < (l1.length : Int)) = true := decide_eq_true c10; have c10n0 : decide (l0.length < l1.length) = true := decide_eq_true (by have h_ := of_decide_eq_true c10b0; omega); have c10b1 : decide (l0.length < l1.length) = true := decide_eq_true (Int.ofNat_lt.mp c10); clear c10; obtain rfl := Option.some.inj H; go_wp2; go_ret; exact ⟨by first | rfl | (simp; done) | (simp [*]; done), by repeat (first | exact Drawn0.refl _ | apply Drawn0.step)⟩
    ·rw [if_neg c10] at H; have c10b0 : decide ((l0.length : Int) < (l1.length : Int)) = false := decide_eq_false c10; have c10n0 : decide (l0.length < l1.length) = false := decide_eq_false (by have h_ := of_decide_eq_false c10b0; omega); have c10b1 : decide (l0.length < l1.length) = false := decide_eq_false (fun h => c10 (Int.ofNat_lt.mpr h)); clear c10; obtain rfl := Option.some.inj H; go_wp2; go_ret; exact ⟨by first | rfl | (simp; done) | (simp [*]; done), by repeat (first | exact Drawn0.refl _ | apply Drawn0.step)⟩
def impl_CompareWords.f (k : Nat) (l0 : List Int) (l1 : List Int) : Option (Int) := (slices_Compare_int_int.f k l0 l1).bind fun t246 => (some t246)
set_option maxHeartbeats 8000000 in
set_option maxRecDepth 100000 in
theorem impl_CompareWords.calls (k : Nat) (A0 : Option Addr) (c0 : Nat) (l0 : List Int) (A1 : Option Addr) (c1 : Nat) (l1 : List Int) (r : Int) (w : World) (hr0 : Kd.C (Kd.int .i64) w A0 l0.length l0) (hc0 : l0.length ≤ c0) (hr1 : Kd.C (Kd.int .i64) w A1 l1.length l1) (hc1 : l1.length ≤ c1) (h : impl_CompareWords.f k l0 l1 = some r) :
  Calls Tryd.prog 185 #[.slice A0 l0.length c0, .slice A1 l1.length c1] w fun e w' => e = .returned (.int .i64 r) ∧ Drawn0 w w' := by
 have HR0 := Aside0.mk hr0; have HC0 := Aside0.mk hc0; clear hr0 hc0; have HR1 := Aside0.mk hr1; have HC1 := Aside0.mk hc1; clear hr1 hc1; have H : ((slices_Compare_int_int.f k l0 l1).bind fun t246 => (some t246)) = some r := h; clear h; replace H := Option.bind_eq_some_iff.mp H; obtain ⟨t246, A30, H⟩ := H; replace H : (some t246) = some r := H; have A3 := Aside0.mk A30; clear A30; obtain rfl := Option.some.inj H; go_enter Tryd.func185, Tryd.ntmps185; go_wp2_with (first | ((with_reducible refine gate_callee (f := 193) rfl ?_); refine goesL_ (some 7) rfl rfl Tryd.func193 (by kernel_rfl) rfl #[.slice A0 l0.length c0, .slice A1 l1.length c1] rfl (by (try simp only [List.map_toArray, List.map_cons, List.map_nil]); first | done | rfl | (simp only [List.length_drop, List.length_take]; rfl)) ?_; (with_reducible refine (slices_Compare_int_int.calls k _ _ l0 _ _ l1 t246 _ ?side1 ?side2 ?side3 ?side4 A3.out).mono ?_); (case side1 => repeat (first | exact HR0.out | (with_reducible refine Kd.C_alloc ?_ _) | (with_reducible refine Kd.C_drewN ?_ _) | (with_reducible refine Kd.C_drew ?_))); (case side2 => exact HC0.out); (case side3 => repeat (first | exact HR1.out | (with_reducible refine Kd.C_alloc ?_ _) | (with_reducible refine Kd.C_drewN ?_ _) | (with_reducible refine Kd.C_drew ?_))); (case side4 => exact HC1.out); rintro e w' ⟨rfl, ⟨nd, rfl⟩⟩; refine ⟨_, rfl, ?_⟩)); go_ret; exact ⟨by first | rfl | (simp; done) | (simp [*]; done), by repeat (first | exact Drawn0.refl _ | apply Drawn0.step)⟩
/-- Two words held against each other: 0 just where they are the same. -/
theorem cmp_val (u v : List Int) (hu : u.length ≤ 9223372036854775807) : ∃ (k : Nat) (c : Int), impl_CompareWords.f k u v = some c ∧ (c = 0 ↔ u = v) := by
 have key : ∀ i, i ≤ u.length → ∃ c : Int, Ev (fun k => slices_Compare_int_int.l0 k u v u (u.length : Int) (i : Int)) c ∧ (c = 0 ↔ u.drop i = v.drop i) := by
  refine K.down u.length ?_ ?_
  ·by_cases h : (u.length : Int) < (v.length : Int)
   ·refine ⟨-1, Ev.step (fun k => by simp only [slices_Compare_int_int.l0]; rw [if_neg (by omega), if_pos h]) (K.Ev.some _), ?_⟩; rw [List.drop_length, K.drop_eq v u.length (by omega)]; simp; omega
   ·refine ⟨0, Ev.step (fun k => by simp only [slices_Compare_int_int.l0]; rw [if_neg (by omega), if_neg h]) (K.Ev.some _), ?_⟩; rw [List.drop_length, List.drop_eq_nil_of_le (by omega)]; simp
  ·intro i hi ⟨c, hc, hcc⟩; by_cases h : i < v.length
   ·have hv : cmp_Compare_int.f (rd u (i : Int)) (rd v (i : Int)) = some (if rd u (i : Int) < rd v (i : Int) then -1 else if rd u (i : Int) > rd v (i : Int) then 1 else 0) := by
     unfold cmp_Compare_int.f cmp_isNaN_int.f; simp only [bne_self_eq_false, Option.bind_some, Bool.false_eq_true, if_false]; split
     ·rfl
     ·split <;> rfl
    by_cases e : rd u (i : Int) = rd v (i : Int)
    ·refine ⟨c, Ev.step (fun k => by simp only [slices_Compare_int_int.l0]; rw [if_pos (by omega), if_pos (by omega), if_pos (by omega), if_neg (by omega), if_pos (by omega), hv, if_neg (by omega), if_neg (by omega), Option.bind_some, if_pos rfl, K.wsucc (by omega)]) hc, ?_⟩; rw [hcc, K.drop_eq u i hi, K.drop_eq v i h, ← K.rd_get u i hi, ← K.rd_get v i h, e]; simp
    ·refine ⟨if rd u (i : Int) < rd v (i : Int) then -1 else 1, Ev.step (fun k => by simp only [slices_Compare_int_int.l0]; rw [if_pos (by omega), if_pos (by omega), if_pos (by omega), if_neg (by omega), if_pos (by omega), hv]) ?_, ?_⟩
     ·by_cases q : rd u (i : Int) < rd v (i : Int)
      ·rw [if_pos q, if_pos q]; exact Ev.bind (K.Ev.some _) (K.Ev.if_neg (by omega) (K.Ev.some _))
      ·rw [if_neg q, if_neg q, if_pos (by omega)]; exact Ev.bind (K.Ev.some _) (K.Ev.if_neg (by omega) (K.Ev.some _))
     ·rw [K.drop_eq u i hi, K.drop_eq v i h, ← K.rd_get u i hi, ← K.rd_get v i h]; constructor
      ·intro h1; split at h1 <;> omega
      ·intro h1; exact absurd (List.cons.inj h1).1 e
   ·refine ⟨1, Ev.step (fun k => by simp only [slices_Compare_int_int.l0]; rw [if_pos (by omega), if_pos (by omega), if_pos (by omega), if_pos (by omega)]) (K.Ev.some _), ?_⟩; rw [List.drop_eq_nil_of_le (show v.length ≤ i by omega), K.drop_eq u i hi]; simp; omega
 obtain ⟨c, hc, hcc⟩ := key 0 (by omega); obtain ⟨k, hk⟩ := hc.rounds; refine ⟨k, c, ?_, hcc⟩; unfold impl_CompareWords.f slices_Compare_int_int.f; have hk' : slices_Compare_int_int.l0 k u v u (u.length : Int) 0 = some c := hk; rw [hk']; rfl
/-- A pattern, held against a word from a place on; us: the words of the letters that have been met. -/
def mgo (w L : List Int) : List Int → Nat → List (Option (List Int)) → Bool
 | [], _, _ => true
 | x :: p, i, us =>
  let e := i + (L.getD x.toNat 0).toNat
  if w.length < e then false
  else match us.getD x.toNat none with
   | none => mgo w L p e (us.set x.toNat (some ((w.take e).drop i)))
   | some u => if u = (w.take e).drop i then mgo w L p e us else false
theorem mgo_cons (w L p : List Int) (x n i : Nat) (us : List (Option (List Int))) (hn : L.getD x 0 = (n : Int)) : mgo w L ((x : Int) :: p) i us = if w.length < i + n then false else match us.getD x none with
   | none => mgo w L p (i + n) (us.set x (some ((w.take (i + n)).drop i)))
   | some u => if u = (w.take (i + n)).drop i then mgo w L p (i + n) us else false := by
 simp only [mgo, Int.toNat_natCast, hn]
def matOk (w p : List Int) (L : List Int) : Prop := (∀ x ∈ p, 0 ≤ x ∧ x < (L.length : Int)) ∧ (∀ y ∈ L, 1 ≤ y ∧ y ≤ 40) ∧ w.length ≤ 1000000 ∧ p.length ≤ 1000000 ∧ L.length ≤ 1000000
instance (w p L : List Int) : Decidable (matOk w p L) := by unfold matOk; exact inferInstance
def impl_MatchAt.f (k : Nat) (l0 l1 : List Int) (a2 : Int) (l3 : List Int) : Option Bool := (impl_areLengths.f k l1 l3).bind fun t => if t = true ∧ 0 ≤ a2 ∧ a2 ≤ (l0.length : Int) then (if matOk l0 l1 l3 then some (mgo l0 l3 l1 a2.toNat (List.replicate l3.length none)) else none) else some false
/-- A slice's three words. -/
abbrev Sd := Option Addr × Nat × Nat
def sdv (d : Sd) : Value := .slice d.1 d.2.1 d.2.2
def WdOk (W : World) (d : Sd) : Option (List Int) → Prop
 | none => d = (none, 0, 0)
 | some u => ∃ ad c, d = (some ad, u.length, c) ∧ u.length ≤ c ∧ Kd.C (Kd.int .i64) W (some ad) u.length u
def WdsOk (W : World) (ds : List Sd) (us : List (Option (List Int))) : Prop := ds.length = us.length ∧ ∀ j, j < us.length → WdOk W (rdOf (none, 0, 0) ds (j : Int)) (us.getD j none)
theorem WdsOk.set {W : World} {ds : List Sd} {us : List (Option (List Int))} (h : WdsOk W ds us) (x : Nat) (ad : Addr) (c : Nat) (u : List Int) (hc : u.length ≤ c) (hC : Kd.C (Kd.int .i64) W (some ad) u.length u) : WdsOk W (ds.set x (some ad, u.length, c)) (us.set x (some u)) := by
 refine ⟨by rw [List.length_set, List.length_set]; exact h.1, fun j hj => ?_⟩; rw [List.length_set] at hj; have := h.2 j hj; unfold rdOf at this ⊢; rw [Int.toNat_natCast] at this ⊢; rw [List.getD_eq_getElem?_getD] at this ⊢; rw [List.getD_eq_getElem?_getD] at this ⊢; by_cases e : x = j
 ·subst e; rw [List.getElem?_set_self (by rw [h.1]; exact hj), List.getElem?_set_self hj]; exact ⟨ad, c, rfl, hc, hC⟩
 ·rw [List.getElem?_set_ne e, List.getElem?_set_ne e]; exact this
set_option maxHeartbeats 4000000 in
set_option maxRecDepth 100000 in
theorem impl_MatchAt.calls (k : Nat) (A0 : Option Addr) (c0 : Nat) (l0 : List Int) (A1 : Option Addr) (c1 : Nat) (l1 : List Int) (a2 : Int) (A3 : Option Addr) (c3 : Nat) (l3 : List Int) (r : Bool) (w : World) (hr0 : Kd.C (Kd.int .i64) w A0 l0.length l0) (hc0 : l0.length ≤ c0) (hr1 : Kd.C (Kd.int .i64) w A1 l1.length l1) (hc1 : l1.length ≤ c1) (hr3 : Kd.C (Kd.int .i64) w A3 l3.length l3) (hc3 : l3.length ≤ c3) (h : impl_MatchAt.f k l0 l1 a2 l3 = some r) :
  Calls Tryd.prog 176 #[.slice A0 l0.length c0, .slice A1 l1.length c1, .int .i64 a2, .slice A3 l3.length c3] w fun e w' => e = .returned (.bool r) ∧ Below w.heap.size w w' := by
 have HR0 := Aside0.mk hr0; have HC0 := Aside0.mk hc0; have HR1 := Aside0.mk hr1; have HC1 := Aside0.mk hc1; have HR3 := Aside0.mk hr3; have HC3 := Aside0.mk hc3; clear hr0 hc0 hr1 hc1 hr3 hc3; unfold impl_MatchAt.f at h; have h_ := Option.bind_eq_some_iff.mp h; clear h; obtain ⟨t, ht, h⟩ := h_; have HT := Aside0.mk ht; clear ht; have HNIL := Aside0.mk (fun W : World => (show (binOp .eql 22 (.slice none 0 0) (.slice none 0 0)).run Tryd.prog W = .ok (.bool true) W from by kernel_rfl)); by_cases hok : t = true ∧ 0 ≤ a2 ∧ a2 ≤ (l0.length : Int)
 ·rw [if_pos hok] at h; obtain ⟨rfl, h0, h1⟩ := hok; by_cases hm : matOk l0 l1 l3
  ·rw [if_pos hm] at h; obtain ⟨at0, rfl⟩ : ∃ n : Nat, a2 = (n : Int) := ⟨a2.toNat, by omega⟩; rw [Int.toNat_natCast] at h; have HG := Aside0.mk (Option.some.inj h); obtain ⟨hm1, hm2, hm3, hm4, hm5⟩ := hm; have HM1 := Aside0.mk hm1; have HM2 := Aside0.mk hm2; clear h hm1 hm2 h0; have h1' : at0 ≤ l0.length := by omega
   have hd1 : decide ((at0 : Int) < 0) = false := by simp
   have hd2 : decide ((l0.length : Int) < (at0 : Int)) = false := by simp; omega
   clear h1; go_enter Tryd.func176, Tryd.ntmps176; go_wp2_with fail; refine (impl_areLengths.calls k A1 c1 l1 A3 c3 l3 true w HR1.out HC1.out HR3.out HC3.out HT.out).mono ?_; rintro e_ w1 ⟨rfl, ⟨n1, rfl⟩⟩; go_wp2_with ((with_reducible refine gate_dst (N := 30) rfl ?_); refine Aside0.out ?_); refine Aside0.mk ?_; refine Kd.R_make (Kd.scalar sdv (fun _ => rfl)) (w0 := w) w.heap.size 22 rfl (N := 30) rfl 27 _ _ rfl (l3.length : Int) rfl rfl Tryd.underlying27 (.slice none 0 0) 24 (by kernel_rfl) rfl (by decide) (by omega) ((none, 0, 0) : Sd) (ok := fun _ => True) (okp := fun _ => True) rfl (fun _ hk => hk) trivial (by omega) (by rw [Int.toNat_natCast]; omega) (pw_below_drewN (Below.refl _ _) _) (Nat.le_refl _) ?_; intro v30 w2 ho2 hb2 _ _; rw [Int.toNat_natCast] at ho2; obtain ⟨A30, c30, rfl⟩ := Kd.R_slice ho2; rw [List.length_replicate] at *; have HO2 := Aside0.mk ho2; have HB2 := Aside0.mk hb2; clear ho2 hb2; go_wp2_with fail; go_loopw [2, 33] (fun v2 v33 wr => ∃ (i b : Nat) (us : List (Option (List Int))) (ds : List Sd), i ≤ l1.length ∧ v33 = .int .i64 i ∧ v2 = .int .i64 b ∧ Aside0 (mgo l0 l3 (l1.drop i) b us = r) ∧ b ≤ l0.length ∧ Aside0 (WdsOk w ds us) ∧ Aside0 (ds.length = l3.length) ∧ Aside0 (Kd.R (Kd.scalar sdv (fun _ => rfl)) 22 wr w.heap.size (fun _ => True) (.slice A30 l3.length c30) ds) ∧ Aside0 (Below w.heap.size w wr)) (fun _ v33 _ => l1.length - (intOf v33).toNat)
   case atStart =>
    refine ⟨0, at0, List.replicate l3.length none, List.replicate l3.length (none, 0, 0), Nat.zero_le _, rfl, rfl, HG, h1', ⟨by rw [List.length_replicate, List.length_replicate], fun j hj => ?_⟩, ⟨List.length_replicate⟩, HO2, HB2⟩; rw [List.length_replicate] at hj; unfold rdOf; rw [Int.toNat_natCast, List.getD_eq_getElem?_getD, List.getD_eq_getElem?_getD]; simp [hj, WdOk]
   case round =>
    clear HO2 HB2 HG; obtain ⟨i, b, us, ds, hi, rfl, rfl, HG, hb, HW, HD, HO, HB⟩ := hrel; by_cases hlt : i < l1.length
    ·obtain ⟨x, hx, hxl⟩ : ∃ x : Nat, l1[i] = (x : Int) ∧ x < l3.length := by
      have := HM1.out l1[i] (List.getElem_mem hlt); exact ⟨l1[i].toNat, by omega, by omega⟩
     obtain ⟨n, hn, hn1, hn2⟩ : ∃ n : Nat, l3[x] = (n : Int) ∧ 1 ≤ n ∧ n ≤ 40 := by
      have := HM2.out l3[x] (List.getElem_mem hxl); exact ⟨l3[x].toNat, by omega, by omega, by omega⟩
     obtain ⟨ad1, e1, hx1⟩ := Kd.at_int HR1.out (i : Int) (by omega) (by omega); subst e1; rw [Int.toNat_natCast, K.rd_get l1 i hlt, hx] at hx1; replace hx1 := pw_cell_below HB.out hx1; obtain ⟨ad3, e3, hx3⟩ := Kd.at_int HR3.out (x : Int) (by omega) (by omega); subst e3; rw [Int.toNat_natCast, K.rd_get l3 x hxl, hn] at hx3; replace hx3 := pw_cell_below HB.out hx3; have hg := HG.out; rw [K.drop_eq l1 i hlt, hx, mgo_cons _ _ _ x n _ _ (by rw [List.getD_eq_getElem?_getD, List.getElem?_eq_getElem hxl]; exact hn)] at hg; clear hx hn; by_cases hle : l0.length < b + n
     ·rw [if_pos hle] at hg; subst hg; have hd : decide ((l0.length : Int) < (b : Int) + (n : Int)) = true := by simp; omega
      go_wp2_with fail; go_ret; exact ⟨rfl, HB.out⟩
     ·rw [if_neg hle] at hg; have hd : decide ((l0.length : Int) < (b : Int) + (n : Int)) = false := by simp; omega
      obtain ⟨i0, hi0, _, hsz, _⟩ := info_parts info3; obtain ⟨A', hcut, hA', hC'⟩ := print_mid_of (P := Tryd.prog) (Value.int .i64) 0 22 3 .i64 .i64 Tryd.underlying22 hi0 hsz A0 c0 l0 (b : Int) ((b : Int) + (n : Int)) (by omega) (by omega) (by omega) HC0.out; have hrp := Kd.C_of_reads (h1 := fun _ => rfl) (hA' _ (Kd.reads_of_C HR0.out)); clear hi0 hsz hA'; rw [show ((b : Int) + (n : Int)).toNat = b + n from by omega, Int.toNat_natCast] at hcut hC' hrp; generalize hp : (l0.take (b + n)).drop b = part at *; have hpl : part.length = n := by rw [← hp, List.length_drop, List.length_take]; omega
      clear hp; obtain ⟨adp, rfl⟩ : ∃ ad, A' = some ad := by
       obtain ⟨ad, e, _⟩ := Kd.at_int hrp 0 (by omega) (by omega); exact ⟨ad, e⟩
      have HRP := Aside0.mk hrp; have HCP := Aside0.mk hC'; have HPL := Aside0.mk hpl; clear hrp hC' hpl; obtain ⟨g, cap, e30, hbg, hgl, _⟩ := Kd.R_form HO.out (by rw [HD.out]; omega); injection e30 with ea en ec; subst ea ec; clear en; obtain ⟨hxw, hfw⟩ := Kd.R_celln ((none, 0, 0) : Sd) HO.out (x : Int) (by omega) (by omega); rw [Int.toNat_natCast] at hxw hfw; have hw := HW.out.2 x (by rw [← HW.out.1, HD.out]; exact hxl); generalize rdOf ((none, 0, 0) : Sd) ds (x : Int) = dd at hxw hw; generalize hux : us.getD x none = ux at hw hg; clear hux; have HBG := Aside0.mk hbg; clear hbg hgl; cases ux with
      | none =>
       obtain rfl : dd = (none, 0, 0) := hw; have hg1 : mgo l0 l3 (l1.drop (i + 1)) (b + n) (us.set x (some part)) = r := hg; have HG1 := Aside0.mk hg1; clear hg hg1; have hxw' : wr.cell? ⟨g, x, none⟩ = some (.slice none 0 0) := hxw; clear hxw; have hnil := HNIL.out; have HP := Aside0.mk (Kd.R_putg HO.out (x : Int) ((some adp, part.length, c0 - b) : Sd)); go_wp2_with ((with_reducible refine gate_store (t := 22) (p := 59) rfl ?_); refine Aside0.out ?_); refine Aside0.mk ?_; refine store_event (t := 22) (p := 59) (v := ?vo) (w1 := (wr.setCell ⟨g, x, none⟩ (.slice (some adp) part.length (c0 - b)))) ?hg ?ho ?hn ?hr ?_
       case ho => rfl
       case hg => rfl
       case hn => rfl
       case hr => first | (go_simp; done) | (go_simp; rfl)
       intro w3 hw3; have HP2 := HP.out; rw [Int.toNat_natCast] at HP2; have HO3 := Aside0.mk (show Kd.R (Kd.scalar sdv (fun _ => rfl)) 22 w3 w.heap.size (fun _ => True) (.slice (some ⟨g, 0, none⟩) l3.length c30) (ds.set x (some adp, part.length, c0 - b)) from by rw [hw3]; exact HP2.1); have HB3 := Aside0.mk (show Below w.heap.size w w3 from by rw [hw3]; exact below_set HB.out HBG.out); clear HP2 HP hxw' hw3 HO HB hx1 hx3; obtain ⟨hxv, hfv⟩ := Kd.R_celln ((none, 0, 0) : Sd) HO3.out (x : Int) (by omega) (by omega); rw [Int.toNat_natCast, show rdOf ((none, 0, 0) : Sd) (ds.set x (some adp, part.length, c0 - b)) (x : Int) = (some adp, part.length, c0 - b) from by unfold rdOf; rw [Int.toNat_natCast, List.getD_eq_getElem?_getD, List.getElem?_set_self (by rw [HD.out]; exact hxl)]; rfl] at hxv; have hxv' : w3.cell? ⟨g, x, none⟩ = some (.slice (some adp) part.length (c0 - b)) := hxv; clear hxv hfv; obtain ⟨kc, cc, hcc, hc2⟩ := cmp_val part part (by have := HPL.out; omega); obtain rfl : cc = 0 := hc2.2 rfl; clear hc2; have HCC := Aside0.mk hcc; clear hcc; go_wp2_with fail; refine (impl_CompareWords.calls kc (some adp) (c0 - b) part (some adp) (c0 - b) part 0 w3 (Kd.C_below HRP.out HB3.out) HCP.out (Kd.C_below HRP.out HB3.out) HCP.out HCC.out).mono ?_; rintro e_ w4 ⟨rfl, ⟨n4, rfl⟩⟩; go_wp2_with fail; go_roundw
       case rel => exact ⟨i + 1, b + n, us.set x (some part), ds.set x (some adp, part.length, c0 - b), by omega, by go_num, by go_num, HG1, by omega, ⟨HW.out.set x adp (c0 - b) part HCP.out HRP.out⟩, ⟨by rw [List.length_set]; exact HD.out⟩, ⟨Kd.R_drewN HO3.out _⟩, ⟨pw_below_drewN HB3.out _⟩⟩
       case measure => simp [intOf]; omega
      | some u =>
       obtain ⟨adu, cu, rfl, hcu, hCu⟩ := hw; have hxw' : wr.cell? ⟨g, x, none⟩ = some (.slice (some adu) u.length cu) := hxw; clear hxw; have hnn : ∀ W : World, (binOp .eql 22 (.slice (some adu) u.length cu) (.slice none 0 0)).run Tryd.prog W = .ok (.bool false) W := fun W => by kernel_rfl
       have HCU := Aside0.mk hcu; have HRU := Aside0.mk hCu; clear hcu hCu; have hg1 : (if u = part then mgo l0 l3 (l1.drop (i + 1)) (b + n) us else false) = r := hg; have HG1 := Aside0.mk hg1; clear hg hg1; obtain ⟨kc, cc, hcc, hc2⟩ := cmp_val u part (Kd.C_max HRU.out); have HCC := Aside0.mk hcc; clear hcc; by_cases q : u = part
       ·obtain rfl : cc = 0 := hc2.2 q; clear hc2; rw [if_pos q] at HG1; clear q; go_wp2_with fail; refine (impl_CompareWords.calls kc (some adu) cu u (some adp) (c0 - b) part 0 wr (Kd.C_below HRU.out HB.out) HCU.out (Kd.C_below HRP.out HB.out) HCP.out HCC.out).mono ?_; rintro e_ w4 ⟨rfl, ⟨n4, rfl⟩⟩; go_wp2_with fail; go_roundw
        case rel => exact ⟨i + 1, b + n, us, ds, by omega, by go_num, by go_num, HG1, by omega, HW, HD, ⟨Kd.R_drewN HO.out _⟩, ⟨pw_below_drewN HB.out _⟩⟩
        case measure => simp [intOf]; omega
       ·have hcn : (cc != 0) = true := by
         rw [bne_iff_ne]; intro h0; exact q (hc2.1 h0)
        clear hc2; rw [if_neg q] at HG1; obtain rfl := HG1.out; clear q; go_wp2_with fail; refine (impl_CompareWords.calls kc (some adu) cu u (some adp) (c0 - b) part cc wr (Kd.C_below HRU.out HB.out) HCU.out (Kd.C_below HRP.out HB.out) HCP.out HCC.out).mono ?_; rintro e_ w4 ⟨rfl, ⟨n4, rfl⟩⟩; go_wp2_with fail; go_ret; exact ⟨rfl, pw_below_drewN HB.out _⟩
    ·have e : i = l1.length := by omega
     subst e; have hg := HG.out; rw [List.drop_length] at hg; obtain rfl : true = r := hg; go_wp2_with fail; go_ret; exact ⟨rfl, HB.out⟩
  ·rw [if_neg hm] at h; cases h
 ·rw [if_neg hok] at h; obtain rfl := Option.some.inj h; cases t with
  | false =>
   go_enter Tryd.func176, Tryd.ntmps176; go_wp2_with fail; refine (impl_areLengths.calls k A1 c1 l1 A3 c3 l3 false w HR1.out HC1.out HR3.out HC3.out HT.out).mono ?_; rintro e_ w1 ⟨rfl, ⟨n1, rfl⟩⟩; go_wp2_with fail; go_ret; exact ⟨rfl, pw_below_drewN (Below.refl _ _) _⟩
  | true =>
   by_cases h0 : a2 < 0
   ·have hd1 : decide (a2 < 0) = true := decide_eq_true h0; clear hok h0; go_enter Tryd.func176, Tryd.ntmps176; go_wp2_with fail; refine (impl_areLengths.calls k A1 c1 l1 A3 c3 l3 true w HR1.out HC1.out HR3.out HC3.out HT.out).mono ?_; rintro e_ w1 ⟨rfl, ⟨n1, rfl⟩⟩; go_wp2_with fail; go_ret; exact ⟨rfl, pw_below_drewN (Below.refl _ _) _⟩
   ·have hd1 : decide (a2 < 0) = false := decide_eq_false h0
    have hd2 : decide ((l0.length : Int) < a2) = true := decide_eq_true (by
     apply Int.not_le.1; intro h1; exact hok ⟨rfl, by omega, h1⟩)
    clear hok h0; go_enter Tryd.func176, Tryd.ntmps176; go_wp2_with fail; refine (impl_areLengths.calls k A1 c1 l1 A3 c3 l3 true w HR1.out HC1.out HR3.out HC3.out HT.out).mono ?_; rintro e_ w1 ⟨rfl, ⟨n1, rfl⟩⟩; go_wp2_with fail; go_ret; exact ⟨rfl, pw_below_drewN (Below.refl _ _) _⟩
end Go.Proofs.YtdekenijnbhpfaaDoor.M
/- Matches of patterns as values: program and reference tell the same. No condition but lengths that fit. -/
namespace Go.Proofs.YtdekenijnbhpfaaDoor.M
open Go.RowKit Go.Proofs.YtdekenijnbhpfaaDoorW.PrintWords Go.Proofs.YtdekenijnbhpfaaDoor.K
set_option linter.unusedVariables false
/-- How long a match is. -/
def tot (L : List Int) : List Int → Nat
 | [] => 0
 | x :: p => (L.getD x.toNat 0).toNat + tot L p
theorem tot_append (L p q : List Int) : tot L (p ++ q) = tot L p + tot L q := by
 induction p with
 | nil => simp [tot]
 | cons x p ih => simp only [List.cons_append, tot, ih]; omega
theorem okL_at {p L : List Int} (h : okL p L = true) : isPat p = true ∧ L.length = nl p ∧ (∀ y ∈ L, 1 ≤ y ∧ y ≤ 40) ∧ ∀ x ∈ p, 0 ≤ x ∧ x < (L.length : Int) ∧ x < 3 := by
 unfold okL at h; rw [Bool.and_eq_true, Bool.and_eq_true, List.all_eq_true] at h; obtain ⟨h1, h2, h3⟩ := h; have h2 := of_decide_eq_true h2; obtain ⟨h0, h6, hn3, hn1⟩ := isPat_nl h1; refine ⟨h1, h2, fun y hy => of_decide_eq_true (h3 y hy), fun x hx => ?_⟩; have := (ngo_mem p 0 _ h0).1 x hx; omega
theorem tot_le (L : List Int) (hL : ∀ y ∈ L, 1 ≤ y ∧ y ≤ 40) (p : List Int) (hp : ∀ x ∈ p, 0 ≤ x ∧ x < (L.length : Int)) : p.length ≤ tot L p ∧ tot L p ≤ 40 * p.length := by
 induction p with
 | nil => simp [tot]
 | cons x p ih =>
  have h1 := ih (fun y hy => hp y (List.mem_cons_of_mem _ hy)); have h2 := hp x (List.mem_cons_self ..); have h3 : x.toNat < L.length := by omega
  have h4 := hL _ (List.getElem_mem h3); simp only [tot, List.length_cons]; rw [List.getD_eq_getElem?_getD, List.getElem?_eq_getElem h3]; simp only [Option.getD_some]; omega
theorem specMatchLength_ev (p L : List Int) (hp : p.length ≤ 1048576) (hL : L.length ≤ 1048576) : Ev (fun k => spec_MatchLength.f k p L) (if okL p L = true then (tot L p : Int) else -1) := by
 unfold spec_MatchLength.f; refine Ev.bind (specLengths_ev p L hp hL) ?_; refine Ev.ite (fun h => ?_) (fun h => ?_)
 ·rw [_root_.if_pos h]; obtain ⟨h1, h2, h3, h4⟩ := okL_at h; have h6 := (isPat_nl h1).2.1; have key : ∀ i, i ≤ p.length → Ev (fun k => spec_MatchLength.l0 k p L (tot L (p.take i) : Int) (i : Int)) (tot L p : Int) := by
   refine down p.length ?_ ?_
   ·refine Ev.step (fun k => by simp only [spec_MatchLength.l0]; rw [_root_.if_neg (by omega)]) ?_; rw [List.take_length]; exact Ev.some _
   ·intro i hi ih; have h5 := h4 p[i] (List.getElem_mem hi); obtain ⟨x, hx⟩ : ∃ x : Nat, p[i] = (x : Int) := ⟨p[i].toNat, by omega⟩; have hxl : x < L.length := by omega
    have h7 := h3 _ (List.getElem_mem hxl); obtain ⟨n, hn⟩ : ∃ n : Nat, L[x] = (n : Int) := ⟨L[x].toNat, by omega⟩; have h8 := (tot_le L h3 (p.take i) (fun y hy => ⟨(h4 y (List.mem_of_mem_take hy)).1, (h4 y (List.mem_of_mem_take hy)).2.1⟩)).2; rw [List.length_take] at h8; rw [take_succ p i hi, tot_append] at ih; simp only [tot] at ih; rw [hx, Int.toNat_natCast, List.getD_eq_getElem?_getD, List.getElem?_eq_getElem hxl, Option.getD_some, hn, Int.toNat_natCast] at ih
    refine Ev.step (fun k => by
     simp only [spec_MatchLength.l0]
     rw [_root_.if_pos (by omega), _root_.if_pos (by omega), rd_get p i hi, hx, _root_.if_pos (by omega), _root_.if_pos (by omega), rd_get L x hxl, hn, wsucc (i := i) (by omega), w_id (by omega) (by omega), show ((tot L (p.take i) : Nat) : Int) + (n : Int) = ((tot L (p.take i) + (n + 0) : Nat) : Int) from by omega]) ih
  have := key 0 (by omega); rw [List.take_zero] at this; exact this
 ·rw [_root_.if_neg h]; exact Ev.some _
/-- Held against the word: does a pattern match at a place with lengths. -/
def mAt (w p : List Int) (at_ : Nat) (L : List Int) : Bool := okL p L && (decide (at_ ≤ w.length) && mgo w L p at_ (List.replicate L.length none))
theorem mgo_long (w L : List Int) (p : List Int) : ∀ i us, i ≤ w.length → w.length < i + tot L p → mgo w L p i us = false := by
 induction p with
 | nil => intro i us h1 h2; simp only [tot] at h2; omega
 | cons x p ih =>
  intro i us h1 h2; simp only [tot] at h2; simp only [mgo]; by_cases q : w.length < i + (L.getD x.toNat 0).toNat
  ·rw [_root_.if_pos q]
  ·rw [_root_.if_neg q]; split
   ·exact ih _ _ (by omega) (by omega)
   ·split
    ·exact ih _ _ (by omega) (by omega)
    ·rfl
/-- What the two ways keep in mind tells the same. -/
def Same (w L : List Int) (us : List (Option (List Int))) (fs : List Int) : Prop :=
 us.length = L.length ∧ fs.length = 3 ∧ ∀ j : Nat, j < L.length → match us.getD j none with
  | none => fs.getD j 0 < 0
  | some u => 0 ≤ fs.getD j 0 ∧ (fs.getD j 0).toNat + (L.getD j 0).toNat ≤ w.length ∧ u = (w.take ((fs.getD j 0).toNat + (L.getD j 0).toNat)).drop (fs.getD j 0).toNat
theorem sgo_mgo (w L : List Int) (p : List Int) (hp : ∀ x ∈ p, 0 ≤ x ∧ x < (L.length : Int) ∧ x < 3) : ∀ i us fs, Same w L us fs → i + tot L p ≤ w.length → sgo w L p i fs = some (mgo w L p i us) := by
 induction p with
 | nil => intro i us fs _ _; rfl
 | cons x p ih =>
  intro i us fs hS ht; obtain ⟨hl, hf, hS⟩ := hS; have hx := hp x (List.mem_cons_self ..); have hx' : x.toNat < L.length := by omega
  have ih := ih (fun y hy => hp y (List.mem_cons_of_mem _ hy)); simp only [tot] at ht; simp only [sgo, mgo]; have h1 := hS x.toNat hx'; have hn : ¬ w.length < i + (L.getD x.toNat 0).toNat := by omega
  rw [_root_.if_neg hn, _root_.if_neg hn]; cases hu : us.getD x.toNat none with
  | none =>
   rw [hu] at h1; simp only at h1 ⊢; rw [_root_.if_pos h1]; refine ih _ _ _ ⟨by rw [List.length_set]; exact hl, by rw [List.length_set]; exact hf, fun j hj => ?_⟩ (by omega); have h2 := hS j hj; by_cases e : x.toNat = j
   ·subst e; have e1 : ∀ V, (us.set x.toNat (some V)).getD x.toNat none = some V := fun V => by rw [List.getD_eq_getElem?_getD, List.getElem?_set_self (by omega)]; rfl
    have e2 : (fs.set x.toNat (i : Int)).getD x.toNat 0 = (i : Int) := by rw [List.getD_eq_getElem?_getD, List.getElem?_set_self (by omega)]; rfl
    rw [e1, e2]; simp only [Int.toNat_natCast]; exact ⟨by omega, by omega, trivial⟩
   ·have e1 : ∀ V, (us.set x.toNat (some V)).getD j none = us.getD j none := fun V => by rw [List.getD_eq_getElem?_getD, List.getElem?_set_ne e, ← List.getD_eq_getElem?_getD]
    have e2 : (fs.set x.toNat (i : Int)).getD j 0 = fs.getD j 0 := by rw [List.getD_eq_getElem?_getD, List.getElem?_set_ne e, ← List.getD_eq_getElem?_getD]
    rw [e1, e2]; exact h2
  | some u =>
   rw [hu] at h1; simp only at h1 ⊢; obtain ⟨h2, h3, h4⟩ := h1; rw [_root_.if_neg (show ¬ fs.getD x.toNat 0 < 0 by omega), _root_.if_neg (show ¬ w.length < (fs.getD x.toNat 0).toNat + (L.getD x.toNat 0).toNat by omega), ← h4]; by_cases e : u = (w.take (i + (L.getD x.toNat 0).toNat)).drop i
   ·rw [_root_.if_pos e, _root_.if_pos e]; exact ih _ _ _ ⟨hl, hf, hS⟩ (by omega)
   ·rw [_root_.if_neg e, _root_.if_neg e]
theorem mAt_len {w p L : List Int} {at_ : Nat} (h : mAt w p at_ L = true) : okL p L = true ∧ at_ + tot L p ≤ w.length := by
 unfold mAt at h; rw [Bool.and_eq_true, Bool.and_eq_true] at h; obtain ⟨h1, h2, h3⟩ := h; have h2 := of_decide_eq_true h2; refine ⟨h1, ?_⟩; apply Nat.le_of_not_lt; intro q; rw [mgo_long w L p at_ _ h2 q] at h3; cases h3
theorem implMatchAt_ev (w p : List Int) (at_ : Nat) (L : List Int) (hw : w.length ≤ 1000000) (hp : p.length ≤ 1048576) (hL : L.length ≤ 1048576) : Ev (fun k => impl_MatchAt.f k w p (at_ : Int) L) (mAt w p at_ L) := by
 unfold impl_MatchAt.f mAt; refine Ev.bind (implLengths_ev p L hp hL) ?_; by_cases h : okL p L = true
 ·obtain ⟨h1, h2, h3, h4⟩ := okL_at h; rw [h, Bool.true_and]; by_cases h5 : at_ ≤ w.length
  ·rw [decide_eq_true h5, Bool.true_and]; have hok : matOk w p L := ⟨fun x hx => ⟨(h4 x hx).1, (h4 x hx).2.1⟩, h3, hw, by have := (isPat_nl h1).2.1; omega, by have := (isPat_nl h1).2.2.1; omega⟩; refine Ev.if_pos ⟨rfl, by omega, by omega⟩ (Ev.if_pos hok ?_); rw [Int.toNat_natCast]; exact Ev.some _
  ·rw [decide_eq_false h5, Bool.false_and]; exact Ev.if_neg (fun q => h5 (by omega)) (Ev.some _)
 ·rw [Bool.eq_false_iff.2 h, Bool.false_and]; exact Ev.if_neg (by simp) (Ev.some _)
theorem specMatchAt_ev (w p : List Int) (at_ : Nat) (L : List Int) (hw : w.length ≤ 1000000) (hp : p.length ≤ 1048576) (hL : L.length ≤ 1048576) : Ev (fun k => spec_MatchAt.f k w p (at_ : Int) L) (mAt w p at_ L) := by
 unfold spec_MatchAt.f; refine Ev.bind (specMatchLength_ev p L hp hL) ?_; by_cases h : okL p L = true
 ·rw [_root_.if_pos h]; obtain ⟨h1, h2, h3, h4⟩ := okL_at h; have h6 := (isPat_nl h1).2.1; have h7 := (tot_le L h3 p (fun y hy => ⟨(h4 y hy).1, (h4 y hy).2.1⟩)).2; by_cases h5 : at_ ≤ w.length
  ·refine Ev.if_neg (by omega) (Ev.if_neg (fun q => q ⟨hw, by omega⟩) ?_); unfold mAt; rw [h, decide_eq_true h5, Bool.true_and, Bool.true_and]; by_cases h8 : w.length < at_ + tot L p
   ·rw [mgo_long w L p at_ _ h5 h8]; exact Ev.if_pos (by omega) (Ev.some _)
   ·have hok : smatOk w p L := ⟨h4, h3, hw, by omega, by have := (isPat_nl h1).2.2.1; omega⟩; refine Ev.if_neg (by omega) (Ev.if_pos hok ?_); rw [Int.toNat_natCast, sgo_mgo w L p h4 at_ (List.replicate L.length none) [-1, -1, -1] ⟨List.length_replicate, rfl, fun j hj => ?_⟩ (by omega)]
    ·exact Ev.some _
    ·rw [List.getD_eq_getElem?_getD]; have hj3 : j < 3 := by have := (isPat_nl h1).2.2.1; omega
     simp only [List.getElem?_replicate, hj, if_true, Option.getD_some]; rcases j with _ | _ | _ | j
     ·decide
     ·decide
     ·decide
     ·omega
  ·unfold mAt; rw [decide_eq_false h5, Bool.false_and, Bool.and_false]; exact Ev.if_pos (by omega) (Ev.some _)
 ·rw [_root_.if_neg h]; unfold mAt; rw [Bool.eq_false_iff.2 h, Bool.false_and]; exact Ev.if_pos (by omega) (Ev.some _)
/-- The first of the lists that begin as pre, go on with a number from a to K and d more from 1 to K, at which F tells something. -/
def srch (K : Nat) (F : List Int → Option (List Int)) : Nat → List Int → Nat → Option (List Int)
 | 0, pre, a => (List.range' a (K + 1 - a)).findSome? fun (j : Nat) => F (pre ++ [(j : Int)])
 | d + 1, pre, a => (List.range' a (K + 1 - a)).findSome? fun (j : Nat) => srch K F d (pre ++ [(j : Int)]) 1
def inner (K : Nat) (F : List Int → Option (List Int)) : Nat → List Int → Nat → Option (List Int)
 | 0, pre, j => F (pre ++ [(j : Int)])
 | d + 1, pre, j => srch K F d (pre ++ [(j : Int)]) 1
theorem srch_def (K : Nat) (F : List Int → Option (List Int)) (d : Nat) (pre : List Int) (a : Nat) : srch K F d pre a = (List.range' a (K + 1 - a)).findSome? (inner K F d pre) := by cases d <;> rfl
theorem srch_end (K : Nat) (F : List Int → Option (List Int)) (d : Nat) (pre : List Int) (a : Nat) (h : K < a) : srch K F d pre a = none := by
 rw [srch_def, show K + 1 - a = 0 from by omega]; rfl
theorem srch_step (K : Nat) (F : List Int → Option (List Int)) (d : Nat) (pre : List Int) (a : Nat) (h : a ≤ K) : srch K F d pre a = (inner K F d pre a).or (srch K F d pre (a + 1)) := by
 rw [srch_def, srch_def, show K + 1 - a = (K + 1 - (a + 1)) + 1 from by omega, List.range'_succ, List.findSome?_cons]; cases inner K F d pre a <;> rfl
theorem srch_some (K : Nat) (F : List Int → Option (List Int)) : ∀ d pre a, (srch K F d pre a).isSome = true ↔ ∃ (j : Nat) (s : List Int), a ≤ j ∧ j ≤ K ∧ s.length = d ∧ (∀ y ∈ s, 1 ≤ y ∧ y ≤ (K : Int)) ∧ (F (pre ++ (j : Int) :: s)).isSome = true := by
 intro d
 induction d with
 | zero =>
  intro pre a; rw [srch_def, List.findSome?_isSome_iff]; constructor
  ·rintro ⟨j, hj, h⟩; rw [List.mem_range'_1] at hj; exact ⟨j, [], hj.1, by omega, rfl, by simp, h⟩
  ·rintro ⟨j, s, h1, h2, h3, _, h4⟩; obtain rfl := List.length_eq_zero_iff.1 h3; exact ⟨j, by rw [List.mem_range'_1]; omega, h4⟩
 | succ d ih =>
  intro pre a; rw [srch_def, List.findSome?_isSome_iff]; constructor
  ·rintro ⟨j, hj, h⟩; rw [List.mem_range'_1] at hj; obtain ⟨i, s, h1, h2, h3, h4, h5⟩ := (ih _ _).1 h; refine ⟨j, (i : Int) :: s, hj.1, by omega, by simp [h3], fun y hy => ?_, by simpa using h5⟩; rcases List.mem_cons.1 hy with rfl | hy
   ·omega
   ·exact h4 y hy
  ·rintro ⟨j, s, h1, h2, h3, h4, h5⟩; cases s with
   | nil => simp at h3
   | cons i s =>
    have hi := h4 i (List.mem_cons_self ..); refine ⟨j, by rw [List.mem_range'_1]; omega, (ih _ _).2 ⟨i.toNat, s, by omega, by omega, by simpa using h3, fun y hy => h4 y (List.mem_cons_of_mem _ hy), ?_⟩⟩; rw [show ((i.toNat : Nat) : Int) = i from by omega]; simpa using h5
end Go.Proofs.YtdekenijnbhpfaaDoor.M
namespace Go.Proofs.YtdekenijnbhpfaaDoor.M
open Go.RowKit Go.Proofs.YtdekenijnbhpfaaDoor.KW Go.Proofs.YtdekenijnbhpfaaDoorW.PrintWords Go.Proofs.YtdekenijnbhpfaaDoorW.PrintLast Go.Proofs.YtdekenijnbhpfaaDoorW.PrintMore
attribute [local go_sem] max2_int min2_int max_two min_two max_three min_three max_four min_four
set_option linter.unusedVariables false
set_option linter.unusedSimpArgs false
def slices_Clone_int_int.f (l0 : List Int) : Option (List Int) := if l0.length < 17592186044416 then some l0 else none
set_option maxHeartbeats 1000000 in
set_option maxRecDepth 100000 in
theorem slices_Clone_int_int.calls (A0 : Option Addr) (c0 : Nat) (l0 : List Int) (r : List Int) (w : World) (hr0 : Kd.C (Kd.int .i64) w A0 l0.length l0) (hc0 : l0.length ≤ c0) (h : slices_Clone_int_int.f l0 = some r) :
  Calls Tryd.prog 126 #[.slice A0 l0.length c0] w fun e w' => ∃ v0_ : Value, e = .returned (v0_) ∧ Kd.R (Kd.int .i64) 3 w' w.heap.size (fun _ => True) v0_ r ∧ Below w.heap.size w w' := by
 unfold slices_Clone_int_int.f at h; split at h
 case isFalse => cases h
 rename_i hlen; obtain rfl := Option.some.inj h; clear h; have HLEN := Aside0.mk hlen; have HC := Aside0.mk hr0; have Hc := Aside0.mk hc0; clear hlen hr0 hc0; cases A0 with
 | none =>
  have e : l0 = [] := by
   cases l0 with
   | nil => rfl
   | cons x l =>
    obtain ⟨ad, he, _⟩ := Kd.at_int HC.out 0 (by omega) (by simp only [List.length_cons]; omega); cases he
  subst e; have hnil : ∀ W : World, (binOp .eql 22 (.slice none 0 c0) (.slice none 0 0)).run Tryd.prog W = .ok (.bool true) W := fun W => by kernel_rfl
  go_enter Tryd.func126, Tryd.ntmps126; go_wp2_with fail; go_ret; exact ⟨_, rfl, Kd.R_nil _ _ _ _ _, Below.refl _ _⟩
 | some a =>
  have hnil : ∀ W : World, (binOp .eql 22 (.slice (some a) l0.length c0) (.slice none 0 0)).run Tryd.prog W = .ok (.bool false) W := fun W => by kernel_rfl
  go_enter Tryd.func126, Tryd.ntmps126; go_wp2_with ((with_reducible refine gate_dst (N := 5) rfl ?_); refine Aside0.out ?_); refine Aside0.mk ?_; refine Kd.R_lit (Kd.int .i64) _ 3 ?hg (N := 5) ?hd (xs := ([] : List Int)) (inner := []) (ok := fun _ => True) (okp := fun _ => True) ?hr ?hp (fun _ hk => hk) trivial (Below.refl _ _) (Nat.le_refl _) (by simp) ?_
  case hd => rfl
  case hg => rfl
  case hr => first | (go_simp; done) | (go_simp; rfl)
  case hp => exact (Reps.none _ _)
  intro v5 w1 ho1 hb1 _ _; have HO1 := Aside0.mk ho1; have HB1 := Aside0.mk hb1; clear ho1 hb1; go_wp2_with ((with_reducible refine gate_builtin (b := .append) (xs := #[.tmp 5, .tmp 6]) rfl ?_); refine Aside0.out ?_); refine Aside0.mk ?_
  at_builtin
  refine Kd.R_append_rows (Kd.int .i64) (Rr := (Kd.int .i64).K w1) (w0 := w) w.heap.size rfl (.tmp 5) (.tmp 6) 22 3 (.int .i64 0) 8 rfl Tryd.underlying22 info3 rfl (by decide) (by omega) v5 [] l0 (some a) _ c0 (fun _ => True) (fun _ => False) rfl rfl HO1.out ?aR (fun _ _ h => h) (fun _ hk => hk.elim) (fun _ _ => trivial) HB1.out HB1.out.size ?aL ?_
  case aR => exact Kd.C_below HC.out HB1.out
  case aL => have := HLEN.out; simp only [List.length_nil]; omega
  intro v7 w2 ho2 hb2 _ _; rw [List.nil_append] at ho2; have HO2 := Aside0.mk ho2; have HB2 := Aside0.mk hb2; clear ho2 hb2 HO1 HB1; go_wp2_with fail; go_ret; exact ⟨_, rfl, HO2.out, HB2.out⟩
mutual
def impl_matchLengths.l0 : Nat → List Int → List Int → Int → List Int → Int → Option (List Int × Bool)
 | 0, _, _, _, _, _ => none
 | k + 1, x0, x1, x2, x3, x10 => if (wrap64 (x2 + x10)) ≤ (x0.length : Int) then ((slices_Clone_int_int.f x3).bind fun t249 => (if t249.length < 17592186044416 then ((impl_matchLengths.f k x0 x1 x2 (t249 ++ [x10])).bind fun bt255 => (if bt255.2 = true then (some (bt255.1, true)) else (impl_matchLengths.l0 k x0 x1 x2 x3 (wrap64 (x10 + 1))))) else (none))) else (some (([] : List Int), false))
def impl_matchLengths.f : Nat → List Int → List Int → Int → List Int → Option (List Int × Bool)
 | 0, _, _, _, _ => none
 | k + 1, l0, l1, a2, l3 => (impl_patternLetters.f k l1).bind fun t247 => (if (l3.length : Int) = t247 then ((impl_MatchAt.f k l0 l1 a2 l3).bind fun t248 => (some (l3, t248))) else (impl_matchLengths.l0 k l0 l1 a2 l3 1))
end
set_option maxHeartbeats 8000000 in
set_option maxRecDepth 100000 in
theorem impl_matchLengths.calls (k : Nat) : ∀ (A0 : Option Addr) (c0 : Nat) (l0 : List Int) (A1 : Option Addr) (c1 : Nat) (l1 : List Int) (a2 : Int) (P3_ : Nat → Prop) (u9000_ : Value) (l3 : List Int) (r1 : List Int) (r2 : Bool) (w0 w : World) (hB : Below w0.heap.size w0 w) (hr0 : ∀ W_, Kept w W_ (fun k_ => P3_ k_) → Kd.C (Kd.int .i64) W_ A0 l0.length l0) (hc0 : l0.length ≤ c0) (hr1 : ∀ W_, Kept w W_ (fun k_ => P3_ k_) → Kd.C (Kd.int .i64) W_ A1 l1.length l1) (hc1 : l1.length ≤ c1) (ho3 : Kd.R (Kd.int .i64) 3 w w0.heap.size P3_ u9000_ l3) (h : impl_matchLengths.f k l0 l1 a2 l3 = some (r1, r2)),
  Calls Tryd.prog 160 #[.slice A0 l0.length c0, .slice A1 l1.length c1, .int .i64 a2, u9000_] w fun e w' => ∃ v0_ : Value, e = .returned (.tuple #[v0_, .bool r2]) ∧ Kd.R (Kd.int .i64) 3 w' w0.heap.size (fun k_ => (P3_ k_ ∨ w.heap.size ≤ k_)) v0_ r1 ∧ Below w0.heap.size w0 w' ∧ Kept w w' (fun k_ => P3_ k_) := by
 induction k using Nat.strongRecOn with
 | _ k ih =>
 intro A0 c0 l0 A1 c1 l1 a2 P3_ u9000_ l3 r1 r2 w0 w hB hr0 hc0 hr1 hc1 ho3 h; cases k with
 | zero => exact absurd h (by simp [impl_matchLengths.f])
 | succ k =>
 simp only [impl_matchLengths.f] at h; have HR0 := Aside0.mk hr0; have HC0 := Aside0.mk hc0; clear hr0 hc0; have HR1 := Aside0.mk hr1; have HC1 := Aside0.mk hc1; clear hr1 hc1; have HO3 := Aside0.mk (show Kd.R (Kd.int .i64) 3 w w0.heap.size (fun k_ => (P3_ k_ ∨ w.heap.size ≤ k_)) u9000_ l3 from Kd.R_mono ho3 (fun k_ hk => (.inl hk))); have HK := Aside0.mk (Kept.refl w (fun k_ => P3_ k_)); have HW0 := Aside0.mk hB.size; have HB := Aside0.mk hB; clear hB; have H : ((impl_patternLetters.f k l1).bind fun t247 => (if (l3.length : Int) = t247 then ((impl_MatchAt.f k l0 l1 a2 l3).bind fun t248 => (some (l3, t248))) else (impl_matchLengths.l0 k l0 l1 a2 l3 1))) = some (r1, r2) := h; clear h; replace H := Option.bind_eq_some_iff.mp H; obtain ⟨t247, A50, H⟩ := H; replace H : (if (l3.length : Int) = t247 then ((impl_MatchAt.f k l0 l1 a2 l3).bind fun t248 => (some (l3, t248))) else (impl_matchLengths.l0 k l0 l1 a2 l3 1)) = some (r1, r2) := H; have A5 := Aside0.mk A50; clear A50; by_cases c6 : (l3.length : Int) = t247
 ·rw [if_pos c6] at H; have c6b0 : ((l3.length : Int) == t247) = true := beq_iff_eq.mpr c6; have c6b1 : ((l3.length : Int) != t247) = false := bne_eq_false_iff_eq.mpr c6; clear c6; replace H := Option.bind_eq_some_iff.mp H; obtain ⟨t248, A70, H⟩ := H; replace H : (some (l3, t248)) = some (r1, r2) := H; have A7 := Aside0.mk A70; clear A70; simp only [Option.some.injEq, Prod.mk.injEq] at H; obtain ⟨rfl, rfl⟩ := H; obtain ⟨Ao8, co8, eo8⟩ := Kd.R_slice HO3.out; subst eo8; go_enter Tryd.func160, Tryd.ntmps160; go_wp2_with (first | ((with_reducible refine gate_callee (f := 94) rfl ?_); refine goesL_ (some 16) rfl rfl Tryd.func94 (by kernel_rfl) rfl #[.slice A1 l1.length c1] rfl (by (try simp only [List.map_toArray, List.map_cons, List.map_nil]); first | done | rfl | (simp only [List.length_drop, List.length_take]; rfl)) ?_; (with_reducible refine (impl_patternLetters.calls k _ _ l1 t247 _ ?side1 ?side2 A5.out).mono ?_); (case side1 => exact Kd.C_kept_now HR1.out (by repeat (first | (with_reducible first | exact HK.out | apply Kept.alloc | apply Kept.drewN | apply Kept.drew) | exact HK.out))); (case side2 => exact HC1.out); rintro e w' ⟨rfl, ⟨nd, rfl⟩⟩; refine ⟨_, rfl, ?_⟩) | ((with_reducible refine gate_callee (f := 176) rfl ?_); refine goesL_ (some 23) rfl rfl Tryd.func176 (by kernel_rfl) rfl #[.slice A0 l0.length c0, .slice A1 l1.length c1, .int .i64 a2, .slice Ao8 l3.length co8] rfl (by (try simp only [List.map_toArray, List.map_cons, List.map_nil]); first | done | rfl | (simp only [List.length_drop, List.length_take]; rfl)) ?_; (with_reducible refine (impl_MatchAt.calls k _ _ l0 _ _ l1 a2 _ _ l3 t248 _ ?side1 ?side2 ?side3 ?side4 ?side5 ?side6 A7.out).mono ?_); (case side1 => exact Kd.C_kept_now HR0.out (by repeat (first | (with_reducible first | exact HK.out | apply Kept.alloc | apply Kept.drewN | apply Kept.drew) | exact HK.out))); (case side2 => exact HC0.out); (case side3 => exact Kd.C_kept_now HR1.out (by repeat (first | (with_reducible first | exact HK.out | apply Kept.alloc | apply Kept.drewN | apply Kept.drew) | exact HK.out))); (case side4 => exact HC1.out); (case side5 => repeat (first | exact (Kd.R_reads' HO3.out).2.2 | (with_reducible refine Kd.C_alloc ?_ _) | (with_reducible refine Kd.C_drewN ?_ _) | (with_reducible refine Kd.C_drew ?_))); (case side6 => exact (Kd.R_reads' HO3.out).2.1); rintro e w9 ⟨rfl, hb⟩; refine ⟨_, rfl, ?_⟩; have n0_ := Aside0.mk (Kd.R_below (by (with_reducible repeat (first | apply Kd.R_alloc | apply Kd.R_drewN | apply Kd.R_drew)); exact HO3.out) hb); have n1_ := Aside0.mk (Kept.below (S := (fun k_ => P3_ k_)) (by repeat (first | (with_reducible first | exact HK.out | apply Kept.alloc | apply Kept.drewN | apply Kept.drew) | exact HK.out)) hb); have n2_ := Aside0.mk (below_step (by repeat (first | (with_reducible first | exact HB.out | apply below_alloc | apply pw_below_drewN | apply below_drew1) | exact HB.out)) hb); clear HO3; clear HK; clear HB; have HO3 := n0_; have HK := n1_; have HB := n2_; clear n0_ n1_ n2_; (try clear hb); (try clear hb2); (try clear hk); (try clear hi))); go_ret2; exact ⟨_, by first | rfl | (simp [errW_none, errW_some] <;> rfl) | (simp [*, errW_none, errW_some] <;> rfl), by (with_reducible repeat (first | apply Kd.R_alloc | apply Kd.R_drewN | apply Kd.R_drew)); exact HO3.out, by repeat (first | (with_reducible first | exact HB.out | apply below_alloc | apply pw_below_drewN | apply below_drew1) | exact HB.out), by repeat (first | (with_reducible first | exact HK.out | apply Kept.alloc | apply Kept.drewN | apply Kept.drew) | exact HK.out)⟩
 ·rw [if_neg c6] at H; have c6b0 : ((l3.length : Int) == t247) = false := beq_eq_false_iff_ne.mpr c6; have c6b1 : ((l3.length : Int) != t247) = true := bne_iff_ne.mpr c6; have H' := Aside0.mk H; clear H; obtain ⟨Ao10, co10, eo10⟩ := Kd.R_slice HO3.out; subst eo10; go_enter Tryd.func160, Tryd.ntmps160; go_wp2_with (first | ((with_reducible refine gate_callee (f := 94) rfl ?_); refine goesL_ (some 16) rfl rfl Tryd.func94 (by kernel_rfl) rfl #[.slice A1 l1.length c1] rfl (by (try simp only [List.map_toArray, List.map_cons, List.map_nil]); first | done | rfl | (simp only [List.length_drop, List.length_take]; rfl)) ?_; (with_reducible refine (impl_patternLetters.calls k _ _ l1 t247 _ ?side1 ?side2 A5.out).mono ?_); (case side1 => exact Kd.C_kept_now HR1.out (by repeat (first | (with_reducible first | exact HK.out | apply Kept.alloc | apply Kept.drewN | apply Kept.drew) | exact HK.out))); (case side2 => exact HC1.out); rintro e w' ⟨rfl, ⟨nd, rfl⟩⟩; refine ⟨_, rfl, ?_⟩)); go_loopg [10] k (fun kq v10 w' => ∃ (x10_1 : Int), v10 = .int .i64 x10_1 ∧ Aside0 (impl_matchLengths.l0 kq l0 l1 a2 l3 x10_1 = some (r1, r2)) ∧ Aside0 (kq ≤ k) ∧ Aside0 (Kd.R (Kd.int .i64) 3 w' w0.heap.size (fun k_ => (P3_ k_ ∨ w.heap.size ≤ k_)) (.slice Ao10 l3.length co10) l3) ∧ Aside0 (Kept w w' (fun k_ => P3_ k_)) ∧ Aside0 (Below w0.heap.size w0 w'))
  case atStart => exact ⟨(1), (by first | rfl | (simp; done) | (simp [*]; done)), H', ⟨Nat.le_refl _⟩, ⟨by (with_reducible repeat (first | apply Kd.R_alloc | apply Kd.R_drewN | apply Kd.R_drew)); exact HO3.out⟩, ⟨by repeat (first | (with_reducible first | exact HK.out | apply Kept.alloc | apply Kept.drewN | apply Kept.drew) | exact HK.out)⟩, ⟨by repeat (first | (with_reducible first | exact HB.out | apply below_alloc | apply pw_below_drewN | apply below_drew1) | exact HB.out)⟩⟩
  case round =>
   clear H'
   try clear c1
   try clear p2
   try clear c6
   try clear c6b0
   try clear c6b1
   try clear c9
   obtain ⟨x10_1, rfl, HA, HK1, HO_3, HK, HB⟩ := hrel; cases gk with
   | zero => exact absurd HA.out (by simp [impl_matchLengths.l0])
   | succ k1 =>
    have H := HA.out; clear HA; simp only [impl_matchLengths.l0] at H; by_cases c11 : (wrap64 (a2 + x10_1)) ≤ (l0.length : Int)
    ·rw [if_pos c11] at H; have c11b0 : decide ((wrap64 (a2 + x10_1)) ≤ (l0.length : Int)) = true := decide_eq_true c11; clear c11; replace H := Option.bind_eq_some_iff.mp H; obtain ⟨t249, A120, H⟩ := H; replace H : (if t249.length < 17592186044416 then ((impl_matchLengths.f k1 l0 l1 a2 (t249 ++ [x10_1])).bind fun bt255 => (if bt255.2 = true then (some (bt255.1, true)) else (impl_matchLengths.l0 k1 l0 l1 a2 l3 (wrap64 (x10_1 + 1))))) else (none)) = some (r1, r2) := H; have A12 := Aside0.mk A120; clear A120; by_cases c13 : t249.length < 17592186044416
     ·rw [if_pos c13] at H; have LMc13 := Aside0.mk c13; clear c13; obtain ⟨y252, hy252⟩ : ∃ y_ : List Int, y_ = (t249 ++ [x10_1]) := ⟨_, rfl⟩; replace H : ((impl_matchLengths.f k1 l0 l1 a2 y252).bind fun bt255 => (if bt255.2 = true then (some (bt255.1, true)) else (impl_matchLengths.l0 k1 l0 l1 a2 l3 (wrap64 (x10_1 + 1))))) = some (r1, r2) := by first | (rw [hy252]; with_reducible exact H) | (have H2_ := (Option.bind_some _ _).symm.trans H; rw [hy252]; with_reducible exact H2_) | (have H2_ := (Option.bind_some _ _).symm.trans H; with_reducible exact H2_) | with_reducible exact H | (rw [hy252]; exact H) | exact H
      have Ny252 := Aside0.mk hy252; clear hy252; replace H := Option.bind_eq_some_iff.mp H; obtain ⟨⟨t255, t258⟩, A140, H⟩ := H; replace H : (if t258 = true then (some (t255, true)) else (impl_matchLengths.l0 k1 l0 l1 a2 l3 (wrap64 (x10_1 + 1)))) = some (r1, r2) := H; have A14 := Aside0.mk A140; clear A140; by_cases c15 : t258 = true
      ·subst c15; have H1 : (some (t255, true)) = some (r1, r2) := by rw [if_pos rfl] at H; exact H
       clear H; have H := H1; clear H1; simp only [Option.some.injEq, Prod.mk.injEq] at H; obtain ⟨rfl, rfl⟩ := H; go_wp2_with (first | ((with_reducible refine gate_callee (f := 126) rfl ?_); refine goesL_ (some 37) rfl rfl Tryd.func126 (by kernel_rfl) rfl #[.slice Ao10 l3.length co10] rfl (by (try simp only [List.map_toArray, List.map_cons, List.map_nil]); first | done | rfl | (simp only [List.length_drop, List.length_take]; rfl)) ?_; (with_reducible refine (slices_Clone_int_int.calls _ _ l3 t249 _ ?side1 ?side2 A12.out).mono ?_); (case side1 => repeat (first | exact (Kd.R_reads' HO_3.out).2.2 | (with_reducible refine Kd.C_alloc ?_ _) | (with_reducible refine Kd.C_drewN ?_ _) | (with_reducible refine Kd.C_drew ?_))); (case side2 => exact (Kd.R_reads' HO_3.out).2.1); rintro e w16 ⟨v250, rfl, ho0, hb⟩; refine ⟨_, rfl, ?_⟩; have n0_ := Aside0.mk (Kd.R_elder' (by (with_reducible repeat (first | apply Kd.R_alloc | apply Kd.R_drewN | apply Kd.R_drew)); exact HO_3.out) (Kd.R_base ho0) hb); have n1_ := Aside0.mk (Kd.R_lower (Kd.R_new' (Kd.R_newM (M := fun k_ => (P3_ k_ ∨ w.heap.size ≤ k_)) ho0 (by first | exact HK.out.1 | exact (show Kept w _ (fun k_ => P3_ k_) from by repeat (first | (with_reducible first | exact HK.out | apply Kept.alloc | apply Kept.drewN | apply Kept.drew) | exact HK.out)).1) (fun k_ h_ => .inr h_)) (Kd.R_lt (by (with_reducible repeat (first | apply Kd.R_alloc | apply Kd.R_drewN | apply Kd.R_drew)); exact HO_3.out))) (below_size (by repeat (first | (with_reducible first | exact HB.out | apply below_alloc | apply pw_below_drewN | apply below_drew1) | exact HB.out)))); have n2_ := Aside0.mk (Kept.below (S := (fun k_ => P3_ k_)) (by repeat (first | (with_reducible first | exact HK.out | apply Kept.alloc | apply Kept.drewN | apply Kept.drew) | exact HK.out)) hb); have n3_ := Aside0.mk (below_step (by repeat (first | (with_reducible first | exact HB.out | apply below_alloc | apply pw_below_drewN | apply below_drew1) | exact HB.out)) hb); clear HO_3; clear HK; clear HB; have HO_3 := n0_; have HO251 := n1_; have HK := n2_; have HB := n3_; clear n0_ n1_ n2_ n3_; (try clear hb); (try clear hb2); (try clear hk); (try clear hi); (try clear ho0)) | ((with_reducible refine gate_builtin (b := .append) (xs := #[.tmp 37, .tmp 39]) rfl ?_); at_builtin; refine Kd.R_append (Kd.int .i64) (w0 := w0) w0.heap.size rfl (.tmp 37) (.tmp 39) 22 3 (.int .i64 0) 8 rfl Tryd.underlying22 info3 rfl (by decide) (by omega) v250 t249 x10_1 [.int .i64 x10_1] (fun k_ => (P3_ k_ ∨ w.heap.size ≤ k_) ∧ some k_ ≠ (.slice Ao10 l3.length co10 : Value).ownBlock) (fun _ => False) rfl rfl ?aP (fun _ hk => hk.elim) ?aF ?aO ?aB ?aS ?aL ?_; (case aP => exact rfl); (case aB => exact (by repeat (first | (with_reducible first | exact HB.out | apply below_alloc | apply pw_below_drewN | apply below_drew1) | exact HB.out))); (case aF => exact (fun k_ hk => ⟨(.inr (Nat.le_trans (by first | exact HK.out.1 | exact (show Kept w _ (fun k_ => P3_ k_) from by repeat (first | (with_reducible first | exact HK.out | apply Kept.alloc | apply Kept.drewN | apply Kept.drew) | exact HK.out)).1) hk)), Kd.fresh' (Kd.R_lt (by (with_reducible repeat (first | apply Kd.R_alloc | apply Kd.R_drewN | apply Kd.R_drew)); exact HO_3.out)) k_ hk⟩)); (case aO => exact (by (with_reducible repeat (first | apply Kd.R_alloc | apply Kd.R_drewN | apply Kd.R_drew)); exact Kd.R_mono HO251.out (fun _ hk => ⟨hk.1.1, hk.2⟩))); (case aS => exact (below_size (by repeat (first | (with_reducible first | exact HB.out | apply below_alloc | apply pw_below_drewN | apply below_drew1) | exact HB.out)))); (case aL => have := LMc13.out; omega); intro v253 w17 ho hb hg hat; rw [← Ny252.out] at ho; have n0_ := Aside0.mk (Kd.R_after (ok := (fun k_ => (P3_ k_ ∨ w.heap.size ≤ k_))) (by (with_reducible repeat (first | apply Kd.R_alloc | apply Kd.R_drewN | apply Kd.R_drew)); exact HO_3.out) hg hat); have n1_ := Aside0.mk (hb); have n2_ := Aside0.mk (Kept.of_grown (S := (fun k_ => P3_ k_)) hg (by repeat (first | (with_reducible first | exact HK.out | apply Kept.alloc | apply Kept.drewN | apply Kept.drew) | exact HK.out)) (fun k_ e_ => (HO251.out.1 k_ e_).1.1)); have n3_ := Aside0.mk (ho); clear HO_3; clear HB; clear HK; clear HO251; have HO_3 := n0_; have HB := n1_; have HK := n2_; have HO254 := n3_; clear n0_ n1_ n2_ n3_; clear ho hb hg hat; obtain ⟨Ao18, co18, eo18⟩ := Kd.R_slice HO254.out; subst eo18) | ((with_reducible refine gate_callee (f := 160) rfl ?_); refine goesL_ (some 41) rfl rfl Tryd.func160 (by kernel_rfl) rfl #[.slice A0 l0.length c0, .slice A1 l1.length c1, .int .i64 a2, .slice Ao18 y252.length co18] rfl (by (try simp only [List.map_toArray, List.map_cons, List.map_nil]); first | done | rfl | (simp only [List.length_drop, List.length_take]; rfl)) ?_; (with_reducible refine (ih k1 (by have := HK1.out; omega) _ _ l0 _ _ l1 a2 (fun k_ => some k_ = (.slice Ao18 y252.length co18 : Value).ownBlock) (.slice Ao18 y252.length co18) y252 t255 true w0 _ ?side1 ?side2 ?side3 ?side4 ?side5 ?side6 A14.out).mono ?_); (case side1 => repeat (first | (with_reducible first | exact HB.out | apply below_alloc | apply pw_below_drewN | apply below_drew1) | exact HB.out)); (case side2 => exact Kd.C_kept_call HR0.out (by repeat (first | (with_reducible first | exact HK.out | apply Kept.alloc | apply Kept.drewN | apply Kept.drew) | exact HK.out)) (fun k_ hs_ => (fun e_ => (HO254.out.1 k_ e_.symm).1) hs_)); (case side3 => exact HC0.out); (case side4 => exact Kd.C_kept_call HR1.out (by repeat (first | (with_reducible first | exact HK.out | apply Kept.alloc | apply Kept.drewN | apply Kept.drew) | exact HK.out)) (fun k_ hs_ => (fun e_ => (HO254.out.1 k_ e_.symm).1) hs_)); (case side5 => exact HC1.out); (case side6 => exact Kd.R_tight rfl HO254.out); rintro e w19 ⟨v256, rfl, ho0, hb, hkp⟩; refine ⟨_, rfl, ?_⟩; have n0_ := Aside0.mk (Kd.R_mono (ok' := fun k_ => (P3_ k_ ∨ w.heap.size ≤ k_) ∧ some k_ ≠ (v256 : Value).ownBlock) (Kd.R_keptB (HO_3.out) hkp (fun k_ hk_ hs_ => (hk_.2) hs_)) (fun k_ hk_ => ⟨hk_.1.1, fun e_ => Or.elim (ho0.1 k_ e_.symm) (fun hs_ => hk_.2.1 hs_) (fun hn_ => Nat.not_le.2 hk_.2.2 hn_)⟩)); have n1_ := Aside0.mk (Kd.R_mono (ok' := fun k_ => (P3_ k_ ∨ w.heap.size ≤ k_) ∧ some k_ ≠ (.slice Ao10 l3.length co10 : Value).ownBlock) ho0 (fun k_ hk_ => ⟨Or.elim hk_ (fun hs_ => (HO254.out.1 k_ (hs_).symm).1) (fun hn_ => (.inr (Nat.le_trans (by first | exact HK.out.1 | exact (show Kept w _ (fun k_ => P3_ k_) from by repeat (first | (with_reducible first | exact HK.out | apply Kept.alloc | apply Kept.drewN | apply Kept.drew) | exact HK.out)).1) hn_))), Or.elim hk_ (fun hs_ => fun e_ => (((HO_3.out).1 k_ e_.symm).2) hs_) (fun hn_ => (Kd.fresh' (Kd.R_lt (by (with_reducible repeat (first | apply Kd.R_alloc | apply Kd.R_drewN | apply Kd.R_drew)); exact HO_3.out)) k_ hn_))⟩)); have n2_ := Aside0.mk (Kept.then_ (S := (fun k_ => P3_ k_)) (by repeat (first | (with_reducible first | exact HK.out | apply Kept.alloc | apply Kept.drewN | apply Kept.drew) | exact HK.out)) hkp (fun k_ hs_ => (fun e_ => (HO254.out.1 k_ e_.symm).1) hs_)); have n3_ := Aside0.mk (hb); clear HO_3; clear HK; clear HB; clear HO254; have HO_3 := n0_; have HO257 := n1_; have HK := n2_; have HB := n3_; clear n0_ n1_ n2_ n3_; (try clear hb); (try clear hkp); (try clear ho0))); go_ret2; exact ⟨_, by first | rfl | (simp [errW_none, errW_some] <;> rfl) | (simp [*, errW_none, errW_some] <;> rfl), by (with_reducible repeat (first | apply Kd.R_alloc | apply Kd.R_drewN | apply Kd.R_drew)); exact Kd.R_mono HO257.out (fun _ hk => hk.1), by repeat (first | (with_reducible first | exact HB.out | apply below_alloc | apply pw_below_drewN | apply below_drew1) | exact HB.out), by repeat (first | (with_reducible first | exact HK.out | apply Kept.alloc | apply Kept.drewN | apply Kept.drew) | exact HK.out)⟩
      ·replace c15 := Bool.eq_false_iff.mpr c15; subst c15; have H1 : (impl_matchLengths.l0 k1 l0 l1 a2 l3 (wrap64 (x10_1 + 1))) = some (r1, r2) := by rw [if_neg (show ¬ (false = true) by decide)] at H; exact H
       clear H; have H := H1; clear H1; have H' := Aside0.mk H; clear H; go_wp2_with (first | ((with_reducible refine gate_callee (f := 126) rfl ?_); refine goesL_ (some 37) rfl rfl Tryd.func126 (by kernel_rfl) rfl #[.slice Ao10 l3.length co10] rfl (by (try simp only [List.map_toArray, List.map_cons, List.map_nil]); first | done | rfl | (simp only [List.length_drop, List.length_take]; rfl)) ?_; (with_reducible refine (slices_Clone_int_int.calls _ _ l3 t249 _ ?side1 ?side2 A12.out).mono ?_); (case side1 => repeat (first | exact (Kd.R_reads' HO_3.out).2.2 | (with_reducible refine Kd.C_alloc ?_ _) | (with_reducible refine Kd.C_drewN ?_ _) | (with_reducible refine Kd.C_drew ?_))); (case side2 => exact (Kd.R_reads' HO_3.out).2.1); rintro e w20 ⟨v250, rfl, ho0, hb⟩; refine ⟨_, rfl, ?_⟩; have n0_ := Aside0.mk (Kd.R_elder' (by (with_reducible repeat (first | apply Kd.R_alloc | apply Kd.R_drewN | apply Kd.R_drew)); exact HO_3.out) (Kd.R_base ho0) hb); have n1_ := Aside0.mk (Kd.R_lower (Kd.R_new' (Kd.R_newM (M := fun k_ => (P3_ k_ ∨ w.heap.size ≤ k_)) ho0 (by first | exact HK.out.1 | exact (show Kept w _ (fun k_ => P3_ k_) from by repeat (first | (with_reducible first | exact HK.out | apply Kept.alloc | apply Kept.drewN | apply Kept.drew) | exact HK.out)).1) (fun k_ h_ => .inr h_)) (Kd.R_lt (by (with_reducible repeat (first | apply Kd.R_alloc | apply Kd.R_drewN | apply Kd.R_drew)); exact HO_3.out))) (below_size (by repeat (first | (with_reducible first | exact HB.out | apply below_alloc | apply pw_below_drewN | apply below_drew1) | exact HB.out)))); have n2_ := Aside0.mk (Kept.below (S := (fun k_ => P3_ k_)) (by repeat (first | (with_reducible first | exact HK.out | apply Kept.alloc | apply Kept.drewN | apply Kept.drew) | exact HK.out)) hb); have n3_ := Aside0.mk (below_step (by repeat (first | (with_reducible first | exact HB.out | apply below_alloc | apply pw_below_drewN | apply below_drew1) | exact HB.out)) hb); clear HO_3; clear HK; clear HB; have HO_3 := n0_; have HO251 := n1_; have HK := n2_; have HB := n3_; clear n0_ n1_ n2_ n3_; (try clear hb); (try clear hb2); (try clear hk); (try clear hi); (try clear ho0)) | ((with_reducible refine gate_builtin (b := .append) (xs := #[.tmp 37, .tmp 39]) rfl ?_); at_builtin; refine Kd.R_append (Kd.int .i64) (w0 := w0) w0.heap.size rfl (.tmp 37) (.tmp 39) 22 3 (.int .i64 0) 8 rfl Tryd.underlying22 info3 rfl (by decide) (by omega) v250 t249 x10_1 [.int .i64 x10_1] (fun k_ => (P3_ k_ ∨ w.heap.size ≤ k_) ∧ some k_ ≠ (.slice Ao10 l3.length co10 : Value).ownBlock) (fun _ => False) rfl rfl ?aP (fun _ hk => hk.elim) ?aF ?aO ?aB ?aS ?aL ?_; (case aP => exact rfl); (case aB => exact (by repeat (first | (with_reducible first | exact HB.out | apply below_alloc | apply pw_below_drewN | apply below_drew1) | exact HB.out))); (case aF => exact (fun k_ hk => ⟨(.inr (Nat.le_trans (by first | exact HK.out.1 | exact (show Kept w _ (fun k_ => P3_ k_) from by repeat (first | (with_reducible first | exact HK.out | apply Kept.alloc | apply Kept.drewN | apply Kept.drew) | exact HK.out)).1) hk)), Kd.fresh' (Kd.R_lt (by (with_reducible repeat (first | apply Kd.R_alloc | apply Kd.R_drewN | apply Kd.R_drew)); exact HO_3.out)) k_ hk⟩)); (case aO => exact (by (with_reducible repeat (first | apply Kd.R_alloc | apply Kd.R_drewN | apply Kd.R_drew)); exact Kd.R_mono HO251.out (fun _ hk => ⟨hk.1.1, hk.2⟩))); (case aS => exact (below_size (by repeat (first | (with_reducible first | exact HB.out | apply below_alloc | apply pw_below_drewN | apply below_drew1) | exact HB.out)))); (case aL => have := LMc13.out; omega); intro v253 w21 ho hb hg hat; rw [← Ny252.out] at ho; have n0_ := Aside0.mk (Kd.R_after (ok := (fun k_ => (P3_ k_ ∨ w.heap.size ≤ k_))) (by (with_reducible repeat (first | apply Kd.R_alloc | apply Kd.R_drewN | apply Kd.R_drew)); exact HO_3.out) hg hat); have n1_ := Aside0.mk (hb); have n2_ := Aside0.mk (Kept.of_grown (S := (fun k_ => P3_ k_)) hg (by repeat (first | (with_reducible first | exact HK.out | apply Kept.alloc | apply Kept.drewN | apply Kept.drew) | exact HK.out)) (fun k_ e_ => (HO251.out.1 k_ e_).1.1)); have n3_ := Aside0.mk (ho); clear HO_3; clear HB; clear HK; clear HO251; have HO_3 := n0_; have HB := n1_; have HK := n2_; have HO254 := n3_; clear n0_ n1_ n2_ n3_; clear ho hb hg hat; obtain ⟨Ao22, co22, eo22⟩ := Kd.R_slice HO254.out; subst eo22) | ((with_reducible refine gate_callee (f := 160) rfl ?_); refine goesL_ (some 41) rfl rfl Tryd.func160 (by kernel_rfl) rfl #[.slice A0 l0.length c0, .slice A1 l1.length c1, .int .i64 a2, .slice Ao22 y252.length co22] rfl (by (try simp only [List.map_toArray, List.map_cons, List.map_nil]); first | done | rfl | (simp only [List.length_drop, List.length_take]; rfl)) ?_; (with_reducible refine (ih k1 (by have := HK1.out; omega) _ _ l0 _ _ l1 a2 (fun k_ => some k_ = (.slice Ao22 y252.length co22 : Value).ownBlock) (.slice Ao22 y252.length co22) y252 t255 false w0 _ ?side1 ?side2 ?side3 ?side4 ?side5 ?side6 A14.out).mono ?_); (case side1 => repeat (first | (with_reducible first | exact HB.out | apply below_alloc | apply pw_below_drewN | apply below_drew1) | exact HB.out)); (case side2 => exact Kd.C_kept_call HR0.out (by repeat (first | (with_reducible first | exact HK.out | apply Kept.alloc | apply Kept.drewN | apply Kept.drew) | exact HK.out)) (fun k_ hs_ => (fun e_ => (HO254.out.1 k_ e_.symm).1) hs_)); (case side3 => exact HC0.out); (case side4 => exact Kd.C_kept_call HR1.out (by repeat (first | (with_reducible first | exact HK.out | apply Kept.alloc | apply Kept.drewN | apply Kept.drew) | exact HK.out)) (fun k_ hs_ => (fun e_ => (HO254.out.1 k_ e_.symm).1) hs_)); (case side5 => exact HC1.out); (case side6 => exact Kd.R_tight rfl HO254.out); rintro e w23 ⟨v256, rfl, ho0, hb, hkp⟩; refine ⟨_, rfl, ?_⟩; have n0_ := Aside0.mk (Kd.R_mono (ok' := fun k_ => (P3_ k_ ∨ w.heap.size ≤ k_) ∧ some k_ ≠ (v256 : Value).ownBlock) (Kd.R_keptB (HO_3.out) hkp (fun k_ hk_ hs_ => (hk_.2) hs_)) (fun k_ hk_ => ⟨hk_.1.1, fun e_ => Or.elim (ho0.1 k_ e_.symm) (fun hs_ => hk_.2.1 hs_) (fun hn_ => Nat.not_le.2 hk_.2.2 hn_)⟩)); have n1_ := Aside0.mk (Kd.R_mono (ok' := fun k_ => (P3_ k_ ∨ w.heap.size ≤ k_) ∧ some k_ ≠ (.slice Ao10 l3.length co10 : Value).ownBlock) ho0 (fun k_ hk_ => ⟨Or.elim hk_ (fun hs_ => (HO254.out.1 k_ (hs_).symm).1) (fun hn_ => (.inr (Nat.le_trans (by first | exact HK.out.1 | exact (show Kept w _ (fun k_ => P3_ k_) from by repeat (first | (with_reducible first | exact HK.out | apply Kept.alloc | apply Kept.drewN | apply Kept.drew) | exact HK.out)).1) hn_))), Or.elim hk_ (fun hs_ => fun e_ => (((HO_3.out).1 k_ e_.symm).2) hs_) (fun hn_ => (Kd.fresh' (Kd.R_lt (by (with_reducible repeat (first | apply Kd.R_alloc | apply Kd.R_drewN | apply Kd.R_drew)); exact HO_3.out)) k_ hn_))⟩)); have n2_ := Aside0.mk (Kept.then_ (S := (fun k_ => P3_ k_)) (by repeat (first | (with_reducible first | exact HK.out | apply Kept.alloc | apply Kept.drewN | apply Kept.drew) | exact HK.out)) hkp (fun k_ hs_ => (fun e_ => (HO254.out.1 k_ e_.symm).1) hs_)); have n3_ := Aside0.mk (hb); clear HO_3; clear HK; clear HB; clear HO254; have HO_3 := n0_; have HO257 := n1_; have HK := n2_; have HB := n3_; clear n0_ n1_ n2_ n3_; (try clear hb); (try clear hkp); (try clear ho0))); go_roundg k1
       case measure => have := HK1.out; omega
       case rel => exact ⟨(wrap64 (x10_1 + 1)), (by first | rfl | (simp; done) | (simp [*]; done)), H', ⟨by have := HK1.out; omega⟩, ⟨by (with_reducible repeat (first | apply Kd.R_alloc | apply Kd.R_drewN | apply Kd.R_drew)); exact Kd.R_mono HO_3.out (fun _ hk => hk.1)⟩, ⟨by repeat (first | (with_reducible first | exact HK.out | apply Kept.alloc | apply Kept.drewN | apply Kept.drew) | exact HK.out)⟩, ⟨by repeat (first | (with_reducible first | exact HB.out | apply below_alloc | apply pw_below_drewN | apply below_drew1) | exact HB.out)⟩⟩
     ·rw [if_neg c13] at H; exact absurd H (by simp)
    ·rw [if_neg c11] at H; have c11b0 : decide ((wrap64 (a2 + x10_1)) ≤ (l0.length : Int)) = false := decide_eq_false c11; clear c11; simp only [Option.some.injEq, Prod.mk.injEq] at H; obtain ⟨rfl, rfl⟩ := H; go_wp2; go_ret2; exact ⟨_, by first | rfl | (simp [errW_none, errW_some] <;> rfl) | (simp [*, errW_none, errW_some] <;> rfl), by first | exact Kd.R_nil _ _ _ _ _ | exact Kd.N_nil _ _ _ _ _ | exact Kd.V_nil _ _ _ _ _ | exact Kd.Q_nil _ _ _ _ _ | exact Kd.S_nil _ _ _ _ _, by repeat (first | (with_reducible first | exact HB.out | apply below_alloc | apply pw_below_drewN | apply below_drew1) | exact HB.out), by repeat (first | (with_reducible first | exact HK.out | apply Kept.alloc | apply Kept.drewN | apply Kept.drew) | exact HK.out)⟩
mutual
def impl_FindPattern.j0 : Nat → List Int → List Int → Bool → Option (Int × List Int × Bool)
 | 0, _, _, _ => none
 | k + 1, x0, x1, x16 => if x16 = true then (some (0, ([] : List Int), false)) else (impl_FindPattern.l0 k x0 x1 (x0.length : Int) 0)
def impl_FindPattern.l0 : Nat → List Int → List Int → Int → Int → Option (Int × List Int × Bool)
 | 0, _, _, _, _ => none
 | k + 1, x0, x1, x19, x20 => if x20 < x19 then ((impl_matchLengths.f k x0 x1 x20 ([] : List Int)).bind fun bt261 => (if bt261.2 = true then (some (x20, bt261.1, true)) else (impl_FindPattern.l0 k x0 x1 x19 (wrap64 (x20 + 1))))) else (some (0, ([] : List Int), false))
end
def impl_FindPattern.f (k : Nat) (l0 : List Int) (l1 : List Int) : Option (Int × List Int × Bool) := (impl_IsPattern.f k l1).bind fun t260 => (if t260 = true then (impl_FindPattern.j0 k l0 l1 (decide ((l0.length : Int) > 24))) else (impl_FindPattern.j0 k l0 l1 true))
set_option maxHeartbeats 8000000 in
set_option maxRecDepth 100000 in
theorem impl_FindPattern.calls (k : Nat) (A0 : Option Addr) (c0 : Nat) (l0 : List Int) (A1 : Option Addr) (c1 : Nat) (l1 : List Int) (r1 : Int) (r2 : List Int) (r3 : Bool) (w : World) (hr0 : Kd.C (Kd.int .i64) w A0 l0.length l0) (hc0 : l0.length ≤ c0) (hr1 : Kd.C (Kd.int .i64) w A1 l1.length l1) (hc1 : l1.length ≤ c1) (h : impl_FindPattern.f k l0 l1 = some (r1, r2, r3)) :
  Calls Tryd.prog 136 #[.slice A0 l0.length c0, .slice A1 l1.length c1] w fun e w' => ∃ v1_ : Value, e = .returned (.tuple #[.agg #[.int .i64 r1, v1_], .bool r3]) ∧ Kd.R (Kd.int .i64) 3 w' w.heap.size (fun _ => True) v1_ r2 ∧ Below w.heap.size w w' := by
 have hu129 := Tryd.underlying129; have HR0 := Aside0.mk hr0; have HC0 := Aside0.mk hc0; clear hr0 hc0; have HR1 := Aside0.mk hr1; have HC1 := Aside0.mk hc1; clear hr1 hc1; have HB := Aside0.mk (Below.refl w.heap.size w); have H : ((impl_IsPattern.f k l1).bind fun t260 => (if t260 = true then (impl_FindPattern.j0 k l0 l1 (decide ((l0.length : Int) > 24))) else (impl_FindPattern.j0 k l0 l1 true))) = some (r1, r2, r3) := h; clear h; have HC3 := Aside0.mk H; clear H; go_enter Tryd.func136, Tryd.ntmps136; go_upto_region 1 with (first | ((with_reducible refine gate_dst (N := 4) rfl ?_); (try (refine gate_guard (by rfl) ?_; dsimp only)); refine box_event ?hg (N := 4) ?hd (cs := #[.int .i64 0, .slice none 0 0]) (t := 129) ?hr ?_; (case hd => rfl); (case hg => rfl); (case hr => first | (go_simp; done) | (go_simp; rfl)); intro gb259 hg w4 hbox hb; have n0_ := Aside0.mk (below_step (by repeat (first | (with_reducible first | exact HB.out | apply below_alloc | apply pw_below_drewN | apply below_drew1) | exact HB.out)) hb); have n1_ := Aside0.mk (hbox); have n2_ := Aside0.mk ((by rw [hg]; exact (below_size (by repeat (first | (with_reducible first | exact HB.out | apply below_alloc | apply pw_below_drewN | apply below_drew1) | exact HB.out))) : w.heap.size ≤ gb259)); have n3_ := Aside0.mk ((by rw [hg]; exact (below_size (by repeat (first | (with_reducible first | exact HB.out | apply below_alloc | apply pw_below_drewN | apply below_drew1) | exact HB.out))) : w.heap.size ≤ gb259)); clear HB; have HB := n0_; have BK259 := n1_; have GW259 := n2_; have GE259 := n3_; clear n0_ n1_ n2_ n3_; clear hb hbox hg)); (try simp only [Act.put, List.setIfInBounds_toArray, List.set_cons_zero, List.set_cons_succ]); go_cut [16] (fun v16 wc => ∃ (kq : Nat) (x16_2 : Bool), v16 = .bool x16_2 ∧ Aside0 (impl_FindPattern.j0 kq l0 l1 x16_2 = some (r1, r2, r3)) ∧ Aside0 (kq ≤ k) ∧ Aside0 (wc.heap[gb259]? = some (.cells #[.int .i64 0, (.slice none 0 0)] 129 (0, 0))) ∧ Aside0 (Below w.heap.size w wc))
 case first =>
  have H := HC3.out; clear HC3; replace H := Option.bind_eq_some_iff.mp H; obtain ⟨t260, A50, H⟩ := H; replace H : (if t260 = true then (impl_FindPattern.j0 k l0 l1 (decide ((l0.length : Int) > 24))) else (impl_FindPattern.j0 k l0 l1 true)) = some (r1, r2, r3) := H; have A5 := Aside0.mk A50; clear A50; by_cases c6 : t260 = true
  ·subst c6; have H1 : (impl_FindPattern.j0 k l0 l1 (decide ((l0.length : Int) > 24))) = some (r1, r2, r3) := by rw [if_pos rfl] at H; exact H
   clear H; have H := H1; clear H1; have H' := Aside0.mk H; clear H; go_wp2_with (first | ((with_reducible refine gate_callee (f := 128) rfl ?_); refine goesL_ (some 10) rfl rfl Tryd.func128 (by kernel_rfl) rfl #[.slice A1 l1.length c1] rfl (by (try simp only [List.map_toArray, List.map_cons, List.map_nil]); first | done | rfl | (simp only [List.length_drop, List.length_take]; rfl)) ?_; (with_reducible refine (impl_IsPattern.calls k _ _ l1 true _ ?side1 ?side2 A5.out).mono ?_); (case side1 => repeat (first | exact (Kd.C_below HR1.out HB.out) | (with_reducible refine Kd.C_alloc ?_ _) | (with_reducible refine Kd.C_drewN ?_ _) | (with_reducible refine Kd.C_drew ?_))); (case side2 => exact HC1.out); rintro e w' ⟨rfl, ⟨nd, rfl⟩⟩; refine ⟨_, rfl, ?_⟩)); go_meet
   case rel => exact ⟨_, (decide ((l0.length : Int) > 24)), (by first | rfl | (simp; done) | (simp [*]; done)), H', ⟨by first | omega | exact Nat.le_refl _⟩, ⟨by (with_reducible repeat (first | refine blk_drewN ?_ _ | refine blk_drew ?_ | refine blk_alloc ?_ _)); exact BK259.out⟩, ⟨by repeat (first | (with_reducible first | exact HB.out | apply below_alloc | apply pw_below_drewN | apply below_drew1 | refine below_set ?_ GE259.out) | exact HB.out)⟩⟩
  ·replace c6 := Bool.eq_false_iff.mpr c6; subst c6; have H1 : (impl_FindPattern.j0 k l0 l1 true) = some (r1, r2, r3) := by rw [if_neg (show ¬ (false = true) by decide)] at H; exact H
   clear H; have H := H1; clear H1; have H' := Aside0.mk H; clear H; go_wp2_with (first | ((with_reducible refine gate_callee (f := 128) rfl ?_); refine goesL_ (some 10) rfl rfl Tryd.func128 (by kernel_rfl) rfl #[.slice A1 l1.length c1] rfl (by (try simp only [List.map_toArray, List.map_cons, List.map_nil]); first | done | rfl | (simp only [List.length_drop, List.length_take]; rfl)) ?_; (with_reducible refine (impl_IsPattern.calls k _ _ l1 false _ ?side1 ?side2 A5.out).mono ?_); (case side1 => repeat (first | exact (Kd.C_below HR1.out HB.out) | (with_reducible refine Kd.C_alloc ?_ _) | (with_reducible refine Kd.C_drewN ?_ _) | (with_reducible refine Kd.C_drew ?_))); (case side2 => exact HC1.out); rintro e w' ⟨rfl, ⟨nd, rfl⟩⟩; refine ⟨_, rfl, ?_⟩)); go_meet
   case rel => exact ⟨_, (true), (by first | rfl | (simp; done) | (simp [*]; done)), H', ⟨by first | omega | exact Nat.le_refl _⟩, ⟨by (with_reducible repeat (first | refine blk_drewN ?_ _ | refine blk_drew ?_ | refine blk_alloc ?_ _)); exact BK259.out⟩, ⟨by repeat (first | (with_reducible first | exact HB.out | apply below_alloc | apply pw_below_drewN | apply below_drew1 | refine below_set ?_ GE259.out) | exact HB.out)⟩⟩
 case rest =>
  clear HC3
  try clear c1
  try clear p2
  try clear c6
  obtain ⟨kq, x16_2, rfl, HA, HJ2, BK259, HB⟩ := hcut; cases kq with
  | zero => exact absurd HA.out (by simp [impl_FindPattern.j0])
  | succ kj2 =>
   have H := HA.out; clear HA; simp only [impl_FindPattern.j0] at H; by_cases c7 : x16_2 = true
   ·subst c7; have H1 : (some (0, ([] : List Int), false)) = some (r1, r2, r3) := by rw [if_pos rfl] at H; exact H
    clear H; have H := H1; clear H1; simp only [Option.some.injEq, Prod.mk.injEq] at H; obtain ⟨rfl, rfl, rfl⟩ := H; have hcz8_0 : wc.cell? ⟨gb259, 0, none⟩ = some (.int .i64 0) := (blk_cell BK259.out 0).trans rfl; have hcz8_1 : wc.cell? ⟨gb259, 1, none⟩ = some (.slice none 0 0) := (blk_cell BK259.out 1).trans rfl; have hfz8_0 := blk_frozen BK259.out 0; have hfz8_1 := blk_frozen BK259.out 1; go_wp2; refine bodyPost_ret (results_ct rfl _ _ gb259 129 #[.int .i64 0, .slice none 0 0] (0, 0) _ rfl (by (with_reducible repeat (first | refine blk_drewN ?_ _ | refine blk_drew ?_ | refine blk_alloc ?_ _)); refine blk_put (cs := #[.int .i64 0, .slice none 0 0]) ?_ 1 _ rfl; (with_reducible repeat (first | refine blk_drewN ?_ _ | refine blk_drew ?_ | refine blk_alloc ?_ _)); refine blk_put (cs := #[.int .i64 0, .slice none 0 0]) ?_ 0 _ rfl; (with_reducible repeat (first | refine blk_drewN ?_ _ | refine blk_drew ?_ | refine blk_alloc ?_ _)); exact BK259.out) Tryd.underlying129 rfl (by kernel_rfl)) rfl ?_; exact ⟨_, by first | rfl | (simp [errW_none, errW_some] <;> rfl) | (simp [*, errW_none, errW_some] <;> rfl), by first | exact Kd.R_nil _ _ _ _ _ | exact Kd.N_nil _ _ _ _ _ | exact Kd.V_nil _ _ _ _ _ | exact Kd.Q_nil _ _ _ _ _ | exact Kd.S_nil _ _ _ _ _, by repeat (first | (with_reducible first | exact HB.out | apply below_alloc | apply pw_below_drewN | apply below_drew1 | refine below_set ?_ GE259.out) | exact HB.out)⟩
   ·replace c7 := Bool.eq_false_iff.mpr c7; subst c7; have H1 : (impl_FindPattern.l0 kj2 l0 l1 (l0.length : Int) 0) = some (r1, r2, r3) := by rw [if_neg (show ¬ (false = true) by decide)] at H; exact H
    clear H; have H := H1; clear H1; have H' := Aside0.mk H; clear H; go_wp2; go_loopg [20] kj2 (fun kq v20 w' => ∃ (x20_2 : Int) (x260000_2 : Int), v20 = .int .i64 x20_2 ∧ Aside0 (impl_FindPattern.l0 kq l0 l1 (l0.length : Int) x20_2 = some (r1, r2, r3)) ∧ Aside0 (kq ≤ kj2) ∧ Aside0 (w'.heap[gb259]? = some (.cells #[.int .i64 x260000_2, (.slice none 0 0)] 129 (0, 0))) ∧ Aside0 (Below w.heap.size w w'))
    case atStart => exact ⟨(0), (0), (by first | rfl | (simp; done) | (simp [*]; done)), H', ⟨Nat.le_refl _⟩, ⟨by (with_reducible repeat (first | refine blk_drewN ?_ _ | refine blk_drew ?_ | refine blk_alloc ?_ _)); exact BK259.out⟩, ⟨by repeat (first | (with_reducible first | exact HB.out | apply below_alloc | apply pw_below_drewN | apply below_drew1 | refine below_set ?_ GE259.out) | exact HB.out)⟩⟩
    case round =>
     clear H'
     try clear c1
     try clear p2
     try clear c6
     try clear c7
     try clear hcz8_0
     try clear hcz8_1
     try clear hfz8_0
     try clear hfz8_1
     try clear p2
     obtain ⟨x20_2, x260000_2, rfl, HA, HK2, BK259, HB⟩ := hrel; cases gk with
     | zero => exact absurd HA.out (by simp [impl_FindPattern.l0])
     | succ k2 =>
      have H := HA.out; clear HA; simp only [impl_FindPattern.l0] at H; by_cases c9 : x20_2 < (l0.length : Int)
      ·rw [if_pos c9] at H; have c9b0 : decide (x20_2 < (l0.length : Int)) = true := decide_eq_true c9; clear c9; replace H := Option.bind_eq_some_iff.mp H; obtain ⟨⟨t261, t264⟩, A100, H⟩ := H; replace H : (if t264 = true then (some (x20_2, t261, true)) else (impl_FindPattern.l0 k2 l0 l1 (l0.length : Int) (wrap64 (x20_2 + 1)))) = some (r1, r2, r3) := H; have A10 := Aside0.mk A100; clear A100; by_cases c11 : t264 = true
       ·subst c11; have H1 : (some (x20_2, t261, true)) = some (r1, r2, r3) := by rw [if_pos rfl] at H; exact H
        clear H; have H := H1; clear H1; simp only [Option.some.injEq, Prod.mk.injEq] at H; obtain ⟨rfl, rfl, rfl⟩ := H; go_wp2_with (first | ((with_reducible refine gate_callee (f := 160) rfl ?_); refine goesL_ (some 27) rfl rfl Tryd.func160 (by kernel_rfl) rfl #[.slice A0 l0.length c0, .slice A1 l1.length c1, .int .i64 x20_2, .slice none 0 0] rfl (by (try simp only [List.map_toArray, List.map_cons, List.map_nil]); first | done | rfl | (simp only [List.length_drop, List.length_take]; rfl)) ?_; (refine (impl_matchLengths.calls k2 _ _ l0 _ _ l1 x20_2 (fun k_ => some k_ = (.slice none 0 0 : Value).ownBlock) (.slice none 0 0) ([] : List Int) t261 true w _ ?side1 ?side2 ?side3 ?side4 ?side5 ?side6 A10.out).mono ?_); (case side1 => repeat (first | (with_reducible first | exact HB.out | apply below_alloc | apply pw_below_drewN | apply below_drew1 | refine below_set ?_ GE259.out) | exact HB.out)); (case side2 => exact Kd.C_kept_came (Kd.heap_int .i64) HR0.out (by repeat (first | (with_reducible first | exact HB.out | apply below_alloc | apply pw_below_drewN | apply below_drew1 | refine below_set ?_ GE259.out) | exact HB.out)) (fun k_ hs_ => (fun e_ => by simp [Value.ownBlock] at e_) hs_)); (case side3 => exact HC0.out); (case side4 => exact Kd.C_kept_came (Kd.heap_int .i64) HR1.out (by repeat (first | (with_reducible first | exact HB.out | apply below_alloc | apply pw_below_drewN | apply below_drew1 | refine below_set ?_ GE259.out) | exact HB.out)) (fun k_ hs_ => (fun e_ => by simp [Value.ownBlock] at e_) hs_)); (case side5 => exact HC1.out); (case side6 => exact Kd.R_nil _ _ _ _ _); rintro e w12 ⟨v262, rfl, ho0, hb, hkp⟩; refine ⟨_, rfl, ?_⟩; have n0_ := Aside0.mk (blk_kept (by (with_reducible repeat (first | refine blk_drewN ?_ _ | refine blk_drew ?_ | refine blk_alloc ?_ _)); exact BK259.out) hkp (fun hs_ => (fun e_ => by simp [Value.ownBlock] at e_) hs_)); have n1_ := Aside0.mk (Kd.R_mono (ok' := fun k_ => True) ho0 (fun k_ hk_ => trivial)); have n2_ := Aside0.mk (hb); clear BK259; clear HB; have BK259 := n0_; have HO263 := n1_; have HB := n2_; clear n0_ n1_ n2_; (try clear hb); (try clear hkp); (try clear ho0); obtain ⟨Ao13, co13, eo13⟩ := Kd.R_slice HO263.out; subst eo13; have hcz14_0 : w12.cell? ⟨gb259, 0, none⟩ = some (.int .i64 x260000_2) := (blk_cell BK259.out 0).trans rfl; have hcz14_1 : w12.cell? ⟨gb259, 1, none⟩ = some (.slice none 0 0) := (blk_cell BK259.out 1).trans rfl; have hfz14_0 := blk_frozen BK259.out 0; have hfz14_1 := blk_frozen BK259.out 1)); refine bodyPost_ret (results_ct rfl _ _ gb259 129 #[.int .i64 x20_2, .slice Ao13 t261.length co13] (0, 0) _ rfl (by (with_reducible repeat (first | refine blk_drewN ?_ _ | refine blk_drew ?_ | refine blk_alloc ?_ _)); refine blk_put (cs := #[.int .i64 x20_2, .slice none 0 0]) ?_ 1 _ rfl; (with_reducible repeat (first | refine blk_drewN ?_ _ | refine blk_drew ?_ | refine blk_alloc ?_ _)); refine blk_put (cs := #[.int .i64 x260000_2, .slice none 0 0]) ?_ 0 _ rfl; (with_reducible repeat (first | refine blk_drewN ?_ _ | refine blk_drew ?_ | refine blk_alloc ?_ _)); exact BK259.out) Tryd.underlying129 rfl (by kernel_rfl)) rfl ?_; exact ⟨_, by first | rfl | (simp [errW_none, errW_some] <;> rfl) | (simp [*, errW_none, errW_some] <;> rfl), by (with_reducible repeat (first | apply Kd.R_alloc | apply Kd.R_drewN | apply Kd.R_drew)); exact Kd.R_mono (Kd.R_far (p := ⟨gb259, 1, none⟩) (Kd.R_far (p := ⟨gb259, 0, none⟩) (Kd.R_types HO263.out BK259.out (by decide)) (fun _ hk => hk.2) (.int .i64 x20_2)) (fun _ hk => hk.2) (.slice Ao13 t261.length co13)) (fun _ hk => trivial), by repeat (first | (with_reducible first | exact HB.out | apply below_alloc | apply pw_below_drewN | apply below_drew1 | refine below_set ?_ GE259.out) | exact HB.out)⟩
       ·replace c11 := Bool.eq_false_iff.mpr c11; subst c11; have H1 : (impl_FindPattern.l0 k2 l0 l1 (l0.length : Int) (wrap64 (x20_2 + 1))) = some (r1, r2, r3) := by rw [if_neg (show ¬ (false = true) by decide)] at H; exact H
        clear H; have H := H1; clear H1; have H' := Aside0.mk H; clear H; go_wp2_with (first | ((with_reducible refine gate_callee (f := 160) rfl ?_); refine goesL_ (some 27) rfl rfl Tryd.func160 (by kernel_rfl) rfl #[.slice A0 l0.length c0, .slice A1 l1.length c1, .int .i64 x20_2, .slice none 0 0] rfl (by (try simp only [List.map_toArray, List.map_cons, List.map_nil]); first | done | rfl | (simp only [List.length_drop, List.length_take]; rfl)) ?_; (refine (impl_matchLengths.calls k2 _ _ l0 _ _ l1 x20_2 (fun k_ => some k_ = (.slice none 0 0 : Value).ownBlock) (.slice none 0 0) ([] : List Int) t261 false w _ ?side1 ?side2 ?side3 ?side4 ?side5 ?side6 A10.out).mono ?_); (case side1 => repeat (first | (with_reducible first | exact HB.out | apply below_alloc | apply pw_below_drewN | apply below_drew1 | refine below_set ?_ GE259.out) | exact HB.out)); (case side2 => exact Kd.C_kept_came (Kd.heap_int .i64) HR0.out (by repeat (first | (with_reducible first | exact HB.out | apply below_alloc | apply pw_below_drewN | apply below_drew1 | refine below_set ?_ GE259.out) | exact HB.out)) (fun k_ hs_ => (fun e_ => by simp [Value.ownBlock] at e_) hs_)); (case side3 => exact HC0.out); (case side4 => exact Kd.C_kept_came (Kd.heap_int .i64) HR1.out (by repeat (first | (with_reducible first | exact HB.out | apply below_alloc | apply pw_below_drewN | apply below_drew1 | refine below_set ?_ GE259.out) | exact HB.out)) (fun k_ hs_ => (fun e_ => by simp [Value.ownBlock] at e_) hs_)); (case side5 => exact HC1.out); (case side6 => exact Kd.R_nil _ _ _ _ _); rintro e w15 ⟨v262, rfl, ho0, hb, hkp⟩; refine ⟨_, rfl, ?_⟩; have n0_ := Aside0.mk (blk_kept (by (with_reducible repeat (first | refine blk_drewN ?_ _ | refine blk_drew ?_ | refine blk_alloc ?_ _)); exact BK259.out) hkp (fun hs_ => (fun e_ => by simp [Value.ownBlock] at e_) hs_)); have n1_ := Aside0.mk (Kd.R_mono (ok' := fun k_ => True) ho0 (fun k_ hk_ => trivial)); have n2_ := Aside0.mk (hb); clear BK259; clear HB; have BK259 := n0_; have HO263 := n1_; have HB := n2_; clear n0_ n1_ n2_; (try clear hb); (try clear hkp); (try clear ho0))); go_roundg k2
        case measure => have := HJ2.out; have := HK2.out; omega
        case rel => exact ⟨(wrap64 (x20_2 + 1)), (x260000_2), (by first | rfl | (simp; done) | (simp [*]; done)), H', ⟨by have := HJ2.out; have := HK2.out; omega⟩, ⟨by (with_reducible repeat (first | refine blk_drewN ?_ _ | refine blk_drew ?_ | refine blk_alloc ?_ _)); exact BK259.out⟩, ⟨by repeat (first | (with_reducible first | exact HB.out | apply below_alloc | apply pw_below_drewN | apply below_drew1 | refine below_set ?_ GE259.out) | exact HB.out)⟩⟩
      ·rw [if_neg c9] at H; have c9b0 : decide (x20_2 < (l0.length : Int)) = false := decide_eq_false c9; clear c9; simp only [Option.some.injEq, Prod.mk.injEq] at H; obtain ⟨rfl, rfl, rfl⟩ := H; have hcz16_0 : wr.cell? ⟨gb259, 0, none⟩ = some (.int .i64 x260000_2) := (blk_cell BK259.out 0).trans rfl; have hcz16_1 : wr.cell? ⟨gb259, 1, none⟩ = some (.slice none 0 0) := (blk_cell BK259.out 1).trans rfl; have hfz16_0 := blk_frozen BK259.out 0; have hfz16_1 := blk_frozen BK259.out 1; go_wp2; refine bodyPost_ret (results_ct rfl _ _ gb259 129 #[.int .i64 0, .slice none 0 0] (0, 0) _ rfl (by (with_reducible repeat (first | refine blk_drewN ?_ _ | refine blk_drew ?_ | refine blk_alloc ?_ _)); refine blk_put (cs := #[.int .i64 0, .slice none 0 0]) ?_ 1 _ rfl; (with_reducible repeat (first | refine blk_drewN ?_ _ | refine blk_drew ?_ | refine blk_alloc ?_ _)); refine blk_put (cs := #[.int .i64 x260000_2, .slice none 0 0]) ?_ 0 _ rfl; (with_reducible repeat (first | refine blk_drewN ?_ _ | refine blk_drew ?_ | refine blk_alloc ?_ _)); exact BK259.out) Tryd.underlying129 rfl (by kernel_rfl)) rfl ?_; exact ⟨_, by first | rfl | (simp [errW_none, errW_some] <;> rfl) | (simp [*, errW_none, errW_some] <;> rfl), by first | exact Kd.R_nil _ _ _ _ _ | exact Kd.N_nil _ _ _ _ _ | exact Kd.V_nil _ _ _ _ _ | exact Kd.Q_nil _ _ _ _ _ | exact Kd.S_nil _ _ _ _ _, by repeat (first | (with_reducible first | exact HB.out | apply below_alloc | apply pw_below_drewN | apply below_drew1 | refine below_set ?_ GE259.out) | exact HB.out)⟩
def impl_AvoidsPattern.f (k : Nat) (l0 : List Int) (l1 : List Int) : Option (Bool) := (impl_IsPattern.f k l1).bind fun t265 => (if t265 = true then (if (l0.length : Int) > 24 then (some false) else ((impl_FindPattern.f k l0 l1).bind fun bt266 => (some (!bt266.2.2)))) else (some false))
set_option maxHeartbeats 8000000 in
set_option maxRecDepth 100000 in
theorem impl_AvoidsPattern.calls (k : Nat) (A0 : Option Addr) (c0 : Nat) (l0 : List Int) (A1 : Option Addr) (c1 : Nat) (l1 : List Int) (r : Bool) (w : World) (hr0 : Kd.C (Kd.int .i64) w A0 l0.length l0) (hc0 : l0.length ≤ c0) (hr1 : Kd.C (Kd.int .i64) w A1 l1.length l1) (hc1 : l1.length ≤ c1) (h : impl_AvoidsPattern.f k l0 l1 = some r) :
  Calls Tryd.prog 101 #[.slice A0 l0.length c0, .slice A1 l1.length c1] w fun e w' => e = .returned (.bool r) ∧ Below w.heap.size w w' := by
 have hu129 := Tryd.underlying129; have HR0 := Aside0.mk hr0; have HC0 := Aside0.mk hc0; clear hr0 hc0; have HR1 := Aside0.mk hr1; have HC1 := Aside0.mk hc1; clear hr1 hc1; have HB := Aside0.mk (Below.refl w.heap.size w); have H : ((impl_IsPattern.f k l1).bind fun t265 => (if t265 = true then (if (l0.length : Int) > 24 then (some false) else ((impl_FindPattern.f k l0 l1).bind fun bt266 => (some (!bt266.2.2)))) else (some false))) = some r := h; clear h; replace H := Option.bind_eq_some_iff.mp H; obtain ⟨t265, A30, H⟩ := H; replace H : (if t265 = true then (if (l0.length : Int) > 24 then (some false) else ((impl_FindPattern.f k l0 l1).bind fun bt266 => (some (!bt266.2.2)))) else (some false)) = some r := H; have A3 := Aside0.mk A30; clear A30; by_cases c4 : t265 = true
 ·subst c4; have H1 : (if (l0.length : Int) > 24 then (some false) else ((impl_FindPattern.f k l0 l1).bind fun bt266 => (some (!bt266.2.2)))) = some r := by rw [if_pos rfl] at H; exact H
  clear H; have H := H1; clear H1; by_cases c5 : (l0.length : Int) > 24
  ·rw [if_pos c5] at H; have c5b0 : decide (24 < (l0.length : Int)) = true := decide_eq_true c5; have c5b1 : decide (24 < l0.length) = true := decide_eq_true (by omega); clear c5; obtain rfl := Option.some.inj H; go_enter Tryd.func101, Tryd.ntmps101; go_wp2_with (first | ((with_reducible refine gate_callee (f := 128) rfl ?_); refine goesL_ (some 8) rfl rfl Tryd.func128 (by kernel_rfl) rfl #[.slice A1 l1.length c1] rfl (by (try simp only [List.map_toArray, List.map_cons, List.map_nil]); first | done | rfl | (simp only [List.length_drop, List.length_take]; rfl)) ?_; (with_reducible refine (impl_IsPattern.calls k _ _ l1 true _ ?side1 ?side2 A3.out).mono ?_); (case side1 => repeat (first | exact HR1.out | (with_reducible refine Kd.C_alloc ?_ _) | (with_reducible refine Kd.C_drewN ?_ _) | (with_reducible refine Kd.C_drew ?_))); (case side2 => exact HC1.out); rintro e w' ⟨rfl, ⟨nd, rfl⟩⟩; refine ⟨_, rfl, ?_⟩)); go_ret; exact ⟨by first | rfl | (simp [errW_none, errW_some] <;> rfl) | (simp [*, errW_none, errW_some] <;> rfl), by repeat (first | (with_reducible first | exact HB.out | apply below_alloc | apply pw_below_drewN | apply below_drew1) | exact HB.out)⟩
  ·rw [if_neg c5] at H; have c5b0 : decide (24 < (l0.length : Int)) = false := decide_eq_false c5; have c5b1 : decide (24 < l0.length) = false := decide_eq_false (by omega); clear c5; replace H := Option.bind_eq_some_iff.mp H; obtain ⟨⟨t266, t267, t270⟩, A60, H⟩ := H; replace H : (some (!t270)) = some r := H; have A6 := Aside0.mk A60; clear A60; obtain rfl := Option.some.inj H; go_enter Tryd.func101, Tryd.ntmps101; go_wp2_with (first | ((with_reducible refine gate_callee (f := 128) rfl ?_); refine goesL_ (some 8) rfl rfl Tryd.func128 (by kernel_rfl) rfl #[.slice A1 l1.length c1] rfl (by (try simp only [List.map_toArray, List.map_cons, List.map_nil]); first | done | rfl | (simp only [List.length_drop, List.length_take]; rfl)) ?_; (with_reducible refine (impl_IsPattern.calls k _ _ l1 true _ ?side1 ?side2 A3.out).mono ?_); (case side1 => repeat (first | exact HR1.out | (with_reducible refine Kd.C_alloc ?_ _) | (with_reducible refine Kd.C_drewN ?_ _) | (with_reducible refine Kd.C_drew ?_))); (case side2 => exact HC1.out); rintro e w' ⟨rfl, ⟨nd, rfl⟩⟩; refine ⟨_, rfl, ?_⟩) | ((with_reducible refine gate_callee (f := 136) rfl ?_); refine goesL_ (some 18) rfl rfl Tryd.func136 (by kernel_rfl) rfl #[.slice A0 l0.length c0, .slice A1 l1.length c1] rfl (by (try simp only [List.map_toArray, List.map_cons, List.map_nil]); first | done | rfl | (simp only [List.length_drop, List.length_take]; rfl)) ?_; (with_reducible refine (impl_FindPattern.calls k _ _ l0 _ _ l1 t266 t267 t270 _ ?side1 ?side2 ?side3 ?side4 A6.out).mono ?_); (case side1 => repeat (first | exact HR0.out | (with_reducible refine Kd.C_alloc ?_ _) | (with_reducible refine Kd.C_drewN ?_ _) | (with_reducible refine Kd.C_drew ?_))); (case side2 => exact HC0.out); (case side3 => repeat (first | exact HR1.out | (with_reducible refine Kd.C_alloc ?_ _) | (with_reducible refine Kd.C_drewN ?_ _) | (with_reducible refine Kd.C_drew ?_))); (case side4 => exact HC1.out); rintro e w7 ⟨v268, rfl, ho0, hb⟩; refine ⟨_, rfl, ?_⟩; have n0_ := Aside0.mk (Kd.R_lower ho0 (below_size (by repeat (first | (with_reducible first | exact HB.out | apply below_alloc | apply pw_below_drewN | apply below_drew1) | exact HB.out)))); have n1_ := Aside0.mk (below_step (by repeat (first | (with_reducible first | exact HB.out | apply below_alloc | apply pw_below_drewN | apply below_drew1) | exact HB.out)) hb); clear HB; have HO269 := n0_; have HB := n1_; clear n0_ n1_; (try clear hb); (try clear hb2); (try clear hk); (try clear hi); (try clear ho0)) | ((with_reducible refine gate_dst (N := 5) rfl ?_); (try (refine gate_guard (by rfl) ?_; dsimp only)); refine box_event ?hg (N := 5) ?hd (cs := #[.int .i64 0, .slice none 0 0]) (t := 129) ?hr ?_; (case hd => rfl); (case hg => rfl); (case hr => first | (go_simp; done) | (go_simp; rfl)); intro gb271 hg w8 hbox hb; have n0_ := Aside0.mk (Kd.R_below (by (with_reducible repeat (first | apply Kd.R_alloc | apply Kd.R_drewN | apply Kd.R_drew)); exact HO269.out) hb); have n1_ := Aside0.mk (below_step (by repeat (first | (with_reducible first | exact HB.out | apply below_alloc | apply pw_below_drewN | apply below_drew1) | exact HB.out)) hb); have n2_ := Aside0.mk (hbox); have n3_ := Aside0.mk ((by rw [hg]; exact (below_size (by repeat (first | (with_reducible first | exact HB.out | apply below_alloc | apply pw_below_drewN | apply below_drew1) | exact HB.out))) : w.heap.size ≤ gb271)); have n4_ := Aside0.mk ((by rw [hg]; exact (below_size (by repeat (first | (with_reducible first | exact HB.out | apply below_alloc | apply pw_below_drewN | apply below_drew1) | exact HB.out))) : w.heap.size ≤ gb271)); clear HO269; clear HB; have HO269 := n0_; have HB := n1_; have BK271 := n2_; have GW271 := n3_; have GE271 := n4_; clear n0_ n1_ n2_ n3_ n4_; clear hb hbox hg; have hcz9_0 : w8.cell? ⟨gb271, 0, none⟩ = some (.int .i64 0) := (blk_cell BK271.out 0).trans rfl; have hcz9_1 : w8.cell? ⟨gb271, 1, none⟩ = some (.slice none 0 0) := (blk_cell BK271.out 1).trans rfl; have hfz9_0 := blk_frozen BK271.out 0; have hfz9_1 := blk_frozen BK271.out 1; obtain ⟨Ao10, co10, eo10⟩ := Kd.R_slice HO269.out; subst eo10)); go_ret; exact ⟨by first | rfl | (simp [errW_none, errW_some] <;> rfl) | (simp [*, errW_none, errW_some] <;> rfl), by repeat (first | (with_reducible first | exact HB.out | apply below_alloc | apply pw_below_drewN | apply below_drew1 | refine below_set ?_ GE271.out) | exact HB.out)⟩
 ·replace c4 := Bool.eq_false_iff.mpr c4; subst c4; have H1 : (some false) = some r := by rw [if_neg (show ¬ (false = true) by decide)] at H; exact H
  clear H; have H := H1; clear H1; obtain rfl := Option.some.inj H; go_enter Tryd.func101, Tryd.ntmps101; go_wp2_with (first | ((with_reducible refine gate_callee (f := 128) rfl ?_); refine goesL_ (some 8) rfl rfl Tryd.func128 (by kernel_rfl) rfl #[.slice A1 l1.length c1] rfl (by (try simp only [List.map_toArray, List.map_cons, List.map_nil]); first | done | rfl | (simp only [List.length_drop, List.length_take]; rfl)) ?_; (with_reducible refine (impl_IsPattern.calls k _ _ l1 false _ ?side1 ?side2 A3.out).mono ?_); (case side1 => repeat (first | exact HR1.out | (with_reducible refine Kd.C_alloc ?_ _) | (with_reducible refine Kd.C_drewN ?_ _) | (with_reducible refine Kd.C_drew ?_))); (case side2 => exact HC1.out); rintro e w' ⟨rfl, ⟨nd, rfl⟩⟩; refine ⟨_, rfl, ?_⟩)); go_ret; exact ⟨by first | rfl | (simp [errW_none, errW_some] <;> rfl) | (simp [*, errW_none, errW_some] <;> rfl), by repeat (first | (with_reducible first | exact HB.out | apply below_alloc | apply pw_below_drewN | apply below_drew1) | exact HB.out)⟩
end Go.Proofs.YtdekenijnbhpfaaDoor.M
/- Finding a pattern, as values: program and reference find the same first match. No condition but lengths that fit. -/
namespace Go.Proofs.YtdekenijnbhpfaaDoor.M
open Go.RowKit Go.Proofs.YtdekenijnbhpfaaDoorW.PrintWords Go.Proofs.YtdekenijnbhpfaaDoor.K
set_option linter.unusedVariables false
theorem odo1 (K : Nat) (F : List Int → Option (List Int)) (P : Nat → Option (List Int) → Prop) (hend : P (K + 1) none) (h1 : ∀ a, a ≤ K → ∀ v, P (a + 1) v → P a ((F [(a : Int)]).or v)) : P 1 (srch K F 0 [] 1) := by
 have key : ∀ a, a ≤ K + 1 → P a (srch K F 0 [] a) := by
  refine down (K + 1) ?_ ?_
  ·rw [srch_end _ _ _ _ _ (by omega)]; exact hend
  ·intro a ha ih; rw [srch_step _ _ _ _ _ (by omega)]; exact h1 a (by omega) _ ih
 exact key 1 (by omega)
theorem odo2 (K : Nat) (F : List Int → Option (List Int)) (P : Nat → Nat → Option (List Int) → Prop) (hend : ∀ b, P (K + 1) b none) (h1 : ∀ a b, a ≤ K → b < K → ∀ v, P a (b + 1) v → P a b ((F [(a : Int), (b : Int)]).or v)) (h2 : ∀ a, a ≤ K → ∀ v, P (a + 1) 1 v → P a K ((F [(a : Int), (K : Int)]).or v)) : P 1 1 (srch K F 1 [] 1) := by
 have key : ∀ a, a ≤ K + 1 → 1 ≤ a → P a 1 (srch K F 1 [] a) := by
  refine down (K + 1) ?_ ?_
  ·intro _; rw [srch_end _ _ _ _ _ (by omega)]; exact hend 1
  ·intro a ha ih ha1; have ih := ih (by omega); have in_ : ∀ b, b ≤ K → P a b ((srch K F 0 [(a : Int)] b).or (srch K F 1 [] (a + 1))) := by
    refine down K ?_ ?_
    ·rw [srch_step _ _ _ _ _ (Nat.le_refl _), srch_end _ _ _ _ _ (by omega), Option.or_none]; exact h2 a (by omega) _ ih
    ·intro b hb ih2; rw [srch_step _ _ _ _ _ (by omega), Option.or_assoc]; exact h1 a b (by omega) hb _ ih2
   rw [srch_step _ _ _ _ _ (by omega)]; exact in_ 1 (by omega)
 exact key 1 (by omega) (by omega)
theorem odo3 (K : Nat) (F : List Int → Option (List Int)) (P : Nat → Nat → Nat → Option (List Int) → Prop) (hend : ∀ b c, P (K + 1) b c none) (h1 : ∀ a b c, a ≤ K → b ≤ K → c < K → ∀ v, P a b (c + 1) v → P a b c ((F [(a : Int), (b : Int), (c : Int)]).or v)) (h2 : ∀ a b, a ≤ K → b < K → ∀ v, P a (b + 1) 1 v → P a b K ((F [(a : Int), (b : Int), (K : Int)]).or v)) (h3 : ∀ a, a ≤ K → ∀ v, P (a + 1) 1 1 v → P a K K ((F [(a : Int), (K : Int), (K : Int)]).or v)) : P 1 1 1 (srch K F 2 [] 1) := by
 have key : ∀ a, a ≤ K + 1 → 1 ≤ a → P a 1 1 (srch K F 2 [] a) := by
  refine down (K + 1) ?_ ?_
  ·intro _; rw [srch_end _ _ _ _ _ (by omega)]; exact hend 1 1
  ·intro a ha ih ha1; have ih := ih (by omega); have mid_ : ∀ b, b ≤ K → P a b 1 ((srch K F 1 [(a : Int)] b).or (srch K F 2 [] (a + 1))) := by
    refine down K ?_ ?_
    ·have in_ : ∀ c, c ≤ K → P a K c ((srch K F 0 [(a : Int), (K : Int)] c).or (srch K F 2 [] (a + 1))) := by
      refine down K ?_ ?_
      ·rw [srch_step _ _ _ _ _ (Nat.le_refl _), srch_end _ _ _ _ _ (by omega), Option.or_none]; exact h3 a (by omega) _ ih
      ·intro c hc ih2; rw [srch_step _ _ _ _ _ (by omega), Option.or_assoc]; exact h1 a K c (by omega) (Nat.le_refl _) hc _ ih2
     rw [srch_step _ _ _ _ _ (Nat.le_refl _), srch_end K F 1 _ _ (by omega), Option.or_none]; exact in_ 1 (by omega)
    ·intro b hb ih2; have in_ : ∀ c, c ≤ K → P a b c ((srch K F 0 [(a : Int), (b : Int)] c).or ((srch K F 1 [(a : Int)] (b + 1)).or (srch K F 2 [] (a + 1)))) := by
      refine down K ?_ ?_
      ·rw [srch_step _ _ _ _ _ (Nat.le_refl _), srch_end _ _ _ _ _ (by omega), Option.or_none]; exact h2 a b (by omega) hb _ ih2
      ·intro c hc ih3; rw [srch_step _ _ _ _ _ (by omega), Option.or_assoc]; exact h1 a b c (by omega) (by omega) hc _ ih3
     rw [srch_step _ _ _ _ _ (by omega), Option.or_assoc]; exact in_ 1 (by omega)
   rw [srch_step _ _ _ _ _ (by omega)]; exact mid_ 1 (by omega)
 exact key 1 (by omega) (by omega)
def FA (w p : List Int) (at_ : Nat) (L : List Int) : Option (List Int) := if mAt w p at_ L = true then some L else none
def mres : Option (List Int) → List Int × Bool
 | none => ([], false)
 | some L => (L, true)
theorem implML_leaf (w p : List Int) (at_ : Nat) (hw : w.length ≤ 1000000) (hp : p.length ≤ 1048576) (h : isPat p = true) (L : List Int) (hL : L.length = nl p) : Ev (fun k => impl_matchLengths.f k w p (at_ : Int) L) (L, mAt w p at_ L) := by
 refine Ev.step (fun k => by simp only [impl_matchLengths.f]; rfl) ?_; have := (isPat_nl h).2.2.1; refine Ev.bind (implLetters_ev p hp) (Ev.if_pos (by rw [_root_.if_pos h, hL]) (Ev.bind (implMatchAt_ev w p at_ L hw hp (by omega)) (Ev.some _)))
theorem implML_step (w p : List Int) (at_ : Nat) (hw : w.length ≤ 1000000) (hat : at_ ≤ w.length) (hp : p.length ≤ 1048576) (h : isPat p = true) : ∀ d (L : List Int), L.length + d + 1 = nl p → Ev (fun k => impl_matchLengths.f k w p (at_ : Int) L) (mres (srch (w.length - at_) (FA w p at_) d L 1)) := by
 have h3 := (isPat_nl h).2.2.1; have loop : ∀ d (L : List Int), L.length + d + 1 = nl p → (∀ a : Nat, Ev (fun k => impl_matchLengths.f k w p (at_ : Int) (L ++ [(a : Int)])) (match inner (w.length - at_) (FA w p at_) d L a with | none => ((if d = 0 then L ++ [(a : Int)] else []), false) | some L' => (L', true))) → Ev (fun k => impl_matchLengths.f k w p (at_ : Int) L) (mres (srch (w.length - at_) (FA w p at_) d L 1)) := by
  intro d L hL hin; have key : ∀ a, a ≤ w.length - at_ + 1 → Ev (fun k => impl_matchLengths.l0 k w p (at_ : Int) L (a : Int)) (mres (srch (w.length - at_) (FA w p at_) d L a)) := by
   refine down (w.length - at_ + 1) ?_ ?_
   ·rw [srch_end _ _ _ _ _ (by omega)]; refine Ev.step (fun k => by simp only [impl_matchLengths.l0]; rw [w_id (by omega) (by omega), _root_.if_neg (by omega)]) ?_; exact Ev.some _
   ·intro a ha ih; refine Ev.step (fun k => by simp only [impl_matchLengths.l0, slices_Clone_int_int.f]; rw [w_id (by omega) (by omega), _root_.if_pos (by omega), _root_.if_pos (show L.length < 17592186044416 by omega), Option.bind_some, _root_.if_pos (show L.length < 17592186044416 by omega), wsucc (i := a) (by omega)]) ?_; rw [srch_step _ _ _ _ _ (by omega)]; have hb := hin a; refine Ev.bind hb ?_; cases inner (w.length - at_) (FA w p at_) d L a with
    | none => exact Ev.if_neg (by simp) ih
    | some L' => exact Ev.if_pos rfl (Ev.some _)
  refine Ev.step (fun k => by simp only [impl_matchLengths.f]; rfl) ?_; refine Ev.bind (implLetters_ev p hp) (Ev.if_neg (by rw [_root_.if_pos h]; omega) ?_); exact key 1 (by omega)
 intro d
 induction d with
 | zero =>
  intro L hL; refine loop 0 L hL (fun a => ?_); have := implML_leaf w p at_ hw hp h (L ++ [(a : Int)]) (by simp; omega); refine Ev.same this ?_; simp only [inner, FA]; by_cases q : mAt w p at_ (L ++ [(a : Int)]) = true
  ·rw [_root_.if_pos q, q]
  ·rw [_root_.if_neg q, Bool.eq_false_iff.2 q]; rfl
 | succ d ih =>
  intro L hL; refine loop (d + 1) L hL (fun a => ?_); refine Ev.same (ih (L ++ [(a : Int)]) (by simp; omega)) ?_; simp only [inner]; cases srch (w.length - at_) (FA w p at_) d (L ++ [(a : Int)]) 1 <;> rfl
/-- The first match from a place on. -/
def fFrom (w p : List Int) (a : Nat) : Option (Nat × List Int) := (List.range' a (w.length - a)).findSome? fun i => (srch (w.length - i) (FA w p i) (nl p - 1) [] 1).map fun L => (i, L)
theorem fFrom_end (w p : List Int) (a : Nat) (h : w.length ≤ a) : fFrom w p a = none := by
 unfold fFrom; rw [show w.length - a = 0 from by omega]; rfl
theorem fFrom_step (w p : List Int) (a : Nat) (h : a < w.length) : fFrom w p a = ((srch (w.length - a) (FA w p a) (nl p - 1) [] 1).map fun L => (a, L)).or (fFrom w p (a + 1)) := by
 unfold fFrom; rw [show w.length - a = (w.length - (a + 1)) + 1 from by omega, List.range'_succ, List.findSome?_cons, show w.length - (a + 1) + 1 = w.length - a from by omega]; cases srch (w.length - a) (FA w p a) (nl p - 1) [] 1 <;> rfl
def fres : Option (Nat × List Int) → Int × List Int × Bool
 | none => (0, [], false)
 | some (i, L) => ((i : Int), L, true)
def fnd (w p : List Int) : Option (Nat × List Int) := if isPat p = true ∧ w.length ≤ 24 then fFrom w p 0 else none
theorem implFind_ev (w p : List Int) (hw : w.length ≤ 1048576) (hp : p.length ≤ 1048576) : Ev (fun k => impl_FindPattern.f k w p) (fres (fnd w p)) := by
 have bad : ∀ b, b = true → Ev (fun k => impl_FindPattern.j0 k w p b) (fres none) := fun b hb => by
  refine Ev.step (fun k => by simp only [impl_FindPattern.j0]; rw [_root_.if_pos hb]) ?_; exact Ev.some _
 unfold impl_FindPattern.f fnd; refine Ev.bind (implIsPattern_ev p hp) ?_; by_cases h : isPat p = true
 ·refine Ev.if_pos h ?_; by_cases h2 : w.length ≤ 24
  ·rw [_root_.if_pos ⟨h, h2⟩, decide_eq_false (by omega)]; have hn := isPat_nl h; have key : ∀ a, a ≤ w.length → Ev (fun k => impl_FindPattern.l0 k w p (w.length : Int) (a : Int)) (fres (fFrom w p a)) := by
    refine down w.length ?_ ?_
    ·refine Ev.step (fun k => by simp only [impl_FindPattern.l0]; rw [_root_.if_neg (by omega)]) ?_; rw [fFrom_end _ _ _ (Nat.le_refl _)]; exact Ev.some _
    ·intro a ha ih; refine Ev.step (fun k => by simp only [impl_FindPattern.l0]; rw [_root_.if_pos (by omega), wsucc (i := a) (by omega)]) ?_; rw [fFrom_step _ _ _ ha]; refine Ev.bind (implML_step w p a (by omega) (by omega) hp h (nl p - 1) [] (by simp only [List.length_nil]; omega)) ?_; cases srch (w.length - a) (FA w p a) (nl p - 1) [] 1 with
     | none => exact Ev.if_neg (by simp [mres]) ih
     | some L => exact Ev.if_pos rfl (Ev.some _)
   refine Ev.step (fun k => by simp only [impl_FindPattern.j0]; rw [_root_.if_neg (by simp)]) ?_; exact key 0 (by omega)
  ·rw [_root_.if_neg (fun q => h2 q.2), decide_eq_true (by omega)]; exact bad _ rfl
 ·rw [_root_.if_neg (fun q => h q.1)]; exact Ev.if_neg h (bad _ rfl)
theorem implAvoids_ev (w p : List Int) (hw : w.length ≤ 1048576) (hp : p.length ≤ 1048576) : Ev (fun k => impl_AvoidsPattern.f k w p) (decide (isPat p = true ∧ w.length ≤ 24 ∧ fnd w p = none)) := by
 unfold impl_AvoidsPattern.f; refine Ev.bind (implIsPattern_ev p hp) ?_; refine Ev.ite (fun h => ?_) (fun h => ?_)
 ·refine Ev.ite (fun h2 => ?_) (fun h2 => ?_)
  ·rw [decide_eq_false (by omega)]; exact Ev.some _
  ·refine Ev.bind (implFind_ev w p hw hp) (Ev.same (Ev.some _) ?_); cases q : fnd w p with
   | none => rw [decide_eq_true ⟨h, by omega, rfl⟩]; rfl
   | some x => rw [decide_eq_false (by simp)]; obtain ⟨i, L⟩ := x; rfl
 ·rw [decide_eq_false (fun q => h q.1)]; exact Ev.some _
theorem tot_mem (L p : List Int) (x : Int) (hx : x ∈ p) : (L.getD x.toNat 0).toNat ≤ tot L p := by
 induction p with
 | nil => cases hx
 | cons y p ih =>
  simp only [tot]; rcases List.mem_cons.1 hx with rfl | hx
  ·omega
  ·have := ih hx; omega
theorem mAt_small {w p : List Int} {at_ : Nat} {L : List Int} (h : mAt w p at_ L = true) : ∀ y ∈ L, y ≤ ((w.length - at_ : Nat) : Int) := by
 obtain ⟨h1, h2⟩ := mAt_len h; obtain ⟨h3, h4, h5, h6⟩ := okL_at h1; intro y hy; obtain ⟨j, hj, rfl⟩ := List.getElem_of_mem hy; have hm := (ngo_mem p 0 _ (isPat_nl h3).1).2 j (by omega) (by omega); have := tot_mem L p _ hm; rw [Int.toNat_natCast, List.getD_eq_getElem?_getD, List.getElem?_eq_getElem hj, Option.getD_some] at this; omega
/-- The three lengths, as the reference keeps them. -/
def abc (a b c : Nat) : List Int := [(a : Int), (b : Int), (c : Int)]
theorem abc_len (a b c : Nat) : (abc a b c).length = 3 := rfl
theorem rdA0 (a b c : Nat) : rd (abc a b c) 0 = (a : Int) := rfl
theorem rdA1 (a b c : Nat) : rd (abc a b c) 1 = (b : Int) := rfl
theorem rdA2 (a b c : Nat) : rd (abc a b c) 2 = (c : Int) := rfl
theorem setA0 (a b c v : Nat) : (abc a b c).set 0 (v : Int) = abc v b c := rfl
theorem setA1 (a b c v : Nat) : (abc a b c).set 1 (v : Int) = abc a v c := rfl
theorem oneA1 (a b c : Nat) : (abc a b c).set (Int.toNat 1) 1 = abc a 1 c := rfl
theorem oneA2 (a b c : Nat) : (abc a b c).set (Int.toNat 2) 1 = abc a b 1 := rfl
theorem dec1 : wrap64 ((1 : Int) - 1) = 0 := by unfold wrap64; omega
theorem dec2 : wrap64 ((2 : Int) - 1) = 1 := by unfold wrap64; omega
section find
variable (w p : List Int) (hw : w.length ≤ 24) (hp : p.length ≤ 1048576)
include hw
end find
end Go.Proofs.YtdekenijnbhpfaaDoor.M
namespace Go.Proofs.YtdekenijnbhpfaaDoor.M
open Go.RowKit Go.Proofs.YtdekenijnbhpfaaDoor.KW Go.Proofs.YtdekenijnbhpfaaDoorW.PrintWords Go.Proofs.YtdekenijnbhpfaaDoorW.PrintLast Go.Proofs.YtdekenijnbhpfaaDoorW.PrintMore
attribute [local go_sem] max2_int min2_int max_two min_two max_three min_three max_four min_four
set_option linter.unusedVariables false
set_option linter.unusedSimpArgs false
def impl_areLetters.l0 : Nat → Int → List Int → Int → Int → Option (Bool)
 | 0, _, _, _, _ => none
 | k + 1, x1, x7, x8, x9 => if x9 < x8 then (if 0 ≤ x9 then (if x9 < (x7.length : Int) then (if (rd x7 x9) < 0 then (some false) else (if (rd x7 x9) ≥ x1 then (some false) else (impl_areLetters.l0 k x1 x7 x8 (wrap64 (x9 + 1))))) else (none)) else (none)) else (some true)
def impl_areLetters.f (k : Nat) (l0 : List Int) (a1 : Int) : Option (Bool) := impl_areLetters.l0 k a1 l0 (l0.length : Int) 0
set_option maxHeartbeats 8000000 in
set_option maxRecDepth 100000 in
theorem impl_areLetters.calls (k : Nat) (A0 : Option Addr) (c0 : Nat) (l0 : List Int) (a1 : Int) (r : Bool) (w : World) (hr0 : Kd.C (Kd.int .i64) w A0 l0.length l0) (hc0 : l0.length ≤ c0) (h : impl_areLetters.f k l0 a1 = some r) :
  Calls Tryd.prog 129 #[.slice A0 l0.length c0, .int .i64 a1] w fun e w' => e = .returned (.bool r) ∧ Drawn0 w w' := by
 have HR0 := Aside0.mk hr0; have HC0 := Aside0.mk hc0; clear hr0 hc0; have H : (impl_areLetters.l0 k a1 l0 (l0.length : Int) 0) = some r := h; clear h; have H' := Aside0.mk H; clear H; go_enter Tryd.func129, Tryd.ntmps129; go_wp2; go_loopg [9] k (fun kq v9 w' => ∃ (x9_1 : Int), v9 = .int .i64 x9_1 ∧ Aside0 (impl_areLetters.l0 kq a1 l0 (l0.length : Int) x9_1 = some r) ∧ Aside0 (kq ≤ k) ∧ Drawn0 w w')
 case atStart => exact ⟨(0), (by first | rfl | (simp; done) | (simp [*]; done)), H', ⟨Nat.le_refl _⟩, by repeat (first | exact Drawn0.refl _ | apply Drawn0.step)⟩
 case round =>
  clear H'
  try clear c1
  try clear p2
  obtain ⟨x9_1, rfl, HA, HK1, ⟨m1, rfl⟩⟩ := hrel; cases gk with
  | zero => exact absurd HA.out (by simp [impl_areLetters.l0])
  | succ k1 =>
   have H := HA.out; clear HA; simp only [impl_areLetters.l0] at H; by_cases c3 : x9_1 < (l0.length : Int)
   ·rw [if_pos c3] at H; have c3b0 : decide (x9_1 < (l0.length : Int)) = true := decide_eq_true c3; clear c3; by_cases c4 : 0 ≤ x9_1
    ·rw [if_pos c4] at H; have c4b0 : decide (0 ≤ x9_1) = true := decide_eq_true c4; clear c4; by_cases c5 : x9_1 < (l0.length : Int)
     ·rw [if_pos c5] at H; have c5b0 : decide (x9_1 < (l0.length : Int)) = true := decide_eq_true c5; clear c5; by_cases c6 : (rd l0 x9_1) < 0
      ·rw [if_pos c6] at H; have c6b0 : decide ((rd l0 x9_1) < 0) = true := decide_eq_true c6; clear c6; obtain rfl := Option.some.inj H; have p272 : 0 ≤ (x9_1 : Int) := of_decide_eq_true (by first | (with_reducible assumption) | assumption); have q272 : x9_1 < (l0.length : Int) := of_decide_eq_true (by first | (with_reducible assumption) | assumption); obtain ⟨ad272, e272, hx272_0⟩ := Kd.at_int HR0.out x9_1 p272 q272; cases e272; replace p272 := eq_true p272; replace q272 := eq_true q272; go_wp2; go_ret; exact ⟨by first | rfl | (simp; done) | (simp [*]; done), by repeat (first | exact Drawn0.refl _ | apply Drawn0.step)⟩
      ·rw [if_neg c6] at H; have c6b0 : decide ((rd l0 x9_1) < 0) = false := decide_eq_false c6; clear c6; by_cases c7 : (rd l0 x9_1) ≥ a1
       ·rw [if_pos c7] at H; have c7b0 : decide (a1 ≤ (rd l0 x9_1)) = true := decide_eq_true c7; clear c7; obtain rfl := Option.some.inj H; have p272 : 0 ≤ (x9_1 : Int) := of_decide_eq_true (by first | (with_reducible assumption) | assumption); have q272 : x9_1 < (l0.length : Int) := of_decide_eq_true (by first | (with_reducible assumption) | assumption); obtain ⟨ad272, e272, hx272_0⟩ := Kd.at_int HR0.out x9_1 p272 q272; cases e272; replace p272 := eq_true p272; replace q272 := eq_true q272; go_wp2; go_ret; exact ⟨by first | rfl | (simp; done) | (simp [*]; done), by repeat (first | exact Drawn0.refl _ | apply Drawn0.step)⟩
       ·rw [if_neg c7] at H; have c7b0 : decide (a1 ≤ (rd l0 x9_1)) = false := decide_eq_false c7; clear c7; have H' := Aside0.mk H; clear H; have p272 : 0 ≤ (x9_1 : Int) := of_decide_eq_true (by first | (with_reducible assumption) | assumption); have q272 : x9_1 < (l0.length : Int) := of_decide_eq_true (by first | (with_reducible assumption) | assumption); obtain ⟨ad272, e272, hx272_0⟩ := Kd.at_int HR0.out x9_1 p272 q272; cases e272; replace p272 := eq_true p272; replace q272 := eq_true q272; go_wp2; go_roundg k1
        case measure => have := HK1.out; omega
        case rel => exact ⟨(wrap64 (x9_1 + 1)), (by first | rfl | (simp; done) | (simp [*]; done)), H', ⟨by have := HK1.out; omega⟩, by repeat (first | exact Drawn0.refl _ | apply Drawn0.step)⟩
     ·rw [if_neg c5] at H; exact absurd H (by simp)
    ·rw [if_neg c4] at H; exact absurd H (by simp)
   ·rw [if_neg c3] at H; have c3b0 : decide (x9_1 < (l0.length : Int)) = false := decide_eq_false c3; clear c3; obtain rfl := Option.some.inj H; go_wp2; go_ret; exact ⟨by first | rfl | (simp; done) | (simp [*]; done), by repeat (first | exact Drawn0.refl _ | apply Drawn0.step)⟩
def impl_IsWord.f (k : Nat) (l0 : List Int) (a1 : Int) : Option (Bool) := if a1 ≥ 1 then (if a1 ≤ 16 then (if (l0.length : Int) ≤ 400 then ((impl_areLetters.f k l0 a1).bind fun t273 => (some t273)) else (some false)) else (some false)) else (some false)
set_option maxHeartbeats 8000000 in
set_option maxRecDepth 100000 in
theorem impl_IsWord.calls (k : Nat) (A0 : Option Addr) (c0 : Nat) (l0 : List Int) (a1 : Int) (r : Bool) (w : World) (hr0 : Kd.C (Kd.int .i64) w A0 l0.length l0) (hc0 : l0.length ≤ c0) (h : impl_IsWord.f k l0 a1 = some r) :
  Calls Tryd.prog 92 #[.slice A0 l0.length c0, .int .i64 a1] w fun e w' => e = .returned (.bool r) ∧ Drawn0 w w' := by
 have HR0 := Aside0.mk hr0; have HC0 := Aside0.mk hc0; clear hr0 hc0; have H : (if a1 ≥ 1 then (if a1 ≤ 16 then (if (l0.length : Int) ≤ 400 then ((impl_areLetters.f k l0 a1).bind fun t273 => (some t273)) else (some false)) else (some false)) else (some false)) = some r := h; clear h; by_cases c3 : a1 ≥ 1
 ·rw [if_pos c3] at H; have c3b0 : decide (1 ≤ a1) = true := decide_eq_true c3; clear c3; by_cases c4 : a1 ≤ 16
  ·rw [if_pos c4] at H; have c4b0 : decide (a1 ≤ 16) = true := decide_eq_true c4; clear c4; by_cases c5 : (l0.length : Int) ≤ 400
   ·rw [if_pos c5] at H; have c5b0 : decide ((l0.length : Int) ≤ 400) = true := decide_eq_true c5; have c5b1 : decide (l0.length ≤ 400) = true := decide_eq_true (by omega); clear c5; replace H := Option.bind_eq_some_iff.mp H; obtain ⟨t273, A60, H⟩ := H; replace H : (some t273) = some r := H; have A6 := Aside0.mk A60; clear A60; obtain rfl := Option.some.inj H; go_enter Tryd.func92, Tryd.ntmps92; go_wp2_with (first | (go_at_call 129; (with_reducible refine (impl_areLetters.calls k _ _ l0 a1 t273 _ ?side1 ?side2 A6.out).mono ?_); (case side1 => repeat (first | exact HR0.out | (with_reducible refine Kd.C_alloc ?_ _) | (with_reducible refine Kd.C_drewN ?_ _) | (with_reducible refine Kd.C_drew ?_))); (case side2 => exact HC0.out); rintro e w' ⟨rfl, ⟨nd, rfl⟩⟩)); go_ret; exact ⟨by first | rfl | (simp; done) | (simp [*]; done), by repeat (first | exact Drawn0.refl _ | apply Drawn0.step)⟩
   ·rw [if_neg c5] at H; have c5b0 : decide ((l0.length : Int) ≤ 400) = false := decide_eq_false c5; have c5b1 : decide (l0.length ≤ 400) = false := decide_eq_false (by omega); clear c5; obtain rfl := Option.some.inj H; go_enter Tryd.func92, Tryd.ntmps92; go_wp2; go_ret; exact ⟨by first | rfl | (simp; done) | (simp [*]; done), by repeat (first | exact Drawn0.refl _ | apply Drawn0.step)⟩
  ·rw [if_neg c4] at H; have c4b0 : decide (a1 ≤ 16) = false := decide_eq_false c4; clear c4; obtain rfl := Option.some.inj H; go_enter Tryd.func92, Tryd.ntmps92; go_wp2; go_ret; exact ⟨by first | rfl | (simp; done) | (simp [*]; done), by repeat (first | exact Drawn0.refl _ | apply Drawn0.step)⟩
 ·rw [if_neg c3] at H; have c3b0 : decide (1 ≤ a1) = false := decide_eq_false c3; clear c3; obtain rfl := Option.some.inj H; go_enter Tryd.func92, Tryd.ntmps92; go_wp2; go_ret; exact ⟨by first | rfl | (simp; done) | (simp [*]; done), by repeat (first | exact Drawn0.refl _ | apply Drawn0.step)⟩
end Go.Proofs.YtdekenijnbhpfaaDoor.M
/- Words as values: program and reference tell the same. No condition but lengths that fit. -/
namespace Go.Proofs.YtdekenijnbhpfaaDoor.M
open Go.RowKit Go.Proofs.YtdekenijnbhpfaaDoorW.PrintWords Go.Proofs.YtdekenijnbhpfaaDoor.K
set_option linter.unusedVariables false
def isL (w : List Int) (n : Nat) : Bool := w.all fun x => decide (0 ≤ x ∧ x < (n : Int))
theorem isL_cons (x : Int) (w : List Int) (n : Nat) : isL (x :: w) n = (decide (0 ≤ x ∧ x < (n : Int)) && isL w n) := by simp [isL]
def iw (w : List Int) (n : Nat) : Bool := isL w n && (decide (1 ≤ n ∧ n ≤ 16) && decide (w.length ≤ 400))
theorem specIsWord_ev (w : List Int) (n : Nat) (hw : w.length ≤ 1048576) : Ev (fun k => spec_IsWord.f k w (n : Int)) (iw w n) := by
 have key : ∀ i, i ≤ w.length → Ev (fun k => spec_IsWord.l0 k w (n : Int) (i : Int)) (isL (w.drop i) n && (decide (1 ≤ n ∧ n ≤ 16) && decide (w.length ≤ 400))) := by
  refine down w.length ?_ ?_
  ·refine Ev.step (fun k => by simp only [spec_IsWord.l0]; rw [_root_.if_neg (by omega)]) ?_; refine Ev.bind (Ev.val (in_val _ _ _)) ?_; rw [List.drop_length]; by_cases q : 1 ≤ n ∧ n ≤ 16
   ·rw [decide_eq_true (show 1 ≤ (n : Int) ∧ (n : Int) ≤ 16 by omega)]; refine Ev.if_pos rfl (Ev.same (Ev.some _) ?_); rw [decide_eq_true q]; simp [isL]; omega
   ·rw [decide_eq_false (show ¬ (1 ≤ (n : Int) ∧ (n : Int) ≤ 16) by omega)]; refine Ev.if_neg (by simp) (Ev.same (Ev.some _) ?_); rw [decide_eq_false q]; simp
  ·intro i hi ih; rw [drop_eq w i hi, isL_cons]; refine Ev.step (fun k => by simp only [spec_IsWord.l0]; rw [_root_.if_pos (by omega), _root_.if_pos (by omega), wsucc (by omega), rd_get w i hi]) ?_; refine Ev.ite (fun q => ?_) (fun q => ?_)
   ·rw [decide_eq_false (by omega)]; exact Ev.some _
   ·refine Ev.ite (fun q2 => ?_) (fun q2 => ?_)
    ·rw [decide_eq_false (by omega)]; exact Ev.some _
    ·rw [decide_eq_true (by omega), Bool.true_and]; exact ih
 exact key 0 (by omega)
theorem areLetters_ev (w : List Int) (n : Nat) (hw : w.length ≤ 1048576) : Ev (fun k => impl_areLetters.f k w (n : Int)) (isL w n) := by
 have key : ∀ i, i ≤ w.length → Ev (fun k => impl_areLetters.l0 k (n : Int) w (w.length : Int) (i : Int)) (isL (w.drop i) n) := by
  refine down w.length ?_ ?_
  ·refine Ev.step (fun k => by simp only [impl_areLetters.l0]; rw [_root_.if_neg (by omega)]) ?_; rw [List.drop_length]; exact Ev.some _
  ·intro i hi ih; rw [drop_eq w i hi, isL_cons]; refine Ev.step (fun k => by simp only [impl_areLetters.l0]; rw [_root_.if_pos (by omega), _root_.if_pos (by omega), _root_.if_pos (by omega), wsucc (by omega), rd_get w i hi]) ?_; refine Ev.ite (fun q => ?_) (fun q => ?_)
   ·rw [decide_eq_false (by omega)]; exact Ev.some _
   ·refine Ev.ite (fun q2 => ?_) (fun q2 => ?_)
    ·rw [decide_eq_false (by omega)]; exact Ev.some _
    ·rw [decide_eq_true (by omega), Bool.true_and]; exact ih
 unfold impl_areLetters.f; exact key 0 (by omega)
theorem implIsWord_ev (w : List Int) (n : Nat) (hw : w.length ≤ 1048576) : Ev (fun k => impl_IsWord.f k w (n : Int)) (iw w n) := by
 unfold impl_IsWord.f iw; refine Ev.ite (fun q => ?_) (fun q => ?_)
 ·refine Ev.ite (fun q2 => ?_) (fun q2 => ?_)
  ·refine Ev.ite (fun q3 => ?_) (fun q3 => ?_)
   ·refine Ev.bind (areLetters_ev w n hw) (Ev.same (Ev.some _) ?_); rw [decide_eq_true (show 1 ≤ n ∧ n ≤ 16 by omega), decide_eq_true (show w.length ≤ 400 by omega)]; simp
   ·refine Ev.same (Ev.some _) ?_; rw [decide_eq_false (show ¬ w.length ≤ 400 by omega)]; simp
  ·refine Ev.same (Ev.some _) ?_; rw [decide_eq_false (show ¬ (1 ≤ n ∧ n ≤ 16) by omega)]; simp
 ·refine Ev.same (Ev.some _) ?_; rw [decide_eq_false (show ¬ (1 ≤ n ∧ n ≤ 16) by omega)]; simp
end Go.Proofs.YtdekenijnbhpfaaDoor.M
namespace Go.Proofs.YtdekenijnbhpfaaDoor.M
open Go.RowKit Go.Proofs.YtdekenijnbhpfaaDoor.KW Go.Proofs.YtdekenijnbhpfaaDoorW.PrintWords Go.Proofs.YtdekenijnbhpfaaDoorW.PrintLast Go.Proofs.YtdekenijnbhpfaaDoorW.PrintMore
attribute [local go_sem] max2_int min2_int max_two min_two max_three min_three max_four min_four
set_option linter.unusedVariables false
set_option linter.unusedSimpArgs false
def laws_toIntS.l0 : Nat → List Int → List Int → Int → Option (List Int)
 | 0, _, _, _ => none
 | k + 1, x0, x3, x4 => if x4 < (x0.length : Int) then (if 0 ≤ x4 then (if x4 < (x3.length : Int) then (laws_toIntS.l0 k x0 (x3.set (x4 : Int).toNat (rd x0 x4)) (wrap64 (x4 + 1))) else (none)) else (none)) else (some x3)
def laws_toIntS.f (k : Nat) (l0 : List Int) : Option (List Int) := if 0 ≤ (l0.length : Int) then (if ((l0.length : Int) : Int).toNat ≤ 35184372088832 then (laws_toIntS.l0 k l0 (List.replicate ((l0.length : Int) : Int).toNat 0) 0) else (none)) else (none)
set_option maxHeartbeats 8000000 in
set_option maxRecDepth 100000 in
theorem laws_toIntS.calls (k : Nat) (A0 : Option Addr) (c0 : Nat) (l0 : List Int) (r : List Int) (w : World) (hr0 : Kd.C (Kd.int .i64) w A0 l0.length l0) (hc0 : l0.length ≤ c0) (h : laws_toIntS.f k l0 = some r) :
  Calls Tryd.prog 9 #[.slice A0 l0.length c0] w fun e w' => ∃ v0_ : Value, e = .returned (v0_) ∧ Kd.R (Kd.int .i64) 3 w' w.heap.size (fun _ => True) v0_ r ∧ Below w.heap.size w w' := by
 have HR0 := Aside0.mk hr0; have HC0 := Aside0.mk hc0; clear hr0 hc0; have HB := Aside0.mk (Below.refl w.heap.size w); have H : (if 0 ≤ (l0.length : Int) then (if ((l0.length : Int) : Int).toNat ≤ 35184372088832 then (laws_toIntS.l0 k l0 (List.replicate ((l0.length : Int) : Int).toNat 0) 0) else (none)) else (none)) = some r := h; clear h; by_cases c2 : 0 ≤ (l0.length : Int)
 ·rw [if_pos c2] at H; have c2b0 := eq_true c2; have c2b1 : decide (0 ≤ (l0.length : Int)) = true := decide_eq_true c2; clear c2; by_cases c3 : ((l0.length : Int) : Int).toNat ≤ 35184372088832
  ·rw [if_pos c3] at H; have c3b0 := eq_true c3; have c3b1 : decide (((l0.length : Int) : Int).toNat ≤ 35184372088832) = true := decide_eq_true c3; clear c3; obtain ⟨y230, hy230⟩ : ∃ y_ : List Int, y_ = (List.replicate ((l0.length : Int) : Int).toNat 0) := ⟨_, rfl⟩; replace H : (laws_toIntS.l0 k l0 y230 0) = some r := by first | (rw [hy230]; with_reducible exact H) | (have H2_ := (Option.bind_some _ _).symm.trans H; rw [hy230]; with_reducible exact H2_) | (have H2_ := (Option.bind_some _ _).symm.trans H; with_reducible exact H2_) | with_reducible exact H | (rw [hy230]; exact H) | exact H
   have Ny230 := Aside0.mk hy230; clear hy230; have H' := Aside0.mk H; clear H; go_enter Tryd.func9, Tryd.ntmps9; go_wp2_with (first | ((with_reducible refine gate_dst (N := 7) rfl ?_); refine Kd.R_make (Kd.int .i64) _ 3 rfl (N := 7) rfl 22 _ _ rfl (l0.length : Int) rfl rfl Tryd.underlying22 (.int .i64 0) 8 info3 rfl (by decide) (by omega) 0 (ok := fun _ => True) (okp := fun _ => True) rfl (fun _ hk => hk) trivial (of_decide_eq_true (by first | (with_reducible assumption) | assumption)) (Nat.le_trans (Nat.mul_le_mul_right _ (of_decide_eq_true (by first | (with_reducible assumption) | assumption) : (l0.length : Int).toNat ≤ 35184372088832)) (by omega)) (Below.refl _ _) (Nat.le_refl _) ?_; intro v231 w4 ho5 hb hg_ hnew_; clear hg_ hnew_; (first | rw [← Ny230.out] at ho5 | (simp only [Int.reduceToNat] at ho5; rw [← Ny230.out] at ho5)); have n0_ := Aside0.mk (Kd.R_lower ho5 (below_size (by repeat (first | (with_reducible first | exact HB.out | apply below_alloc | apply pw_below_drewN | apply below_drew1) | exact HB.out)))); have n1_ := Aside0.mk (below_step (by repeat (first | (with_reducible first | exact HB.out | apply below_alloc | apply pw_below_drewN | apply below_drew1) | exact HB.out)) hb); clear HB; have HO232 := n0_; have HB := n1_; clear n0_ n1_; clear hb ho5)); go_loopg [4] k (fun kq v4 w' => ∃ (x3_1 : List Int) (x4_1 : Int), v4 = .int .i64 x4_1 ∧ Aside0 (laws_toIntS.l0 kq l0 x3_1 x4_1 = some r) ∧ Aside0 (kq ≤ k) ∧ Aside0 (Kd.R (Kd.int .i64) 3 w' w.heap.size (fun _ => True) v231 x3_1) ∧ Aside0 (Below w.heap.size w w'))
   case atStart => exact ⟨(y230), (0), (by first | rfl | (simp; done) | (simp [*]; done)), H', ⟨Nat.le_refl _⟩, ⟨by (with_reducible repeat (first | apply Kd.R_alloc | apply Kd.R_drewN | apply Kd.R_drew)); exact HO232.out⟩, ⟨by repeat (first | (with_reducible first | exact HB.out | apply below_alloc | apply pw_below_drewN | apply below_drew1) | exact HB.out)⟩⟩
   case round =>
    clear H'
    try clear c2
    try clear c2b0
    try clear c2b1
    try clear p2
    try clear c3
    try clear c3b0
    try clear c3b1
    obtain ⟨x3_1, x4_1, rfl, HA, HK1, HO_3, HB⟩ := hrel; cases gk with
    | zero => exact absurd HA.out (by simp [laws_toIntS.l0])
    | succ k1 =>
     have H := HA.out; clear HA; simp only [laws_toIntS.l0] at H; by_cases c6 : x4_1 < (l0.length : Int)
     ·rw [if_pos c6] at H; have c6b0 : decide (x4_1 < (l0.length : Int)) = true := decide_eq_true c6; clear c6; by_cases c7 : 0 ≤ x4_1
      ·rw [if_pos c7] at H; have c7b0 : decide (0 ≤ x4_1) = true := decide_eq_true c7; clear c7; by_cases c8 : x4_1 < (x3_1.length : Int)
       ·rw [if_pos c8] at H; have c8b0 : decide (x4_1 < (x3_1.length : Int)) = true := decide_eq_true c8; clear c8; obtain ⟨y234, hy234⟩ : ∃ y_ : List Int, y_ = (x3_1.set (x4_1 : Int).toNat (rd l0 x4_1)) := ⟨_, rfl⟩; replace H : (laws_toIntS.l0 k1 l0 y234 (wrap64 (x4_1 + 1))) = some r := by first | (rw [hy234]; with_reducible exact H) | (have H2_ := (Option.bind_some _ _).symm.trans H; rw [hy234]; with_reducible exact H2_) | (have H2_ := (Option.bind_some _ _).symm.trans H; with_reducible exact H2_) | with_reducible exact H | (rw [hy234]; exact H) | exact H
        have Ny234 := Aside0.mk hy234; clear hy234; have H' := Aside0.mk H; clear H; have p233 : 0 ≤ (x4_1 : Int) := of_decide_eq_true (by first | (with_reducible assumption) | assumption); have q233 : x4_1 < (l0.length : Int) := of_decide_eq_true (by first | (with_reducible assumption) | assumption); obtain ⟨ad233, e233, hx233_0⟩ := Kd.at_int HR0.out x4_1 p233 q233; cases e233; replace hx233_0 := (HB.out.cell (World.block_lt_of_cell? w _ hx233_0)).trans hx233_0; replace p233 := eq_true p233; replace q233 := eq_true q233; have p9 : 0 ≤ (x4_1 : Int) := of_decide_eq_true (by first | (with_reducible assumption) | assumption); have q9 : (x4_1 : Int) < ((x3_1.length : Int) : Int) := of_decide_eq_true (by first | (with_reducible assumption) | assumption); obtain ⟨go9, co9, eo9, gb9, gl9, cl9, HG9⟩ := Kd.R_form HO_3.out (by omega)
        (first | cases eo9 | (injection eo9 with ea_ en_ ec_; (first | subst ea_ | (injection ea_ with ea_; subst ea_)); subst ec_; clear en_))
        have GB9 := Aside0.mk gb9; have GG9 := Aside0.mk HG9; clear gb9 gl9 HG9; obtain ⟨hx9_0, hf9_0⟩ := Kd.R_celln 0 HO_3.out (x4_1 : Int) p9 q9; replace p9 := eq_true p9; replace q9 := eq_true q9; have HP10 := Kd.R_putg HO_3.out (x4_1 : Int) (rd l0 x4_1); go_wp2_with (first | ((with_reducible refine gate_store (t := 3) (p := 20) rfl ?_); refine store_event (t := 3) (p := 20) (v := ?vo_w11) (w1 := (wr.setCell ⟨go9, (x4_1 : Int).toNat, none⟩ (.int .i64 (rd l0 x4_1)))) ?hg ?ho ?hn ?hr ?_; (case ho => rfl); (case hg => rfl); (case hn => rfl); (case hr => first | (go_simp; done) | (go_simp; rfl)); intro w11 hw; have hg : wr.grownBy w11 (some go9) := (by rw [hw]; exact HP10.2); have hp_ : Kd.R (Kd.int .i64) 3 w11 w.heap.size (fun _ => True) (.slice (some ⟨go9, 0, none⟩) x3_1.length co9) y234 := (by rw [hw, Ny234.out]; exact HP10.1); clear HP10; have n0_ := Aside0.mk (hp_); have n1_ := Aside0.mk ((by rw [hw]; exact below_set (HB.out) GB9.out : Below w.heap.size w w11)); clear HO_3; clear HB; have HO_3 := n0_; have HB := n1_; clear n0_ n1_; clear hg hw hp_)); go_roundg k1
        case measure => have := HK1.out; omega
        case rel => exact ⟨(y234), (wrap64 (x4_1 + 1)), (by first | rfl | (simp; done) | (simp [*]; done)), H', ⟨by have := HK1.out; omega⟩, ⟨by (with_reducible repeat (first | apply Kd.R_alloc | apply Kd.R_drewN | apply Kd.R_drew)); exact HO_3.out⟩, ⟨by repeat (first | (with_reducible first | exact HB.out | apply below_alloc | apply pw_below_drewN | apply below_drew1) | exact HB.out)⟩⟩
       ·rw [if_neg c8] at H; exact absurd H (by simp)
      ·rw [if_neg c7] at H; exact absurd H (by simp)
     ·rw [if_neg c6] at H; have c6b0 : decide (x4_1 < (l0.length : Int)) = false := decide_eq_false c6; clear c6; obtain rfl := Option.some.inj H; go_wp2; go_ret; exact ⟨_, by first | rfl | (simp [errW_none, errW_some] <;> rfl) | (simp [*, errW_none, errW_some] <;> rfl), by (with_reducible repeat (first | apply Kd.R_alloc | apply Kd.R_drewN | apply Kd.R_drew)); exact HO_3.out, by repeat (first | (with_reducible first | exact HB.out | apply below_alloc | apply pw_below_drewN | apply below_drew1) | exact HB.out)⟩
  ·rw [if_neg c3] at H; exact absurd H (by simp)
 ·rw [if_neg c2] at H; exact absurd H (by simp)
def laws_eqIntS.l0 : Nat → List Int → List Int → Int → Option (Bool)
 | 0, _, _, _ => none
 | k + 1, x0, x1, x5 => if x5 < (x0.length : Int) then (if 0 ≤ x5 then (if x5 < (x1.length : Int) then (if (rd x0 x5) = (rd x1 x5) then (laws_eqIntS.l0 k x0 x1 (wrap64 (x5 + 1))) else (some false)) else (none)) else (none)) else (some true)
def laws_eqIntS.f (k : Nat) (l0 : List Int) (l1 : List Int) : Option (Bool) := if (l0.length : Int) = (l1.length : Int) then (laws_eqIntS.l0 k l0 l1 0) else (some false)
set_option maxHeartbeats 8000000 in
set_option maxRecDepth 100000 in
theorem laws_eqIntS.calls (k : Nat) (A0 : Option Addr) (c0 : Nat) (l0 : List Int) (A1 : Option Addr) (c1 : Nat) (l1 : List Int) (r : Bool) (w : World) (hr0 : Kd.C (Kd.int .i64) w A0 l0.length l0) (hc0 : l0.length ≤ c0) (hr1 : Kd.C (Kd.int .i64) w A1 l1.length l1) (hc1 : l1.length ≤ c1) (h : laws_eqIntS.f k l0 l1 = some r) :
  Calls Tryd.prog 11 #[.slice A0 l0.length c0, .slice A1 l1.length c1] w fun e w' => e = .returned (.bool r) ∧ Drawn0 w w' := by
 have HR0 := Aside0.mk hr0; have HC0 := Aside0.mk hc0; clear hr0 hc0; have HR1 := Aside0.mk hr1; have HC1 := Aside0.mk hc1; clear hr1 hc1; have H : (if (l0.length : Int) = (l1.length : Int) then (laws_eqIntS.l0 k l0 l1 0) else (some false)) = some r := h; clear h; by_cases c3 : (l0.length : Int) = (l1.length : Int)
 ·rw [if_pos c3] at H; have c3b0 : ((l0.length : Int) == (l1.length : Int)) = true := beq_iff_eq.mpr c3; have c3b1 : ((l0.length : Int) != (l1.length : Int)) = false := bne_eq_false_iff_eq.mpr c3; have c3b2 : (l0.length == l1.length) = true := by first | simpa using c3 | (simp at c3 ⊢; omega)
  clear c3; have H' := Aside0.mk H; clear H; go_enter Tryd.func11, Tryd.ntmps11; go_wp2
  repeat (go_quiet (fail); try go_wp2)
  go_loopg [5] k (fun kq v5 w' => ∃ (x5_1 : Int), v5 = .int .i64 x5_1 ∧ Aside0 (laws_eqIntS.l0 kq l0 l1 x5_1 = some r) ∧ Aside0 (kq ≤ k) ∧ Drawn0 w w')
  case atStart => exact ⟨(0), (by first | rfl | (simp; done) | (simp [*]; done)), H', ⟨Nat.le_refl _⟩, by repeat (first | exact Drawn0.refl _ | apply Drawn0.step)⟩
  case round =>
   clear H'
   try clear c1
   try clear p2
   try clear c3
   try clear c3b0
   try clear c3b1
   try clear c3b2
   obtain ⟨x5_1, rfl, HA, HK1, ⟨m1, rfl⟩⟩ := hrel; cases gk with
   | zero => exact absurd HA.out (by simp [laws_eqIntS.l0])
   | succ k1 =>
    have H := HA.out; clear HA; simp only [laws_eqIntS.l0] at H; by_cases c4 : x5_1 < (l0.length : Int)
    ·rw [if_pos c4] at H; have c4b0 : decide (x5_1 < (l0.length : Int)) = true := decide_eq_true c4; clear c4; by_cases c5 : 0 ≤ x5_1
     ·rw [if_pos c5] at H; have c5b0 : decide (0 ≤ x5_1) = true := decide_eq_true c5; clear c5; by_cases c6 : x5_1 < (l1.length : Int)
      ·rw [if_pos c6] at H; have c6b0 : decide (x5_1 < (l1.length : Int)) = true := decide_eq_true c6; clear c6; by_cases c7 : (rd l0 x5_1) = (rd l1 x5_1)
       ·rw [if_pos c7] at H; have c7b0 : ((rd l0 x5_1) == (rd l1 x5_1)) = true := beq_iff_eq.mpr c7; have c7b1 : ((rd l0 x5_1) != (rd l1 x5_1)) = false := bne_eq_false_iff_eq.mpr c7; clear c7; have H' := Aside0.mk H; clear H; have p343 : 0 ≤ (x5_1 : Int) := of_decide_eq_true (by first | (with_reducible assumption) | assumption); have q343 : x5_1 < (l0.length : Int) := of_decide_eq_true (by first | (with_reducible assumption) | assumption); obtain ⟨ad343, e343, hx343_0⟩ := Kd.at_int HR0.out x5_1 p343 q343; cases e343; replace p343 := eq_true p343; replace q343 := eq_true q343; have p344 : 0 ≤ (x5_1 : Int) := of_decide_eq_true (by first | (with_reducible assumption) | assumption); have q344 : x5_1 < (l1.length : Int) := of_decide_eq_true (by first | (with_reducible assumption) | assumption); obtain ⟨ad344, e344, hx344_0⟩ := Kd.at_int HR1.out x5_1 p344 q344; cases e344; replace p344 := eq_true p344; replace q344 := eq_true q344; go_wp2
        repeat (go_quiet (fail); try go_wp2)
        go_roundg k1
        case measure => have := HK1.out; omega
        case rel => exact ⟨(wrap64 (x5_1 + 1)), (by first | rfl | (simp; done) | (simp [*]; done)), H', ⟨by have := HK1.out; omega⟩, by repeat (first | exact Drawn0.refl _ | apply Drawn0.step)⟩
       ·rw [if_neg c7] at H; have c7b0 : ((rd l0 x5_1) == (rd l1 x5_1)) = false := beq_eq_false_iff_ne.mpr c7; have c7b1 : ((rd l0 x5_1) != (rd l1 x5_1)) = true := bne_iff_ne.mpr c7; obtain rfl := Option.some.inj H; have p343 : 0 ≤ (x5_1 : Int) := of_decide_eq_true (by first | (with_reducible assumption) | assumption); have q343 : x5_1 < (l0.length : Int) := of_decide_eq_true (by first | (with_reducible assumption) | assumption); obtain ⟨ad343, e343, hx343_0⟩ := Kd.at_int HR0.out x5_1 p343 q343; cases e343; replace p343 := eq_true p343; replace q343 := eq_true q343; have p344 : 0 ≤ (x5_1 : Int) := of_decide_eq_true (by first | (with_reducible assumption) | assumption); have q344 : x5_1 < (l1.length : Int) := of_decide_eq_true (by first | (with_reducible assumption) | assumption); obtain ⟨ad344, e344, hx344_0⟩ := Kd.at_int HR1.out x5_1 p344 q344; cases e344; replace p344 := eq_true p344; replace q344 := eq_true q344; go_wp2
        repeat (go_quiet (fail); try go_wp2)
        go_ret; exact ⟨by first | rfl | (simp; done) | (simp [*]; done), by repeat (first | exact Drawn0.refl _ | apply Drawn0.step)⟩
      ·rw [if_neg c6] at H; exact absurd H (by simp)
     ·rw [if_neg c5] at H; exact absurd H (by simp)
    ·rw [if_neg c4] at H; have c4b0 : decide (x5_1 < (l0.length : Int)) = false := decide_eq_false c4; clear c4; obtain rfl := Option.some.inj H; go_wp2
     repeat (go_quiet (fail); try go_wp2)
     go_ret; exact ⟨by first | rfl | (simp; done) | (simp [*]; done), by repeat (first | exact Drawn0.refl _ | apply Drawn0.step)⟩
 ·rw [if_neg c3] at H; have c3b0 : ((l0.length : Int) == (l1.length : Int)) = false := beq_eq_false_iff_ne.mpr c3; have c3b1 : ((l0.length : Int) != (l1.length : Int)) = true := bne_iff_ne.mpr c3; have c3b2 : (l0.length == l1.length) = false := by first | simpa using c3 | (simp at c3 ⊢; omega)
  obtain rfl := Option.some.inj H; go_enter Tryd.func11, Tryd.ntmps11; go_wp2
  repeat (go_quiet (fail); try go_wp2)
  go_ret; exact ⟨by first | rfl | (simp; done) | (simp [*]; done), by repeat (first | exact Drawn0.refl _ | apply Drawn0.step)⟩
end Go.Proofs.YtdekenijnbhpfaaDoor.M
/- What the laws' own small functions on rows of whole numbers come to: a copy is the row, two rows are held against each other, marks are laid and found. No condition but lengths that fit. -/
namespace Go.Proofs.YtdekenijnbhpfaaDoor.M
open Go.RowKit Go.Proofs.YtdekenijnbhpfaaDoorW.PrintWords Go.Proofs.YtdekenijnbhpfaaDoor.K
theorem toIntS_ev (l : List Int) (h : l.length ≤ 1048576) : Ev (fun k => laws_toIntS.f k l) l := by
 have key : ∀ i, i ≤ l.length → ∀ f : Nat → Int, (∀ j, j < i → f j = l.getD j 0) → Ev (fun k => laws_toIntS.l0 k l (row l.length f) (i : Int)) l := by
  refine down l.length ?_ ?_
  ·intro f hf; refine Ev.step (fun k => by simp only [laws_toIntS.l0]; rw [_root_.if_neg (by omega)]) ?_; rw [row_congr _ _ _ hf, row_of]; exact Ev.some _
  ·intro i hi ih f hf; refine Ev.step (fun k => by simp only [laws_toIntS.l0]; rw [_root_.if_pos (by omega), _root_.if_pos (by omega), _root_.if_pos (by rw [row_length]; omega), wsucc (by omega), Int.toNat_natCast, rd_at, row_set]) (ih _ ?_); intro j hj; by_cases e : j = i
   ·rw [_root_.if_pos e, e]
   ·rw [_root_.if_neg e]; exact hf j (by omega)
 unfold laws_toIntS.f; refine Ev.if_pos (by omega) (Ev.if_pos (by omega) ?_); rw [Int.toNat_natCast, row_replicate]; exact key 0 (by omega) _ (fun j hj => by omega)
theorem eqIntS_ev (a b : List Int) (h : a.length < 9223372036854775807) : Ev (fun k => laws_eqIntS.f k a b) (decide (a = b)) := by
 unfold laws_eqIntS.f; refine Ev.ite (fun e => ?_) (fun e => ?_)
 ·have e' : a.length = b.length := by omega
  have key : ∀ i, i ≤ a.length → Ev (fun k => laws_eqIntS.l0 k a b (i : Int)) (decide (a.drop i = b.drop i)) := by
   refine down a.length ?_ ?_
   ·refine Ev.step (fun k => by simp only [laws_eqIntS.l0]; rw [_root_.if_neg (by omega)]) ?_; rw [List.drop_length, e', List.drop_length]; exact Ev.some _
   ·intro i hi ih; refine Ev.step (fun k => by simp only [laws_eqIntS.l0]; rw [_root_.if_pos (by omega), _root_.if_pos (by omega), _root_.if_pos (by omega), wsucc (by omega), rd_get a i hi, rd_get b i (by omega)]) ?_; rw [drop_eq a i hi, drop_eq b i (by omega), cons_dec]; refine Ev.ite (fun q => ?_) (fun q => ?_)
    ·rw [decide_eq_true q]; simpa using ih
    ·rw [decide_eq_false q]; exact Ev.some _
  exact key 0 (by omega)
 ·refine Ev.same (Ev.some _) ?_; symm; rw [decide_eq_false_iff_not]; intro q; rw [q] at e; exact e rfl
end Go.Proofs.YtdekenijnbhpfaaDoor.M
namespace Go.Proofs.YtdekenijnbhpfaaDoor.M
open Go.RowKit Go.Proofs.YtdekenijnbhpfaaDoor.KW Go.Proofs.YtdekenijnbhpfaaDoorW.PrintWords Go.Proofs.YtdekenijnbhpfaaDoorW.PrintLast Go.Proofs.YtdekenijnbhpfaaDoorW.PrintMore
attribute [local go_sem] max2_int min2_int max_two min_two max_three min_three max_four min_four
set_option linter.unusedVariables false
set_option linter.unusedSimpArgs false
def impl_areAvoided.f (k : Nat) (a0 : Int) (l1 : List Int) : Option (Bool) := if a0 ≥ 1 then (if a0 ≤ 3 then ((impl_IsPattern.f k l1).bind fun t237 => (some t237)) else (some false)) else (some false)
set_option maxHeartbeats 8000000 in
set_option maxRecDepth 100000 in
theorem impl_areAvoided.calls (k : Nat) (a0 : Int) (A1 : Option Addr) (c1 : Nat) (l1 : List Int) (r : Bool) (w : World) (hr1 : Kd.C (Kd.int .i64) w A1 l1.length l1) (hc1 : l1.length ≤ c1) (h : impl_areAvoided.f k a0 l1 = some r) :
  Calls Tryd.prog 90 #[.int .i64 a0, .slice A1 l1.length c1] w fun e w' => e = .returned (.bool r) ∧ Drawn0 w w' := by
 have HR1 := Aside0.mk hr1; have HC1 := Aside0.mk hc1; clear hr1 hc1; have H : (if a0 ≥ 1 then (if a0 ≤ 3 then ((impl_IsPattern.f k l1).bind fun t237 => (some t237)) else (some false)) else (some false)) = some r := h; clear h; by_cases c3 : a0 ≥ 1
 ·rw [if_pos c3] at H; have c3b0 : decide (1 ≤ a0) = true := decide_eq_true c3; clear c3; by_cases c4 : a0 ≤ 3
  ·rw [if_pos c4] at H; have c4b0 : decide (a0 ≤ 3) = true := decide_eq_true c4; clear c4; replace H := Option.bind_eq_some_iff.mp H; obtain ⟨t237, A50, H⟩ := H; replace H : (some t237) = some r := H; have A5 := Aside0.mk A50; clear A50; obtain rfl := Option.some.inj H; go_enter Tryd.func90, Tryd.ntmps90; go_wp2_with (first | (go_at_call 128; (with_reducible refine (impl_IsPattern.calls k _ _ l1 t237 _ ?side1 ?side2 A5.out).mono ?_); (case side1 => repeat (first | exact HR1.out | (with_reducible refine Kd.C_alloc ?_ _) | (with_reducible refine Kd.C_drewN ?_ _) | (with_reducible refine Kd.C_drew ?_))); (case side2 => exact HC1.out); rintro e w' ⟨rfl, ⟨nd, rfl⟩⟩)); go_ret; exact ⟨by first | rfl | (simp; done) | (simp [*]; done), by repeat (first | exact Drawn0.refl _ | apply Drawn0.step)⟩
  ·rw [if_neg c4] at H; have c4b0 : decide (a0 ≤ 3) = false := decide_eq_false c4; clear c4; obtain rfl := Option.some.inj H; go_enter Tryd.func90, Tryd.ntmps90; go_wp2; go_ret; exact ⟨by first | rfl | (simp; done) | (simp [*]; done), by repeat (first | exact Drawn0.refl _ | apply Drawn0.step)⟩
 ·rw [if_neg c3] at H; have c3b0 : decide (1 ≤ a0) = false := decide_eq_false c3; clear c3; obtain rfl := Option.some.inj H; go_enter Tryd.func90, Tryd.ntmps90; go_wp2; go_ret; exact ⟨by first | rfl | (simp; done) | (simp [*]; done), by repeat (first | exact Drawn0.refl _ | apply Drawn0.step)⟩
end Go.Proofs.YtdekenijnbhpfaaDoor.M
/- The letters with which a word goes on: program and reference tell the same, and the law. No condition. -/
namespace Go.Proofs.YtdekenijnbhpfaaDoor.M
open Go.RowKit Go.Proofs.YtdekenijnbhpfaaDoorW.PrintWords Go.Proofs.YtdekenijnbhpfaaDoor.K
set_option linter.unusedVariables false
def avd (w p : List Int) : Bool := decide (isPat p = true ∧ w.length ≤ 24 ∧ fnd w p = none)
theorem specFine_ev (n : Int) (p : List Int) (hp : p.length ≤ 1048576) : Ev (fun k => spec_l30Fine.f k n p) (decide ((1 ≤ n ∧ n ≤ 3) ∧ isPat p = true)) := by
 unfold spec_l30Fine.f; refine Ev.bind (Ev.val (in_val _ _ _)) ?_; by_cases q : 1 ≤ n ∧ n ≤ 3
 ·rw [decide_eq_true q]; refine Ev.if_pos rfl (Ev.bind (specIsPattern_ev p hp) (Ev.same (Ev.some _) ?_)); cases isPat p <;> simp [q]
 ·rw [decide_eq_false q, decide_eq_false (fun h => q h.1)]; exact Ev.if_neg (by simp) (Ev.some _)
theorem implFine_ev (n : Int) (p : List Int) (hp : p.length ≤ 1048576) : Ev (fun k => impl_areAvoided.f k n p) (decide ((1 ≤ n ∧ n ≤ 3) ∧ isPat p = true)) := by
 unfold impl_areAvoided.f; refine Ev.ite (fun q1 => ?_) (fun q1 => ?_)
 ·refine Ev.ite (fun q2 => ?_) (fun q2 => ?_)
  ·refine Ev.bind (implIsPattern_ev p hp) (Ev.same (Ev.some _) ?_); have q : 1 ≤ n ∧ n ≤ 3 := by omega
   cases isPat p <;> simp [q]
  ·rw [decide_eq_false (fun h => by omega)]; exact Ev.some _
 ·rw [decide_eq_false (fun h => by omega)]; exact Ev.some _
def FE (w p L : List Int) : Option (List Int) := if okL p L = true ∧ tot L p ≤ w.length ∧ mAt w p (w.length - tot L p) L = true then some L else none
def ends (w p : List Int) : Bool := (srch w.length (FE w p) (nl p - 1) [] 1).isSome
section ends
variable (w p : List Int) (hw : w.length ≤ 1000)
include hw
theorem specE_carry1 (m a b c : Nat) (R : Bool) (h : Ev (fun k => spec_l30Ends.l0 k w p (m : Int) (abc (a + 1) b c)) R) : Ev (fun k => spec_l30Ends.l1 k w p (m : Int) (abc (a + 1) b c) 0) R :=
 have _ := hw
 Ev.step (fun k => by simp only [spec_l30Ends.l1]; rw [_root_.if_neg (by omega)]) h
theorem specE_carry2 (m a b c : Nat) (hb : b ≤ w.length) (ha : a ≤ w.length) (R : Bool) (h : Ev (fun k => spec_l30Ends.l0 k w p (m : Int) (if b < w.length then abc a (b + 1) c else abc (a + 1) 1 c)) R) : Ev (fun k => spec_l30Ends.l1 k w p (m : Int) (abc a (b + 1) c) 1) R := by
 by_cases q : b < w.length
 ·rw [_root_.if_pos q] at h; refine Ev.step (fun k => by simp only [spec_l30Ends.l1]; rw [_root_.if_pos (by omega), _root_.if_pos (by omega), _root_.if_pos (by rw [abc_len]; omega), rdA1, _root_.if_neg (by omega)]) h
 ·rw [_root_.if_neg q] at h; refine Ev.step (fun k => by simp only [spec_l30Ends.l1]; rw [_root_.if_pos (by omega), _root_.if_pos (by omega), _root_.if_pos (by rw [abc_len]; omega), rdA1, _root_.if_pos (by omega), oneA1, dec1, Option.bind_some, _root_.if_pos (by omega), _root_.if_pos (by rw [abc_len]; omega), show (0 : Int).toNat = 0 from rfl, rdA0, wsucc (i := a) (by omega), setA0]) (specE_carry1 w p hw m a 1 c R h)
theorem specE_carry3 (m a b c : Nat) (hc : c ≤ w.length) (hb : b ≤ w.length) (ha : a ≤ w.length) (R : Bool) (h : Ev (fun k => spec_l30Ends.l0 k w p (m : Int) (if c < w.length then abc a b (c + 1) else if b < w.length then abc a (b + 1) 1 else abc (a + 1) 1 1)) R) : Ev (fun k => spec_l30Ends.l1 k w p (m : Int) (abc a b (c + 1)) 2) R := by
 by_cases q : c < w.length
 ·rw [_root_.if_pos q] at h; refine Ev.step (fun k => by simp only [spec_l30Ends.l1]; rw [_root_.if_pos (by omega), _root_.if_pos (by omega), _root_.if_pos (by rw [abc_len]; omega), rdA2, _root_.if_neg (by omega)]) h
 ·rw [_root_.if_neg q] at h; refine Ev.step (fun k => by simp only [spec_l30Ends.l1]; rw [_root_.if_pos (by omega), _root_.if_pos (by omega), _root_.if_pos (by rw [abc_len]; omega), rdA2, _root_.if_pos (by omega), oneA2, dec2, Option.bind_some, _root_.if_pos (by omega), _root_.if_pos (by rw [abc_len]; omega), show (1 : Int).toNat = 1 from rfl, rdA1, wsucc (i := b) (by omega), setA1]) (specE_carry2 w p hw m a b 1 hb ha R h)
theorem specE_round (m : Nat) (L3 : List Int) (hp : p.length ≤ 1048576) (hl : L3.length = 3) (hm : m ≤ 3) (hm1 : 1 ≤ m) (h0 : rd L3 0 ≤ (w.length : Int)) (hx : ∀ y ∈ L3, 0 ≤ y ∧ y ≤ 1000) (R : Bool) (hR : ∀ L, FE w p (L3.take m) = some L → R = true)
  (h : FE w p (L3.take m) = none → Ev (fun k => spec_l30Ends.l1 k w p (m : Int) (L3.set (m - 1) (rd L3 ((m - 1 : Nat) : Int) + 1)) ((m - 1 : Nat) : Int)) R) : Ev (fun k => spec_l30Ends.l0 k w p (m : Int) L3) R := by
 refine Ev.step (fun k => by simp only [spec_l30Ends.l0]; rw [_root_.if_pos (by omega), _root_.if_pos h0, _root_.if_pos (by omega), _root_.if_pos (by omega), Int.toNat_natCast]) ?_; refine Ev.bind (specMatchLength_ev p (L3.take m) hp (by rw [List.length_take]; omega)) ?_; have go : FE w p (L3.take m) = none → Ev (fun k => spec_l30Ends.j1 k w p (m : Int) L3 false) R := fun hn => by
  have e : wrap64 ((m : Int) - 1) = ((m - 1 : Nat) : Int) := by rw [w_id (by omega) (by omega)]; omega
  have hy : rd L3 ((m - 1 : Nat) : Int) + 1 ≤ 1001 ∧ 0 ≤ rd L3 ((m - 1 : Nat) : Int) := by
   rw [rd_get L3 (m - 1) (by omega)]; have := hx _ (List.getElem_mem (show m - 1 < L3.length by omega)); omega
  refine Ev.step (fun k => by simp only [spec_l30Ends.j1]; rw [_root_.if_neg (by simp), e, _root_.if_pos (by omega), _root_.if_pos (by omega), Int.toNat_natCast, w_id (by omega) (by omega)]) (h hn)
 unfold FE at hR go; by_cases q1 : okL p (L3.take m) = true
 ·rw [_root_.if_pos q1]; refine Ev.if_pos (by omega) ?_; by_cases q2 : tot (L3.take m) p ≤ w.length
  ·refine Ev.if_pos (by omega) ?_; have e : wrap64 ((w.length : Int) - (tot (L3.take m) p : Int)) = ((w.length - tot (L3.take m) p : Nat) : Int) := by rw [w_id (by omega) (by omega)]; omega
   refine Ev.congr (fun k => by rw [e]) (Ev.bind (specMatchAt_ev w p (w.length - tot (L3.take m) p) (L3.take m) (by omega) hp (by rw [List.length_take]; omega)) ?_); by_cases q3 : mAt w p (w.length - tot (L3.take m) p) (L3.take m) = true
   ·rw [_root_.if_pos ⟨q1, q2, q3⟩] at hR; rw [q3, hR _ rfl]; refine Ev.step (fun k => by simp only [spec_l30Ends.j1]; rw [_root_.if_pos trivial]) ?_; exact Ev.some _
   ·rw [Bool.eq_false_iff.2 q3]; exact go (_root_.if_neg (fun x => q3 x.2.2))
  ·exact Ev.if_neg (by omega) (go (_root_.if_neg (fun x => q2 x.2.1)))
 ·rw [_root_.if_neg q1]; exact Ev.if_neg (by omega) (go (_root_.if_neg (fun x => q1 x.1)))
theorem specE_loop (hp : p.length ≤ 1048576) (hP : isPat p = true) (hw1 : 1 ≤ w.length) : Ev (fun k => spec_l30Ends.l0 k w p (nl p : Int) [1, 1, 1]) (ends w p) := by
 obtain ⟨h0, h6, h3, h1⟩ := isPat_nl hP; have hend : ∀ (m : Nat) b c, Ev (fun k => spec_l30Ends.l0 k w p (m : Int) (abc (w.length + 1) b c)) false := fun m b c => by
  refine Ev.step (fun k => by simp only [spec_l30Ends.l0]; rw [_root_.if_pos (by rw [abc_len]; omega), rdA0, _root_.if_neg (by omega)]) ?_; exact Ev.some _
 have hx : ∀ a b c : Nat, a ≤ w.length → b ≤ w.length → c ≤ w.length → ∀ y ∈ abc a b c, 0 ≤ y ∧ y ≤ 1000 := by
  intro a b c ha hb hc y hy; simp only [abc, List.mem_cons, List.not_mem_nil, or_false] at hy; rcases hy with rfl | rfl | rfl <;> omega
 have out : ∀ (F v : Option (List Int)) L, F = some L → (F.or v).isSome = true := by rintro _ v L rfl; rfl
 have nxt : ∀ (F v : Option (List Int)), F = none → (F.or v).isSome = v.isSome := by rintro _ v rfl; rfl
 unfold ends; rcases (show nl p = 1 ∨ nl p = 2 ∨ nl p = 3 by omega) with e | e | e
 ·rw [e]; refine odo1 w.length (FE w p) (fun a v => Ev (fun k => spec_l30Ends.l0 k w p ((1 : Nat) : Int) (abc a 1 1)) v.isSome) (hend 1 1 1) ?_; intro a ha v hv; refine specE_round w p hw 1 (abc a 1 1) hp rfl (by omega) (by omega) (by rw [rdA0]; omega) (hx a 1 1 ha (by omega) (by omega)) _ (fun L hL => out _ _ _ hL) (fun hn => ?_); have hn' : FE w p [(a : Int)] = none := hn; rw [nxt _ _ hn']; exact specE_carry1 w p hw 1 a 1 1 _ hv
 ·rw [e]; refine odo2 w.length (FE w p) (fun a b v => Ev (fun k => spec_l30Ends.l0 k w p ((2 : Nat) : Int) (abc a b 1)) v.isSome) (fun b => hend 2 b 1) ?_ ?_
  ·intro a b ha hb v hv; refine specE_round w p hw 2 (abc a b 1) hp rfl (by omega) (by omega) (by rw [rdA0]; omega) (hx a b 1 ha (by omega) (by omega)) _ (fun L hL => out _ _ _ hL) (fun hn => ?_); have hn' : FE w p [(a : Int), (b : Int)] = none := hn; rw [nxt _ _ hn']; exact specE_carry2 w p hw 2 a b 1 (by omega) ha _ (by rw [_root_.if_pos hb]; exact hv)
  ·intro a ha v hv; refine specE_round w p hw 2 (abc a w.length 1) hp rfl (by omega) (by omega) (by rw [rdA0]; omega) (hx a w.length 1 ha (by omega) (by omega)) _ (fun L hL => out _ _ _ hL) (fun hn => ?_); have hn' : FE w p [(a : Int), (w.length : Int)] = none := hn; rw [nxt _ _ hn']; exact specE_carry2 w p hw 2 a w.length 1 (by omega) ha _ (by rw [_root_.if_neg (by omega)]; exact hv)
 ·rw [e]; refine odo3 w.length (FE w p) (fun a b c v => Ev (fun k => spec_l30Ends.l0 k w p ((3 : Nat) : Int) (abc a b c)) v.isSome) (hend 3) ?_ ?_ ?_
  ·intro a b c ha hb hc v hv; refine specE_round w p hw 3 (abc a b c) hp rfl (by omega) (by omega) (by rw [rdA0]; omega) (hx a b c ha (by omega) (by omega)) _ (fun L hL => out _ _ _ hL) (fun hn => ?_); have hn' : FE w p [(a : Int), (b : Int), (c : Int)] = none := hn; rw [nxt _ _ hn']; exact specE_carry3 w p hw 3 a b c (by omega) hb ha _ (by rw [_root_.if_pos hc]; exact hv)
  ·intro a b ha hb v hv; refine specE_round w p hw 3 (abc a b w.length) hp rfl (by omega) (by omega) (by rw [rdA0]; omega) (hx a b w.length ha (by omega) (by omega)) _ (fun L hL => out _ _ _ hL) (fun hn => ?_); have hn' : FE w p [(a : Int), (b : Int), (w.length : Int)] = none := hn; rw [nxt _ _ hn']; exact specE_carry3 w p hw 3 a b w.length (by omega) (by omega) ha _ (by rw [_root_.if_neg (by omega), _root_.if_pos hb]; exact hv)
  ·intro a ha v hv; refine specE_round w p hw 3 (abc a w.length w.length) hp rfl (by omega) (by omega) (by rw [rdA0]; omega) (hx a w.length w.length ha (by omega) (by omega)) _ (fun L hL => out _ _ _ hL) (fun hn => ?_); have hn' : FE w p [(a : Int), (w.length : Int), (w.length : Int)] = none := hn; rw [nxt _ _ hn']; exact specE_carry3 w p hw 3 a w.length w.length (by omega) (by omega) ha _ (by rw [_root_.if_neg (by omega), _root_.if_neg (by omega)]; exact hv)
theorem specEnds_ev (hp : p.length ≤ 1048576) (hP : isPat p = true) (hw1 : 1 ≤ w.length) : Ev (fun k => spec_l30Ends.f k w p) (ends w p) := by
 unfold spec_l30Ends.f; exact Ev.bind (specLetters_ev p hP) (specE_loop w p hw hp hP hw1)
end ends
/-- No match anywhere. -/
def noM (w p : List Int) : Prop := ∀ i L, mAt w p i L = false
theorem mgo_more (w : List Int) (z : Int) (L : List Int) (p : List Int) : ∀ i us, i + tot L p ≤ w.length → mgo (w ++ [z]) L p i us = mgo w L p i us := by
 induction p with
 | nil => intro i us _; rfl
 | cons x p ih =>
  intro i us h; simp only [tot] at h; simp only [mgo]; rw [_root_.if_neg (show ¬ (w ++ [z]).length < i + (L.getD x.toNat 0).toNat by rw [List.length_append, List.length_cons, List.length_nil]; omega), _root_.if_neg (show ¬ w.length < i + (L.getD x.toNat 0).toNat by omega), List.take_append_of_le_length (by omega)]; cases us.getD x.toNat none with
  | none => simp only; rw [ih _ _ (by omega)]
  | some u => simp only; rw [ih _ _ (by omega)]
theorem mAt_more (w p : List Int) (z : Int) (i : Nat) (L : List Int) (h : i + tot L p ≤ w.length) : mAt (w ++ [z]) p i L = mAt w p i L := by
 unfold mAt; rw [mgo_more w z L p i _ h, decide_eq_true (show i ≤ (w ++ [z]).length by simp; omega), decide_eq_true (show i ≤ w.length by omega)]
theorem ends_iff (w p : List Int) (hP : isPat p = true) : ends w p = true ↔ ∃ L, okL p L = true ∧ tot L p ≤ w.length ∧ mAt w p (w.length - tot L p) L = true := by
 unfold ends; rw [srch_some]; constructor
 ·rintro ⟨j, s, h1, h2, h3, h4, h5⟩; unfold FE at h5; split at h5
  ·rename_i q; exact ⟨_, q⟩
  ·cases h5
 ·rintro ⟨L, h1, h2, h3⟩; obtain ⟨h4, h5, h6, h7⟩ := okL_at h1; have hn := (isPat_nl hP).2.2.2; have hs := mAt_small h3; cases L with
  | nil => simp only [List.length_nil] at h5; omega
  | cons y s =>
   have hy := h6 y (List.mem_cons_self ..); have hy2 := hs y (List.mem_cons_self ..); refine ⟨y.toNat, s, by omega, by omega, by simp only [List.length_cons] at h5; omega, fun z hz => ⟨(h6 z (List.mem_cons_of_mem _ hz)).1, by have := hs z (List.mem_cons_of_mem _ hz); omega⟩, ?_⟩; have e : ([] : List Int) ++ ((y.toNat : Nat) : Int) :: s = y :: s := by rw [List.nil_append, show ((y.toNat : Nat) : Int) = y from by omega]
   rw [e]; unfold FE; rw [_root_.if_pos ⟨h1, h2, h3⟩]; rfl
theorem noM_more (w p : List Int) (z : Int) (hP : isPat p = true) : noM (w ++ [z]) p ↔ noM w p ∧ ends (w ++ [z]) p = false := by
 constructor
 ·intro h; refine ⟨fun i L => ?_, ?_⟩
  ·cases q : mAt w p i L with
   | false => rfl
   | true =>
    have := (mAt_len q).2; rw [← mAt_more w p z i L this, h i L] at q; cases q
  ·rw [Bool.eq_false_iff]; intro q; obtain ⟨L, _, _, h3⟩ := (ends_iff _ _ hP).1 q; rw [h _ L] at h3; cases h3
 ·rintro ⟨h1, h2⟩ i L; cases q : mAt (w ++ [z]) p i L with
  | false => rfl
  | true =>
   obtain ⟨q1, q2⟩ := mAt_len q; by_cases e : i + tot L p ≤ w.length
   ·rw [mAt_more w p z i L e, h1 i L] at q; cases q
   ·have : ends (w ++ [z]) p = true := (ends_iff _ _ hP).2 ⟨L, q1, by omega, by
     have e2 : (w ++ [z]).length - tot L p = i := by simp only [List.length_append, List.length_cons, List.length_nil] at q2 ⊢; omega
     rw [e2]; exact q⟩
    rw [h2] at this; cases this
theorem fnd_none (w p : List Int) (hP : isPat p = true) (hw : w.length ≤ 24) : fnd w p = none ↔ noM w p := by
 have hn := (isPat_nl hP).2.2.2; unfold fnd; rw [_root_.if_pos ⟨hP, hw⟩]; unfold fFrom; rw [List.findSome?_eq_none_iff]; constructor
 ·intro h i L; cases q : mAt w p i L with
  | false => rfl
  | true =>
   obtain ⟨q1, q2⟩ := mAt_len q; obtain ⟨h4, h5, h6, h7⟩ := okL_at q1; have h8 := (tot_le L h6 p (fun y hy => ⟨(h7 y hy).1, (h7 y hy).2.1⟩)).1; have h9 : 1 ≤ p.length := (ngo_pos p _ (isPat_nl hP).1).1 hn; have h10 := h i (by rw [List.mem_range'_1]; omega); have hs := mAt_small q; have : (srch (w.length - i) (FA w p i) (nl p - 1) [] 1).isSome = true := by
    rw [srch_some]; cases L with
    | nil => simp only [List.length_nil] at h5; omega
    | cons y s =>
     have hy := h6 y (List.mem_cons_self ..); have hy2 := hs y (List.mem_cons_self ..); refine ⟨y.toNat, s, by omega, by omega, by simp only [List.length_cons] at h5; omega, fun z hz => ⟨(h6 z (List.mem_cons_of_mem _ hz)).1, hs z (List.mem_cons_of_mem _ hz)⟩, ?_⟩; have e : ([] : List Int) ++ ((y.toNat : Nat) : Int) :: s = y :: s := by rw [List.nil_append, show ((y.toNat : Nat) : Int) = y from by omega]
     rw [e]; unfold FA; rw [_root_.if_pos q]; rfl
   cases hq : srch (w.length - i) (FA w p i) (nl p - 1) [] 1 with
   | none => rw [hq] at this; cases this
   | some x => rw [hq] at h10; cases h10
 ·intro h i _; cases q : srch (w.length - i) (FA w p i) (nl p - 1) [] 1 with
  | none => rfl
  | some x =>
   have := (srch_some (w.length - i) (FA w p i) (nl p - 1) [] 1).1 (by rw [q]; rfl); obtain ⟨j, s, _, _, _, _, h5⟩ := this; unfold FA at h5; rw [h i _] at h5; simp at h5
theorem noM_nil (p : List Int) (hP : isPat p = true) : noM [] p := by
 intro i L; cases q : mAt [] p i L with
 | false => rfl
 | true =>
  obtain ⟨q1, q2⟩ := mAt_len q; obtain ⟨h4, h5, h6, h7⟩ := okL_at q1; have h8 := (tot_le L h6 p (fun y hy => ⟨(h7 y hy).1, (h7 y hy).2.1⟩)).1; have h9 : 1 ≤ p.length := (ngo_pos p _ (isPat_nl hP).1).1 (isPat_nl hP).2.2.2; simp only [List.length_nil] at q2; omega
theorem avd_more (w p : List Int) (z : Int) (hP : isPat p = true) (hw : w.length ≤ 23) (h : noM w p) : avd (w ++ [z]) p = !ends (w ++ [z]) p := by
 unfold avd; have hl : (w ++ [z]).length ≤ 24 := by simp; omega
 cases q : ends (w ++ [z]) p with
 | false => rw [decide_eq_true ⟨hP, hl, (fnd_none _ _ hP hl).2 ((noM_more w p z hP).2 ⟨h, q⟩)⟩]; rfl
 | true =>
  rw [decide_eq_false]
  ·rfl
  ·rintro ⟨_, _, h3⟩; have := ((noM_more w p z hP).1 ((fnd_none _ _ hP hl).1 h3)).2; rw [q] at this; cases this
theorem noM_avd (w p : List Int) (h : avd w p = true) : noM w p := by
 unfold avd at h; obtain ⟨h1, h2, h3⟩ := of_decide_eq_true h; exact (fnd_none _ _ h1 h2).1 h3
end Go.Proofs.YtdekenijnbhpfaaDoor.M
namespace Go.Proofs.YtdekenijnbhpfaaDoor.M
open Go.RowKit Go.Proofs.YtdekenijnbhpfaaDoor.KW Go.Proofs.YtdekenijnbhpfaaDoorW.PrintWords Go.Proofs.YtdekenijnbhpfaaDoorW.PrintLast Go.Proofs.YtdekenijnbhpfaaDoorW.PrintMore
attribute [local go_sem] max2_int min2_int max_two min_two max_three min_three max_four min_four
set_option linter.unusedVariables false
set_option linter.unusedSimpArgs false
mutual
def look.f : Nat → Nat → List Int → Int → List Int → Int → List Int → Option (Bool × Int × List Int)
 | 0, _, _, _, _, _, _ => none
 | k + 1, n, p, most, wd, lk, best => if 0 ≤ lk ∧ lk < 400 ∧ wd.length ≤ 1000000 ∧ best.length ≤ 1000000 then (if (wd.length : Int) = most ∨ lk + 1 = 400 then some (true, lk + 1, if best.length < wd.length then wd else best) else look.l0 k n p most wd (lk + 1) (if best.length < wd.length then wd else best) 0) else none
def look.l0 : Nat → Nat → List Int → Int → List Int → Int → List Int → Nat → Option (Bool × Int × List Int)
 | 0, _, _, _, _, _, _, _ => none
 | k + 1, n, p, most, wd, lk, best, a => if a < n then ((impl_AvoidsPattern.f k (wd ++ [(a : Int)]) p).bind fun t => if t = true then ((look.f k n p most (wd ++ [(a : Int)]) lk best).bind fun x => if x.1 = true then some (true, x.2.1, x.2.2) else look.l0 k n p most wd x.2.1 x.2.2 (a + 1)) else look.l0 k n p most wd lk best (a + 1)) else some (false, lk, best)
end
/-- What look leaves: its answer, the state's block, and the rest of memory as it was. -/
def LookPost (w0 W : World) (g n : Nat) (most : Int) (A1 : Option Addr) (c1 pl : Nat) (r : Bool) (lk : Int) (best : List Int) (e : Ending) (W' : World) : Prop :=
 e = .returned (.bool r) ∧ ∃ vb : Value, W'.heap[g]? = some (.cells #[.int .i64 n, .slice A1 pl c1, .int .i64 most, .int .i64 lk, vb] 95 (0, 0)) ∧ Kd.R (Kd.int .i64) 3 W' w0.heap.size (fun k => k ≠ g) vb best ∧ Kept W W' (fun k => k = g) ∧ Below w0.heap.size w0 W'
set_option maxHeartbeats 8000000 in
set_option maxRecDepth 100000 in
theorem look_calls (n : Nat) (most : Int) (A1 : Option Addr) (c1 : Nat) (p : List Int) (w0 : World) (g : Nat) (hn : n ≤ 1000) (hg : w0.heap.size ≤ g) (hc1 : p.length ≤ c1) : ∀ kf (W : World) (vw : Value) (wd : List Int) (lk : Int) (best : List Int) (vb : Value) (r : Bool) (lk' : Int) (best' : List Int), look.f kf n p most wd lk best = some (r, lk', best') →
  W.heap[g]? = some (.cells #[.int .i64 n, .slice A1 p.length c1, .int .i64 most, .int .i64 lk, vb] 95 (0, 0)) → (∀ W', Kept W W' (fun k => k = g) → Kd.C (Kd.int .i64) W' A1 p.length p) → Kd.R (Kd.int .i64) 3 W w0.heap.size (fun k => k ≠ g) vb best → Kd.R (Kd.int .i64) 3 W w0.heap.size (fun k => k ≠ g) vw wd → Below w0.heap.size w0 W →
  Calls Tryd.prog 91 #[.pointer (some ⟨g, 0, none⟩), vw] W (LookPost w0 W g n most A1 c1 p.length r lk' best') := by
 have HG := Aside0.mk hg; have HC1 := Aside0.mk hc1; clear hg hc1; intro kf
 induction kf using Nat.strongRecOn with
 | ind kf ih =>
  have IH := Aside0.mk ih; clear ih; intro W vw wd lk best vb r lk' best' h hG hp hb hw hB; cases kf with
  | zero => simp [look.f] at h
  | succ kf =>
   unfold look.f at h; by_cases hb0 : 0 ≤ lk ∧ lk < 400 ∧ wd.length ≤ 1000000 ∧ best.length ≤ 1000000
   ·rw [if_pos hb0] at h; obtain ⟨hl0, hl1, hwl, hbl⟩ := hb0; obtain ⟨Aw, cw, rfl⟩ := Kd.R_slice hw; obtain ⟨Ab, cb, rfl⟩ := Kd.R_slice hb; have HGC := Aside0.mk hG; have HP := Aside0.mk hp; have HBE := Aside0.mk hb; have HW := Aside0.mk hw; have HB := Aside0.mk hB; have H := Aside0.mk h; have hz0 : W.cell? ⟨g, 0, none⟩ = some (.int .i64 n) := (blk_cell hG 0).trans rfl; have hz3 : W.cell? ⟨g, 3, none⟩ = some (.int .i64 lk) := (blk_cell hG 3).trans rfl; have hf3 := blk_frozen hG 3; clear hG hp hb hw hB h; have hu := Tryd.underlying95; go_enter Tryd.func91, Tryd.ntmps91; go_wp2_with ((with_reducible refine gate_store (t := 3) (p := 13) rfl ?_); refine Aside0.out ?_); refine Aside0.mk ?_; refine store_event (t := 3) (p := 13) (v := ?vo) (w1 := (W.setCell ⟨g, 3, none⟩ (.int .i64 (lk + 1)))) ?hg ?ho ?hn ?hr ?_
    case ho => rfl
    case hg => rfl
    case hn => rfl
    case hr => first | (go_simp; done) | (go_simp; rfl)
    intro w1 hw1; have HG1 := Aside0.mk (show w1.heap[g]? = some (.cells #[.int .i64 n, .slice A1 p.length c1, .int .i64 most, .int .i64 (lk + 1), .slice Ab best.length cb] 95 (0, 0)) from by rw [hw1]; exact blk_put HGC.out 3 _ rfl); have HB1 := Aside0.mk (show Below w0.heap.size w0 w1 from by rw [hw1]; exact below_set HB.out HG.out); have HK1 := Aside0.mk (show Kept W w1 (fun k => k = g) from by rw [hw1]; exact Kept.setCell (S := fun k => k = g) (p := ⟨g, 3, none⟩) (Kept.refl _ _) (.inl rfl) _); have HBE1 := Aside0.mk (show Kd.R (Kd.int .i64) 3 w1 w0.heap.size (fun k => k ≠ g) (.slice Ab best.length cb) best from by rw [hw1]; exact Kd.R_far HBE.out (fun _ hk => hk) _); have HW1 := Aside0.mk (show Kd.R (Kd.int .i64) 3 w1 w0.heap.size (fun k => k ≠ g) (.slice Aw wd.length cw) wd from by rw [hw1]; exact Kd.R_far HW.out (fun _ hk => hk) _); clear hw1 hz0 hz3 hf3 HGC HBE HW HB; have hz4 : w1.cell? ⟨g, 4, none⟩ = some (.slice Ab best.length cb) := (blk_cell HG1.out 4).trans rfl; have hf4 := blk_frozen HG1.out 4; go_upto_if 21 with (fail); go_cut [4] (fun v4 wc => ∃ (bq : List Int) (vq : Value), v4 = .bool false ∧ Aside0 ((if (wd.length : Int) = most ∨ lk + 1 = 400 then some (true, lk + 1, bq) else look.l0 kf n p most wd (lk + 1) bq 0) = some (r, lk', best')) ∧ Aside0 (wc.heap[g]? = some (.cells #[.int .i64 n, .slice A1 p.length c1, .int .i64 most, .int .i64 (lk + 1), vq] 95 (0, 0))) ∧ Aside0 (Below w0.heap.size w0 wc) ∧ Aside0 (Kept W wc (fun k => k = g)) ∧ Aside0 (Kd.R (Kd.int .i64) 3 wc w0.heap.size (fun k => k ≠ g) vq bq) ∧ Aside0 (Kd.R (Kd.int .i64) 3 wc w0.heap.size (fun k => k ≠ g) (.slice Aw wd.length cw) wd))
    case first =>
     by_cases hlt : best.length < wd.length
     ·have hd : decide (best.length < wd.length) = true := decide_eq_true hlt; rw [if_pos hlt] at H; clear hlt; rw [hd]; go_wp2_with ((with_reducible refine gate_store (t := 22) (p := 25) rfl ?_); refine Aside0.out ?_); refine Aside0.mk ?_; refine store_event (t := 22) (p := 25) (v := ?vo2) (w1 := (w1.setCell ⟨g, 4, none⟩ (.slice Aw wd.length cw))) ?hg ?ho ?hn ?hr ?_
      case ho => rfl
      case hg => rfl
      case hn => rfl
      case hr => first | (go_simp; done) | (go_simp; rfl)
      intro w2 hw2; have HG2 := Aside0.mk (show w2.heap[g]? = some (.cells #[.int .i64 n, .slice A1 p.length c1, .int .i64 most, .int .i64 (lk + 1), .slice Aw wd.length cw] 95 (0, 0)) from by rw [hw2]; exact blk_put HG1.out 4 _ rfl); have HB2 := Aside0.mk (show Below w0.heap.size w0 w2 from by rw [hw2]; exact below_set HB1.out HG.out); have HK2 := Aside0.mk (show Kept W w2 (fun k => k = g) from by rw [hw2]; exact Kept.setCell (S := fun k => k = g) (p := ⟨g, 4, none⟩) HK1.out (.inl rfl) _); have HW2 := Aside0.mk (show Kd.R (Kd.int .i64) 3 w2 w0.heap.size (fun k => k ≠ g) (.slice Aw wd.length cw) wd from by rw [hw2]; exact Kd.R_far HW1.out (fun _ hk => hk) _); clear hw2 hz4 hf4 HG1 HB1 HK1 HW1 HBE1 hd; go_wp2_with fail; go_meet
      case rel => exact ⟨wd, _, rfl, H, HG2, HB2, HK2, HW2, HW2⟩
     ·have hd : decide (best.length < wd.length) = false := decide_eq_false hlt; rw [if_neg hlt] at H; clear hlt; rw [hd]; go_wp2_with fail; go_meet
      case rel => exact ⟨best, _, rfl, H, HG1, HB1, HK1, HBE1, HW1⟩
    case rest =>
     clear H hz4 hf4 HG1 HB1 HK1 HW1 HBE1; obtain ⟨bq, vq, rfl, H, HG2, HB2, HK2, HBE2, HW2⟩ := hcut; generalize wc = w2 at *; have hz0 : w2.cell? ⟨g, 0, none⟩ = some (.int .i64 n) := (blk_cell HG2.out 0).trans rfl; have hz2 : w2.cell? ⟨g, 2, none⟩ = some (.int .i64 most) := (blk_cell HG2.out 2).trans rfl; have hz3 : w2.cell? ⟨g, 3, none⟩ = some (.int .i64 (lk + 1)) := (blk_cell HG2.out 3).trans rfl; by_cases hs : (wd.length : Int) = most ∨ lk + 1 = 400
     ·rw [if_pos hs] at H; have hh := Option.some.inj H.out; obtain ⟨rfl, hh2⟩ := Prod.mk.inj hh; obtain ⟨rfl, rfl⟩ := Prod.mk.inj hh2; clear hh hh2 H; by_cases hs1 : (wd.length : Int) = most
      ·have hd1 : ((wd.length : Int) == most) = true := by simp [hs1]
       clear hs hs1; go_wp2_with fail; go_ret; exact ⟨rfl, vq, HG2.out, HBE2.out, HK2.out, HB2.out⟩
      ·have hd1 : ((wd.length : Int) == most) = false := by simp [hs1]
       have hd2 : (lk + 1 == 400) = true := by simpa using hs.resolve_left hs1
       clear hs hs1; go_wp2_with fail; go_ret; exact ⟨rfl, vq, HG2.out, HBE2.out, HK2.out, HB2.out⟩
     ·rw [if_neg hs] at H; have hd1 : ((wd.length : Int) == most) = false := by
       have : ¬ (wd.length : Int) = most := fun h => hs (.inl h)
       simp [this]
      have hd2 : (lk + 1 == 400) = false := by
       have : ¬ lk + 1 = 400 := fun h => hs (.inr h)
       simpa using this
      have hl2 : lk + 1 < 400 := by
       have : ¬ lk + 1 = 400 := fun h => hs (.inr h)
       omega
      clear hs; go_wp2_with fail; clear hz0 hz2 hz3 hd1 hd2; go_loopw [44] (fun v44 wr => ∃ (a kq : Nat) (lq : Int) (bq : List Int) (vq : Value), a ≤ n ∧ v44 = .int .i64 a ∧ Aside0 (look.l0 kq n p most wd lq bq a = some (r, lk', best')) ∧ Aside0 (kq ≤ kf) ∧ Aside0 (wr.heap[g]? = some (.cells #[.int .i64 n, .slice A1 p.length c1, .int .i64 most, .int .i64 lq, vq] 95 (0, 0))) ∧ Aside0 (Below w0.heap.size w0 wr) ∧ Aside0 (Kept W wr (fun k => k = g)) ∧ Aside0 (Kd.R (Kd.int .i64) 3 wr w0.heap.size (fun k => k ≠ g) vq bq) ∧ Aside0 (Kd.R (Kd.int .i64) 3 wr w0.heap.size (fun k => k ≠ g) (.slice Aw wd.length cw) wd)) (fun v44 _ => n - (intOf v44).toNat)
      case atStart => exact ⟨0, kf, lk + 1, bq, vq, Nat.zero_le _, rfl, H, ⟨Nat.le_refl _⟩, HG2, HB2, HK2, HBE2, HW2⟩
      case round =>
       clear H HG2 HB2 HK2 HBE2 HW2; obtain ⟨a, kq, lq, bs, vs, ha, rfl, H, HKQ, HG3, HB3, HK3, HBE3, HW3⟩ := hrel; generalize wr = w3 at *; cases kq with
       | zero => exact absurd H.out (by simp [look.l0])
       | succ kq =>
        have h := H.out; unfold look.l0 at h; by_cases hla : a < n
        ·rw [if_pos hla] at h; have h_ := Option.bind_eq_some_iff.mp h; obtain ⟨t, ht, h2⟩ := h_; have HT := Aside0.mk ht; have H2 := Aside0.mk h2; clear h ht h2 H; go_wp2_with ((with_reducible refine gate_dst (N := 47) rfl ?_); refine Aside0.out ?_); refine Aside0.mk ?_; refine Kd.R_lit (Kd.int .i64) _ 3 ?hg (N := 47) ?hd (xs := ([] : List Int)) (inner := []) (ok := fun _ => True) (okp := fun _ => True) ?hr ?hp (fun _ hk => hk) trivial (Below.refl _ _) (Nat.le_refl _) (by simp) ?_
         case hd => rfl
         case hg => rfl
         case hr => first | (go_simp; done) | (go_simp; rfl)
         case hp => exact (Reps.none _ _)
         intro v47 w4 ho4 hb4 _ _; have HO4 := Aside0.mk ho4; have HB4 := Aside0.mk hb4; clear ho4 hb4; go_wp2_with ((with_reducible refine gate_builtin (b := .append) (xs := #[.tmp 47, .tmp 48]) rfl ?_); refine Aside0.out ?_); refine Aside0.mk ?_
         at_builtin
         refine Kd.R_append_rows (Kd.int .i64) (Rr := (Kd.int .i64).K w4) (w0 := w3) w3.heap.size rfl (.tmp 47) (.tmp 48) 22 3 (.int .i64 0) 8 rfl Tryd.underlying22 info3 rfl (by decide) (by omega) v47 [] wd Aw _ cw (fun _ => True) (fun _ => False) rfl rfl HO4.out ?aR (fun _ _ h => h) (fun _ hk => hk.elim) (fun _ _ => trivial) HB4.out HB4.out.size ?aL ?_
         case aR => exact Kd.C_below (Kd.R_reads' HW3.out).2.2 HB4.out
         case aL => simp only [List.length_nil]; omega
         intro v49 w5 ho5 hb5 _ _; rw [List.nil_append] at ho5; have HO5 := Aside0.mk ho5; have HB5 := Aside0.mk hb5; clear ho5 hb5 HO4 HB4; go_wp2_with ((with_reducible refine gate_builtin (b := .append) (xs := #[.tmp 49, .tmp 51]) rfl ?_); refine Aside0.out ?_); refine Aside0.mk ?_
         at_builtin
         refine Kd.R_append (Kd.int .i64) (w0 := w3) w3.heap.size rfl (.tmp 49) (.tmp 51) 22 3 (.int .i64 0) 8 rfl Tryd.underlying22 info3 rfl (by decide) (by omega) v49 wd (a : Int) [.int .i64 a] (fun _ => True) (fun _ => False) rfl rfl rfl (fun _ hk => hk.elim) (fun _ _ => trivial) HO5.out HB5.out HB5.out.size ?aL ?_
         case aL => omega
         intro v52 w6 ho6 hb6 _ _; generalize hnw : wd ++ [(a : Int)] = nw at *; obtain ⟨A52, c52, rfl⟩ := Kd.R_slice ho6; have HO6 := Aside0.mk ho6; have HB6 := Aside0.mk hb6; clear ho6 hb6 HO5 HB5 hnw; have HG6 := Aside0.mk (blk_below HG3.out HB6.out); have HB06 := Aside0.mk (below_then HB3.out HB3.out.size HB6.out); have HK6 := Aside0.mk (Kept.below HK3.out HB6.out); have HBE6 := Aside0.mk (Kd.R_below HBE3.out HB6.out); have HW6 := Aside0.mk (Kd.R_below HW3.out HB6.out); have hgl := blk_lt HG3.out; have HV6 := Aside0.mk (Kd.R_lower (Kd.R_mono (ok' := fun k => k ≠ g) (Kd.R_bound HO6.out) (fun k hk => by have := hk.2.1; omega)) HB3.out.size); clear hgl HG3 HB3 HBE3 HW3 HO6 HB6 HK3; have hz1 : w6.cell? ⟨g, 1, none⟩ = some (.slice A1 p.length c1) := (blk_cell HG6.out 1).trans rfl; have hp6 := Aside0.mk (HP.out w6 HK6.out); go_wp2_with fail; refine (impl_AvoidsPattern.calls kq A52 c52 nw A1 c1 p t w6 (Kd.R_reads' HV6.out).2.2 (Kd.R_reads' HV6.out).2.1 hp6.out HC1.out HT.out).mono ?_; rintro e_ w7 ⟨rfl, hb7⟩; have HG7 := Aside0.mk (blk_below HG6.out hb7); have HB07 := Aside0.mk (below_then HB06.out HB06.out.size hb7); have HK7 := Aside0.mk (Kept.below HK6.out hb7); have HBE7 := Aside0.mk (Kd.R_below HBE6.out hb7); have HW7 := Aside0.mk (Kd.R_below HW6.out hb7); have HV7 := Aside0.mk (Kd.R_below HV6.out hb7); clear hz1 hb7 hp6 HG6 HB06 HK6 HBE6 HW6 HV6; cases t with
         | false =>
          rw [if_neg (by simp)] at H2; go_wp2_with fail; go_roundw
          case rel => exact ⟨a + 1, kq, lq, bs, vs, by omega, by go_num, H2, ⟨by have := HKQ.out; omega⟩, HG7, HB07, HK7, HBE7, HW7⟩
          case measure => simp [intOf]; omega
         | true =>
          rw [if_pos rfl] at H2; have h_ := Option.bind_eq_some_iff.mp H2.out; obtain ⟨⟨r1, lk1, bs1⟩, hx, h3⟩ := h_; have H3 := Aside0.mk h3; have HX := Aside0.mk hx; clear hx h3 H2; go_wp2_with fail; refine (IH.out kq (by have := HKQ.out; omega) w7 (.slice A52 nw.length c52) nw lq bs vs r1 lk1 bs1 HX.out HG7.out (fun W' hk => HP.out W' (Kept.then_ HK7.out hk (fun _ h2 => .inl h2))) HBE7.out HV7.out HB07.out).mono ?_; rintro e_ w8 ⟨rfl, v8, hg8, hr8, hk8, hb8⟩; have HG8 := Aside0.mk hg8; have HBE8 := Aside0.mk hr8; have HK8 := Aside0.mk (Kept.then_ HK7.out hk8 (fun _ h2 => .inl h2)); have HB8 := Aside0.mk hb8; have HW8 := Aside0.mk (Kd.R_kept HW7.out hk8 (fun k h1 h2 => h1 h2)); clear hg8 hr8 hk8 hb8 HG7 HB07 HK7 HBE7 HW7 HV7; cases r1 with
          | true =>
           have h4 := H3.out; rw [if_pos rfl] at h4; have hh := Option.some.inj h4; obtain ⟨rfl, hh2⟩ := Prod.mk.inj hh; obtain ⟨rfl, rfl⟩ := Prod.mk.inj hh2; clear hh hh2 h4 H3; go_wp2_with fail; go_ret; exact ⟨rfl, v8, HG8.out, HBE8.out, HK8.out, HB8.out⟩
          | false =>
           have h4 := H3.out; rw [if_neg (by simp)] at h4; have H4 := Aside0.mk h4; clear h4 H3; go_wp2_with fail; go_roundw
           case rel => exact ⟨a + 1, kq, lk1, bs1, v8, by omega, by go_num, H4, ⟨by have := HKQ.out; omega⟩, HG8, HB8, HK8, HBE8, HW8⟩
           case measure => simp [intOf]; omega
        ·rw [if_neg hla] at h; have hh := Option.some.inj h; obtain ⟨rfl, hh2⟩ := Prod.mk.inj hh; obtain ⟨rfl, rfl⟩ := Prod.mk.inj hh2; clear hh hh2 h H; have e : a = n := by omega
         subst e; go_wp2_with fail; go_ret; exact ⟨rfl, vs, HG3.out, HBE3.out, HK3.out, HB3.out⟩
   ·rw [if_neg hb0] at h; cases h
def impl_LongestAvoiding.f (k : Nat) (a0 : Int) (l1 : List Int) (a2 : Int) : Option (List Int × Bool) := (impl_areAvoided.f k a0 l1).bind fun t => if t = true ∧ 0 ≤ a2 ∧ a2 ≤ 12 then (if 0 ≤ a0 ∧ a0 ≤ 1000 then (look.f k a0.toNat l1 a2 [] 0 []).bind fun x => some (x.2.2, true) else none) else some ([], false)
set_option maxHeartbeats 4000000 in
set_option maxRecDepth 100000 in
theorem impl_LongestAvoiding.calls (k : Nat) (a0 : Int) (A1 : Option Addr) (c1 : Nat) (l1 : List Int) (a2 : Int) (r1 : List Int) (r2 : Bool) (w : World) (hr1 : Kd.C (Kd.int .i64) w A1 l1.length l1) (hc1 : l1.length ≤ c1) (h : impl_LongestAvoiding.f k a0 l1 a2 = some (r1, r2)) :
  Calls Tryd.prog 36 #[.int .i64 a0, .slice A1 l1.length c1, .int .i64 a2] w fun e w' => ∃ v0_ : Value, e = .returned (.tuple #[v0_, .bool r2]) ∧ Kd.R (Kd.int .i64) 3 w' w.heap.size (fun _ => True) v0_ r1 ∧ Below w.heap.size w w' := by
 have HR1 := Aside0.mk hr1; have HC1 := Aside0.mk hc1; clear hr1 hc1; unfold impl_LongestAvoiding.f at h; have h_ := Option.bind_eq_some_iff.mp h; clear h; obtain ⟨t, ht, h⟩ := h_; have HT := Aside0.mk ht; clear ht; by_cases hok : t = true ∧ 0 ≤ a2 ∧ a2 ≤ 12
 ·rw [if_pos hok] at h; obtain ⟨rfl, h0, h1⟩ := hok; by_cases hm : 0 ≤ a0 ∧ a0 ≤ 1000
  ·rw [if_pos hm] at h; obtain ⟨n, rfl⟩ : ∃ n : Nat, a0 = (n : Int) := ⟨a0.toNat, by omega⟩; rw [Int.toNat_natCast] at h; have h_ := Option.bind_eq_some_iff.mp h; clear h; obtain ⟨⟨rb, lk', best'⟩, hx, h2⟩ := h_; have h3 := Option.some.inj h2; obtain ⟨rfl, rfl⟩ := Prod.mk.inj h3; have HX := Aside0.mk hx; clear h2 h3 hx; have hn : n ≤ 1000 := by omega
   have hd1 : decide (a2 < 0) = false := decide_eq_false (by omega); have hd2 : decide (12 < a2) = false := decide_eq_false (by omega); have hu := Tryd.underlying95; go_enter Tryd.func36, Tryd.ntmps36; go_wp2_with fail; refine (impl_areAvoided.calls k (n : Int) A1 c1 l1 true w HR1.out HC1.out HT.out).mono ?_; rintro e_ w1 ⟨rfl, ⟨n1, rfl⟩⟩; go_wp2_with ((with_reducible refine gate_dst (N := 25) rfl ?_); refine Aside0.out ?_); refine Aside0.mk ?_; refine Kd.R_lit (Kd.int .i64) (w0 := w) w.heap.size 3 ?hg (N := 25) ?hd (xs := ([] : List Int)) (inner := []) (ok := fun _ => True) (okp := fun _ => True) ?hr ?hp (fun _ hk => hk) trivial (pw_below_drewN (Below.refl _ _) _) (Nat.le_refl _) (by simp) ?_
   case hd => rfl
   case hg => rfl
   case hr => first | (go_simp; done) | (go_simp; rfl)
   case hp => exact (Reps.none _ _)
   intro v25 w2 ho2 hb2 _ _; obtain ⟨A25, c25, rfl⟩ := Kd.R_slice ho2; have HO2 := Aside0.mk ho2; have HB2 := Aside0.mk hb2; clear ho2 hb2; go_wp2_with ((with_reducible refine gate_dst (N := 27) rfl ?_); refine Aside0.out ?_); refine Aside0.mk ?_; refine box_event ?hg (N := 27) ?hd (cs := #[.int .i64 n, .slice A1 l1.length c1, .int .i64 a2, .int .i64 0, .slice A25 ([] : List Int).length c25]) (t := 95) ?hr ?_
   case hd => rfl
   case hg => rfl
   case hr => first | (go_simp; done) | (go_simp; rfl)
   intro g hg w3 hbox hb3; have HBX := Aside0.mk hbox; have HB3 := Aside0.mk (below_step HB2.out hb3); have HG := Aside0.mk (show w.heap.size ≤ g from by rw [hg]; exact HB2.out.size); have HO3 := Aside0.mk (Kd.R_mono (ok' := fun k => k ≠ g) (Kd.R_below (Kd.R_bound HO2.out) hb3) (fun k hk => by have := hk.2.2.1; omega)); clear hg hbox hb3 HO2 HB2; go_wp2_with ((with_reducible refine gate_dst (N := 29) rfl ?_); refine Aside0.out ?_); refine Aside0.mk ?_; refine Kd.R_lit (Kd.int .i64) (w0 := w3) w3.heap.size 3 ?hg (N := 29) ?hd (xs := ([] : List Int)) (inner := []) (ok := fun _ => True) (okp := fun _ => True) ?hr ?hp (fun _ hk => hk) trivial (Below.refl _ _) (Nat.le_refl _) (by simp) ?_
   case hd => rfl
   case hg => rfl
   case hr => first | (go_simp; done) | (go_simp; rfl)
   case hp => exact (Reps.none _ _)
   intro v29 w4 ho4 hb4 _ _; have hgl := blk_lt HBX.out; have HO4 := Aside0.mk (Kd.R_lower (Kd.R_mono (ok' := fun k => k ≠ g) (Kd.R_bound ho4) (fun k hk => by have := hk.2.1; omega)) HB3.out.size); have HBX4 := Aside0.mk (blk_below HBX.out hb4); have HO34 := Aside0.mk (Kd.R_below HO3.out hb4); have HB4 := Aside0.mk (below_step HB3.out hb4); clear ho4 hb4 hgl HBX HO3 HB3; have hp : ∀ W', Kept w4 W' (fun k => k = g) → Kd.C (Kd.int .i64) W' A1 l1.length l1 := Kd.C_kept_came (Kd.heap_int .i64) HR1.out HB4.out (fun k hk => by rw [hk]; exact HG.out); have HP := Aside0.mk hp; clear hp; go_wp2_with fail; refine (look_calls n a2 A1 c1 l1 w g hn HG.out HC1.out k w4 v29 [] 0 [] (.slice A25 ([] : List Int).length c25) rb lk' best' HX.out HBX4.out HP.out HO34.out HO4.out HB4.out).mono ?_; rintro e_ w5 ⟨rfl, v5, hg5, hr5, hk5, hb5⟩; have hz4 : w5.cell? ⟨g, 4, none⟩ = some v5 := (blk_cell hg5 4).trans rfl; obtain ⟨A5, c5, rfl⟩ := Kd.R_slice hr5; have HR5 := Aside0.mk hr5; have HB5 := Aside0.mk hb5; clear hg5 hr5 hk5 hb5; go_wp2_with fail; go_ret2; exact ⟨_, rfl, Kd.R_mono HR5.out (fun _ _ => trivial), HB5.out⟩
  ·rw [if_neg hm] at h; cases h
 ·rw [if_neg hok] at h; obtain ⟨rfl, rfl⟩ := Prod.mk.inj (Option.some.inj h); clear h; by_cases ht : t = true
  ·subst ht; by_cases h0 : a2 < 0
   ·have hd1 : decide (a2 < 0) = true := decide_eq_true h0; clear hok h0; go_enter Tryd.func36, Tryd.ntmps36; go_wp2_with fail; refine (impl_areAvoided.calls k a0 A1 c1 l1 true w HR1.out HC1.out HT.out).mono ?_; rintro e_ w1 ⟨rfl, ⟨n1, rfl⟩⟩; go_wp2_with ((with_reducible refine gate_dst (N := 21) rfl ?_); refine Aside0.out ?_); refine Aside0.mk ?_; refine Kd.R_lit (Kd.int .i64) (w0 := w) w.heap.size 3 ?hg (N := 21) ?hd (xs := ([] : List Int)) (inner := []) (ok := fun _ => True) (okp := fun _ => True) ?hr ?hp (fun _ hk => hk) trivial (pw_below_drewN (Below.refl _ _) _) (Nat.le_refl _) (by simp) ?_
    case hd => rfl
    case hg => rfl
    case hr => first | (go_simp; done) | (go_simp; rfl)
    case hp => exact (Reps.none _ _)
    intro v21 w2 ho2 hb2 _ _; have HO2 := Aside0.mk ho2; have HB2 := Aside0.mk hb2; clear ho2 hb2; go_wp2_with fail; go_ret2; exact ⟨_, rfl, HO2.out, HB2.out⟩
   ·have hd1 : decide (a2 < 0) = false := decide_eq_false h0
    have hd2 : decide (12 < a2) = true := decide_eq_true (by
     apply Int.not_le.1; intro h1; exact hok ⟨rfl, by omega, h1⟩)
    clear hok h0; go_enter Tryd.func36, Tryd.ntmps36; go_wp2_with fail; refine (impl_areAvoided.calls k a0 A1 c1 l1 true w HR1.out HC1.out HT.out).mono ?_; rintro e_ w1 ⟨rfl, ⟨n1, rfl⟩⟩; go_wp2_with ((with_reducible refine gate_dst (N := 21) rfl ?_); refine Aside0.out ?_); refine Aside0.mk ?_; refine Kd.R_lit (Kd.int .i64) (w0 := w) w.heap.size 3 ?hg (N := 21) ?hd (xs := ([] : List Int)) (inner := []) (ok := fun _ => True) (okp := fun _ => True) ?hr ?hp (fun _ hk => hk) trivial (pw_below_drewN (Below.refl _ _) _) (Nat.le_refl _) (by simp) ?_
    case hd => rfl
    case hg => rfl
    case hr => first | (go_simp; done) | (go_simp; rfl)
    case hp => exact (Reps.none _ _)
    intro v21 w2 ho2 hb2 _ _; have HO2 := Aside0.mk ho2; have HB2 := Aside0.mk hb2; clear ho2 hb2; go_wp2_with fail; go_ret2; exact ⟨_, rfl, HO2.out, HB2.out⟩
  ·have ht' : t = false := Bool.eq_false_iff.2 ht; subst ht'; clear hok ht; go_enter Tryd.func36, Tryd.ntmps36; go_wp2_with fail; refine (impl_areAvoided.calls k a0 A1 c1 l1 false w HR1.out HC1.out HT.out).mono ?_; rintro e_ w1 ⟨rfl, ⟨n1, rfl⟩⟩; go_wp2_with ((with_reducible refine gate_dst (N := 21) rfl ?_); refine Aside0.out ?_); refine Aside0.mk ?_; refine Kd.R_lit (Kd.int .i64) (w0 := w) w.heap.size 3 ?hg (N := 21) ?hd (xs := ([] : List Int)) (inner := []) (ok := fun _ => True) (okp := fun _ => True) ?hr ?hp (fun _ hk => hk) trivial (pw_below_drewN (Below.refl _ _) _) (Nat.le_refl _) (by simp) ?_
   case hd => rfl
   case hg => rfl
   case hr => first | (go_simp; done) | (go_simp; rfl)
   case hp => exact (Reps.none _ _)
   intro v21 w2 ho2 hb2 _ _; have HO2 := Aside0.mk ho2; have HB2 := Aside0.mk hb2; clear ho2 hb2; go_wp2_with fail; go_ret2; exact ⟨_, rfl, HO2.out, HB2.out⟩
end Go.Proofs.YtdekenijnbhpfaaDoor.M
