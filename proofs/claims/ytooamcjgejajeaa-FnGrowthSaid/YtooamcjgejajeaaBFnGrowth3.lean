/- Texts of the claim on FnGrowth, joined (part 3 of 5): walks of the functions, what they come to, and in the last part the row. No condition of mine. -/
import Derived.Test.YtooamcjgejajeaaBFnGrowth0
import Derived.Test.YtooamcjgejajeaaBFnGrowth1
import Derived.Test.YtooamcjgejajeaaBFnGrowth2
namespace Go.Proofs.Ytooamcjgejajeaa.M
open Go.RowKit Go.Proofs.Ytooamcjgejajeaa.KW Go.Proofs.YtooamcjgejajeaaW.PrintWords Go.Proofs.YtooamcjgejajeaaW.PrintLast Go.Proofs.YtooamcjgejajeaaW.PrintMore
attribute [local go_sem] max2_int min2_int max_two min_two max_three min_three max_four min_four
set_option linter.unusedVariables false
set_option linter.unusedSimpArgs false
mutual
def spec_ApplyMorphism.j0 : Nat → List Int → List Int → Bool → List (List Int) → Option (List Int × Bool)
 | 0, _, _, _, _ => none
 | k + 1, x1, x6, x19, x378000 => if x19 = true then (some (x6, false)) else (spec_ApplyMorphism.l0 k x1 x6 0 x378000)
def spec_ApplyMorphism.l0 : Nat → List Int → List Int → Int → List (List Int) → Option (List Int × Bool)
 | 0, _, _, _, _ => none
 | k + 1, x1, x6, x7, x378000 => if x7 < (x1.length : Int) then (if 0 ≤ x7 then (if 0 ≤ (rd x1 x7) then (if (rd x1 x7) < (x378000.length : Int) then (if x6.length + (rd_L1 x378000 (rd x1 x7)).length < 17592186044416 then ((some (x6 ++ (rd_L1 x378000 (rd x1 x7)) : List Int)).bind fun y385 => (if (y385.length : Int) > 400 then (some ((([] : List Int)), false)) else (spec_ApplyMorphism.l0 k x1 y385 (wrap64 (x7 + 1)) x378000))) else (none)) else (none)) else (none)) else (none)) else (some (x6, true))
end
def spec_ApplyMorphism.f (k : Nat) (l0_0 : List (List Int)) (l1 : List Int) : Option (List Int × Bool) := (some (([] : List Int) : List Int)).bind fun y378 => ((spec_IsMorphism.f k l0_0).bind fun t381 => (if t381 = true then ((spec_IsWord.f k l1 (l0_0.length : Int)).bind fun t382 => (spec_ApplyMorphism.j0 k l1 y378 (!t382) l0_0)) else (spec_ApplyMorphism.j0 k l1 y378 true l0_0)))
def spec_ApplyMorphism.T7 : Bool × List (List Nat × List Nat) := (true, [([], []), ([], []), ([1], [1]), ([], []), ([], []), ([3, 4], [3, 4]), ([5], [5]), ([2, 6], [2, 6]), ([7], [7]), ([0, 8], [0, 8]), ([9, 9, 0, 1, 2, 3, 4, 5, 6, 7, 8, 9], [0, 9])])
def spec_ApplyMorphism.B7 : List Nat := [0, 0, 2, 0, 0, 24, 56, 126, 254, 511, 1023]
theorem spec_ApplyMorphism.tab7 : rtab .any (opsOf Try.f95 7) = spec_ApplyMorphism.T7 := by kernel_rfl
theorem spec_ApplyMorphism.bits7 : waitsOk spec_ApplyMorphism.T7.2 spec_ApplyMorphism.B7 = true := by kernel_rfl
set_option maxHeartbeats 8000000 in
set_option maxRecDepth 100000 in
theorem spec_ApplyMorphism.calls (k : Nat) (A0_0 : Option Addr) (c0_0 : Nat) (l0_0 : List (List Int)) (A1 : Option Addr) (c1 : Nat) (l1 : List Int) (r1 : List Int) (r2 : Bool) (w : World) (hr0_0 : Kd.C (Kd.slice 3 (Kd.int .i64)) w A0_0 l0_0.length l0_0) (hc0_0 : l0_0.length ≤ c0_0) (hr1 : Kd.C (Kd.int .i64) w A1 l1.length l1) (hc1 : l1.length ≤ c1) (h : spec_ApplyMorphism.f k l0_0 l1 = some (r1, r2)) :
  Calls Try.prog 95 #[.agg #[.slice A0_0 l0_0.length c0_0], .slice A1 l1.length c1] w fun e w' => ∃ v0_ : Value, e = .returned (.tuple #[v0_, .bool r2]) ∧ Kd.R (Kd.int .i64) 3 w' w.heap.size (fun _ => True) v0_ r1 ∧ Below w.heap.size w w' := by
 have hu28 := Try.underlying28; have HR0_0 := am hr0_0; have HC0_0 := am hc0_0; clear hr0_0 hc0_0; have HR1 := am hr1; have HC1 := am hc1; clear hr1 hc1; have HB := am (Below.refl w.heap.size w); have H : ((some (([] : List Int) : List Int)).bind fun y378 => ((spec_IsMorphism.f k l0_0).bind fun t381 => (if t381 = true then ((spec_IsWord.f k l1 (l0_0.length : Int)).bind fun t382 => (spec_ApplyMorphism.j0 k l1 y378 (!t382) l0_0)) else (spec_ApplyMorphism.j0 k l1 y378 true l0_0)))) = some (r1, r2) := h; clear h; obtain ⟨y378, hy378⟩ : ∃ y_ : List Int, y_ = (([] : List Int)) := ⟨_, rfl⟩; replace H : ((spec_IsMorphism.f k l0_0).bind fun t381 => (if t381 = true then ((spec_IsWord.f k l1 (l0_0.length : Int)).bind fun t382 => (spec_ApplyMorphism.j0 k l1 y378 (!t382) l0_0)) else (spec_ApplyMorphism.j0 k l1 y378 true l0_0))) = some (r1, r2) := by rw [hy378]; first | exact H | exact (Option.bind_some _ _).symm.trans H
 have Ny378 := am hy378; clear hy378; have HC3 := am H; clear H; go_enter Try.func95, Try.ntmps95; go_upto_region 2 with (first | ((with_reducible refine gate_dst (N := 2) rfl ?_); (try (refine gate_guard (by rfl) ?_; dsimp only)); refine box_event ?hg (N := 2) ?hd (cs := #[.slice A0_0 l0_0.length c0_0]) (t := 28) ?hr ?_; (case hd | hg => rfl); (case hr => go_simp <;> rfl); intro gb377 hg w4 hbox hb; have BK377 := am (hbox); have GW377 := am ((by rw [hg]; exact (bZ HB) : w.heap.size ≤ gb377)); have GE377 := am ((by rw [hg]; exact (bZ HB) : w.heap.size ≤ gb377)); replace HB := bS HB hb; have qW377 := Ge.mk GW377.out; have qE377 := Ge.mk GE377.out; clear hb hbox hg) | ((with_reducible refine gate_dst (N := 8) rfl ?_); (try (refine gate_guard (by rfl) ?_; dsimp only)); refine Kd.R_lit (Kd.int .i64) _ 3 ?hg (N := 8) ?hd (xs := ([] : List Int)) (inner := []) (ok := fun _ => True) (okp := fun _ => True) ?hr ?hp (fun _ hk => hk) trivial (Below.refl _ _) (Nat.le_refl _) (by simp) ?_; (case hd | hg => rfl); (case hr => go_simp <;> rfl); (case hp => exact (Reps.none _ _)); intro v379 w5 ho6 hb hg_ hnew_; clear hg_ hnew_; (first | rw [← Ny378.out] at ho6 | (simp only [Int.reduceToNat] at ho6; rw [← Ny378.out] at ho6)); have HO380 := am (Kd.R_lower ho6 (bZ HB)); replace BK377 := bK BK377 hb; replace HB := bS HB hb; clear hb ho6)); (try simp only [Act.put, qa, qz, qs]); go_cut [19] (fun v19 wc => ∃ (kq : Nat) (x19_2 : Bool), v19 = .bool x19_2 ∧ Aside0 (spec_ApplyMorphism.j0 kq l1 y378 x19_2 l0_0 = some (r1, r2)) ∧ Aside0 (kq ≤ k) ∧ Aside0 (Kd.R (Kd.int .i64) 3 wc w.heap.size (fun _ => True) v379 y378) ∧ Aside0 (wc.heap[gb377]? = some (.cells #[(.slice A0_0 l0_0.length c0_0)] 28 (0, 0))) ∧ Aside0 (Below w.heap.size w wc))
 case first =>
  have H := HC3.out; clear HC3; replace H := bE H; obtain ⟨t381, A70, H⟩ := H; replace H : (if t381 = true then ((spec_IsWord.f k l1 (l0_0.length : Int)).bind fun t382 => (spec_ApplyMorphism.j0 k l1 y378 (!t382) l0_0)) else (spec_ApplyMorphism.j0 k l1 y378 true l0_0)) = some (r1, r2) := H; have A7 := am A70; clear A70; by_cases c8 : t381 = true
  ·subst c8; have H1 : ((spec_IsWord.f k l1 (l0_0.length : Int)).bind fun t382 => (spec_ApplyMorphism.j0 k l1 y378 (!t382) l0_0)) = some (r1, r2) := by rw [if_pos rfl] at H; exact H
   clear H; have H := H1; clear H1; replace H := bE H; obtain ⟨t382, A90, H⟩ := H; replace H : (spec_ApplyMorphism.j0 k l1 y378 (!t382) l0_0) = some (r1, r2) := H; have A9 := am A90; clear A90; have H' := am H; clear H; have hcz10_0 := z10 BK377; have hfz10_0 := blk_frozen BK377.out 0; go_wp2_with (first | ((with_reducible refine gate_callee (f := 109) rfl ?_); refine goesL_ (some 10) rfl rfl Try.func109 (by kernel_rfl) rfl #[.agg #[.slice A0_0 l0_0.length c0_0]] rfl (by (try simp only [mT, mC, mN]); first | done | rfl) ?_; (with_reducible refine (spec_IsMorphism.calls k _ _ l0_0 true _ ?side1 ?side2 A7.out).mono ?_); (case side1 => exact xC ((Kd.C_below HR0_0.out HB.out))); (case side2 => exact HC0_0.out); rintro e w11 ⟨rfl, hb⟩; refine ⟨_, rfl, ?_⟩; replace HO380 := am (Kd.R_below (by exact rR HO380) hb); replace BK377 := bK BK377 hb; replace HB := bS HB hb; clear hb; have hcz12_0 := z10 BK377; have hfz12_0 := blk_frozen BK377.out 0) | (go_at_call 129; (with_reducible refine (spec_IsWord.calls k _ _ l1 (l0_0.length : Int) t382 _ ?side1 ?side2 A9.out).mono ?_); (case side1 => exact xC ((Kd.C_below HR1.out HB.out))); (case side2 => exact HC1.out); rintro e w' ⟨rfl, ⟨nd, rfl⟩⟩)); go_meet
   case rel => exact ⟨_, (!t382), (by first | rfl | (simp; done) | (simp [*]; done)), H', ⟨by first | omega | exact Nat.le_refl _⟩, ⟨by exact rR HO380⟩, ⟨by exact rX BK377⟩, ⟨by exact rB HB⟩⟩
  ·replace c8 := Bool.eq_false_iff.mpr c8; subst c8; have H1 : (spec_ApplyMorphism.j0 k l1 y378 true l0_0) = some (r1, r2) := by rw [if_neg (show ¬ (false = true) by decide)] at H; exact H
   clear H; have H := H1; clear H1; have H' := am H; clear H; have hcz13_0 := z10 BK377; have hfz13_0 := blk_frozen BK377.out 0; go_wp2_with (first | ((with_reducible refine gate_callee (f := 109) rfl ?_); refine goesL_ (some 10) rfl rfl Try.func109 (by kernel_rfl) rfl #[.agg #[.slice A0_0 l0_0.length c0_0]] rfl (by (try simp only [mT, mC, mN]); first | done | rfl) ?_; (with_reducible refine (spec_IsMorphism.calls k _ _ l0_0 false _ ?side1 ?side2 A7.out).mono ?_); (case side1 => exact xC ((Kd.C_below HR0_0.out HB.out))); (case side2 => exact HC0_0.out); rintro e w14 ⟨rfl, hb⟩; refine ⟨_, rfl, ?_⟩; replace HO380 := am (Kd.R_below (by exact rR HO380) hb); replace BK377 := bK BK377 hb; replace HB := bS HB hb; clear hb)); go_meet
   case rel => exact ⟨_, (true), (by first | rfl | (simp; done) | (simp [*]; done)), H', ⟨by first | omega | exact Nat.le_refl _⟩, ⟨by exact rR HO380⟩, ⟨by exact rX BK377⟩, ⟨by exact rB HB⟩⟩
 case rest =>
  clear HC3
  try clear c1
  try clear p2
  try clear c8
  try clear c9
  try clear c10
  try clear hcz10_0
  try clear hcz12_0
  try clear hcz13_0
  try clear hfz10_0
  try clear hfz12_0
  try clear hfz13_0
  obtain ⟨kq, x19_2, rfl, HA, HJ2, HO_6, BK377, HB⟩ := hcut; cases kq with
  | zero => exact absurd HA.out (by simp [spec_ApplyMorphism.j0])
  | succ kj2 =>
   have H := HA.out; clear HA; simp only [spec_ApplyMorphism.j0] at H; by_cases c15 : x19_2 = true
   ·subst c15; have H1 : (some (y378, false)) = some (r1, r2) := by rw [if_pos rfl] at H; exact H
    clear H; have H := H1; clear H1; simp only [Option.some.injEq, Prod.mk.injEq] at H; obtain ⟨rfl, rfl⟩ := H; go_wp2; go_ret2; exact ⟨_, by first | rfl | (simp [errW_none, errW_some] <;> rfl) | (simp [*, errW_none, errW_some] <;> rfl), by exact rR HO_6, by exact rB HB⟩
   ·replace c15 := Bool.eq_false_iff.mpr c15; subst c15; have H1 : (spec_ApplyMorphism.l0 kj2 l1 y378 0 l0_0) = some (r1, r2) := by rw [if_neg (show ¬ (false = true) by decide)] at H; exact H
    clear H; have H := H1; clear H1; have H' := am H; clear H; go_wp2; go_loopg [6, 7] kj2 (fun kq v6 v7 w' => ∃ (x6_2 : List Int) (x7_2 : Int), v7 = .int .i64 x7_2 ∧ Aside0 (spec_ApplyMorphism.l0 kq l1 x6_2 x7_2 l0_0 = some (r1, r2)) ∧ Aside0 (kq ≤ kj2) ∧ Aside0 (Kd.R (Kd.int .i64) 3 w' w.heap.size (fun _ => True) v6 x6_2) ∧ Aside0 (w'.heap[gb377]? = some (.cells #[(.slice A0_0 l0_0.length c0_0)] 28 (0, 0))) ∧ Aside0 (Below w.heap.size w w'))
    case atStart => exact ⟨(y378), (0), (by first | rfl | (simp; done) | (simp [*]; done)), H', ⟨Nat.le_refl _⟩, ⟨by exact rR HO_6⟩, ⟨by exact rX BK377⟩, ⟨by exact rB HB⟩⟩
    case round =>
     clear H'
     try clear c1
     try clear p2
     try clear c8
     try clear c9
     try clear c10
     try clear c15
     try clear hcz10_0
     try clear hcz12_0
     try clear hcz13_0
     try clear hfz10_0
     try clear hfz12_0
     try clear hfz13_0
     try clear p2
     obtain ⟨x6_2, x7_2, rfl, HA, HK2, HO_6, BK377, HB⟩ := hrel; cases gk with
     | zero => exact absurd HA.out (by simp [spec_ApplyMorphism.l0])
     | succ k2 =>
      have H := HA.out; clear HA; simp only [spec_ApplyMorphism.l0] at H; by_cases c16 : x7_2 < (l1.length : Int)
      ·rw [if_pos c16] at H; have c16b0 : decide (x7_2 < (l1.length : Int)) = true := decide_eq_true c16; clear c16; by_cases c17 : 0 ≤ x7_2
       ·rw [if_pos c17] at H; have c17b0 : decide (0 ≤ x7_2) = true := decide_eq_true c17; clear c17; by_cases c18 : 0 ≤ (rd l1 x7_2)
        ·rw [if_pos c18] at H; have c18b0 : decide (0 ≤ (rd l1 x7_2)) = true := decide_eq_true c18; clear c18; by_cases c19 : (rd l1 x7_2) < (l0_0.length : Int)
         ·rw [if_pos c19] at H; have c19b0 : decide ((rd l1 x7_2) < (l0_0.length : Int)) = true := decide_eq_true c19; clear c19; by_cases c20 : x6_2.length + (rd_L1 l0_0 (rd l1 x7_2)).length < 17592186044416
          ·rw [if_pos c20] at H; have LMc20 := am c20; clear c20; obtain ⟨y385, hy385⟩ : ∃ y_ : List Int, y_ = (x6_2 ++ (rd_L1 l0_0 (rd l1 x7_2))) := ⟨_, rfl⟩; replace H : (if (y385.length : Int) > 400 then (some ((([] : List Int)), false)) else (spec_ApplyMorphism.l0 k2 l1 y385 (wrap64 (x7_2 + 1)) l0_0)) = some (r1, r2) := by rw [hy385]; first | exact H | exact (Option.bind_some _ _).symm.trans H
           have Ny385 := am hy385; clear hy385; by_cases c21 : (y385.length : Int) > 400
           ·rw [if_pos c21] at H; have c21b0 : decide (400 < (y385.length : Int)) = true := decide_eq_true c21; have c21b1 : decide (400 < y385.length) = true := decide_eq_true (by omega); clear c21; obtain ⟨y388, hy388⟩ : ∃ y_ : List Int, y_ = (([] : List Int)) := ⟨_, rfl⟩; replace H : (some (y388, false)) = some (r1, r2) := by rw [hy388]; first | exact H | exact (Option.bind_some _ _).symm.trans H
            have Ny388 := am hy388; clear hy388; simp only [Option.some.injEq, Prod.mk.injEq] at H; obtain ⟨rfl, rfl⟩ := H
            try go_wp2
            replace HO_6 := am (Kd.R_drew HO_6.out); replace BK377 := am (blk_drew BK377.out); replace HB := am (below_drew1 HB.out)
            have p383 : 0 ≤ (x7_2 : Int) := oD; have q383 : x7_2 < (l1.length : Int) := oD; obtain ⟨ad383, e383, hx383_0⟩ := Kd.at_int HR1.out x7_2 p383 q383; have hw383_0 := hx383_0; cases e383; replace hx383_0 := (HB.out.cell (World.block_lt_of_cell? w _ hx383_0)).trans hx383_0; replace p383 := eq_true p383; replace q383 := eq_true q383; have p384 : 0 ≤ ((rd l1 x7_2) : Int) := oD; have q384 : (rd l1 x7_2) < (l0_0.length : Int) := oD; obtain ⟨ad384, A384_0, c384_0, e384, hx384_0, hl384_0, hi384_0⟩ := at_L1 HR0_0.out (rd l1 x7_2) p384 q384; have hw384_0 := hx384_0; cases e384; replace hx384_0 := (HB.out.cell (World.block_lt_of_cell? w _ hx384_0)).trans hx384_0; have HR384_0 := am hi384_0; have HC384_0 := am hl384_0; clear hi384_0 hl384_0; replace p384 := eq_true p384; replace q384 := eq_true q384; refine start_ (n := 11) (S := fun w' => w'.cell? ⟨gb377, 0, none⟩ = some (.slice (some ad384) l0_0.length c0_0) ∧ w'.cell? (ad383.add (x7_2).toNat) = some (.int .i64 (rd l1 x7_2)) ∧ w'.cell? (ad384.add ((rd l1 x7_2)).toNat) = some (.slice A384_0 (rd_L1 l0_0 (rd l1 x7_2)).length c384_0)) (ds := []) #[false, false, false, false, false, false, false, false, false, false, false] (by kernel_rfl) rfl rfl ⟨(blk_cell BK377.out 0).trans rfl, ((HB.out.cell (World.block_lt_of_cell? w _ hw383_0)).trans hw383_0), ((HB.out.cell (World.block_lt_of_cell? w _ hw384_0)).trans hw384_0)⟩ (fun hHeld => ?_); refine with_tabW spec_ApplyMorphism.tab7 spec_ApplyMorphism.bits7 (fun HT_ HW_ => ?_); generalize wr.drew = w22 at HO_6 BK377 HB HR384_0 hx383_0 hx384_0 hHeld ⊢; refine pure_ (i := 0) (N := some 27) (v := ?_) (a' := ?_) (bA 11 1) rfl rfl (any_of HT_.out (by kernel_rfl)) (fun _ _ _ h => h) (Or.inl ⟨by rfl, ?_⟩) ?_ ?_; rotate_left; (intro w'; go_simp; (with_reducible rfl)); rotate_left; (simp only [Act.put, qa, qz, qs, i64_w, i32_w]; rfl); refine pure_ (i := 1) (N := some 28) (v := ?_) (a' := ?_) (bA 11 3) rfl rfl (any_of HT_.out (by kernel_rfl)) (fun _ _ _ h => h) (Or.inl ⟨by rfl, ?_⟩) ?_ ?_; rotate_left
            ·intro w'; go_simp; (with_reducible rfl)
            rotate_left; (simp only [Act.put, qa, qz, qs, i64_w, i32_w]; rfl); refine pure_ (i := 3) (N := some 30) (v := ?_) (a' := ?_) (bA 11 11) rfl rfl (any_of HT_.out (by kernel_rfl)) (fun _ _ _ h => h) (Or.inl ⟨by rfl, ?_⟩) ?_ ?_; rotate_left
            ·intro w'; go_simp; (with_reducible rfl)
            rotate_left; (simp only [Act.put, qa, qz, qs, i64_w, i32_w]; rfl); refine pure_ (i := 4) (N := some 31) (v := ?_) (a' := ?_) (bA 11 27) rfl rfl (any_of HT_.out (by kernel_rfl)) (fun _ _ _ h => h) (Or.inl ⟨by rfl, ?_⟩) ?_ ?_; rotate_left
            ·intro w'; go_simp; (with_reducible rfl)
            rotate_left; (simp only [Act.put, qa, qz, qs, i64_w, i32_w]; rfl); refine pure_ (i := 5) (N := some 32) (v := ?_) (a' := ?_) (bA 11 59) rfl rfl (any_of HT_.out (by kernel_rfl)) (fun _ _ _ h => h) (Or.inl ⟨by rfl, ?_⟩) ?_ ?_; rotate_left
            ·intro w'; go_simp; (with_reducible rfl)
            rotate_left; (simp only [Act.put, qa, qz, qs, i64_w, i32_w]; rfl); refine take_ (i := 2) (N := some 29) (v := ?_) (a' := ?_) (bA 11 63) rfl rfl (take_ofW HT_.out HW_.out (by kernel_rfl)) (fun _ _ _ h => h) (Or.inl ⟨by rfl, ?_⟩) hHeld ?_ ?_; rotate_left
            ·rintro w' ⟨s0, s1, s2⟩; go_simp; (with_reducible rfl)
            rotate_left; (simp only [Act.put, qa, qz, qs, i64_w, i32_w]; rfl); refine take_ (i := 6) (N := some 33) (v := ?_) (a' := ?_) (bA 11 127) rfl rfl (take_ofW HT_.out HW_.out (by kernel_rfl)) (fun _ _ _ h => h) (Or.inl ⟨by rfl, ?_⟩) hHeld ?_ ?_; rotate_left
            ·rintro w' ⟨s0, s1, s2⟩; go_simp; (with_reducible rfl)
            rotate_left; (simp only [Act.put, qa, qz, qs, i64_w, i32_w]; rfl); refine pure_ (i := 7) (N := some 34) (v := ?_) (a' := ?_) (bA 11 255) rfl rfl (any_of HT_.out (by kernel_rfl)) (fun _ _ _ h => h) (Or.inl ⟨by rfl, ?_⟩) ?_ ?_; rotate_left
            ·intro w'; go_simp; (with_reducible rfl)
            rotate_left; (simp only [Act.put, qa, qz, qs, i64_w, i32_w]; rfl); refine take_ (i := 8) (N := some 35) (v := ?_) (a' := ?_) (bA 11 511) rfl rfl (take_ofW HT_.out HW_.out (by kernel_rfl)) (fun _ _ _ h => h) (Or.inl ⟨by rfl, ?_⟩) hHeld ?_ ?_; rotate_left
            ·rintro w' ⟨s0, s1, s2⟩; go_simp; (with_reducible rfl)
            rotate_left; (simp only [Act.put, qa, qz, qs, i64_w, i32_w]; rfl); refine one_ (i := 9) (N := some 36) (bA 11 1023) rfl rfl (one_of HT_.out (by kernel_rfl)) (by decide) (fun K hK => ?_); refine Kd.R_append_rows_step (Kd.int .i64) (w0 := w) w.heap.size (by rfl) (.tmp 27) (.tmp 35) 36 3 (.int .i64 0) 8 rfl Try.underlying36 info3 rfl (by decide) (by omega) u6 x6_2 (rd_L1 l0_0 (rd l1 x7_2)) _ _ _ (fun _ => True) (fun _ => False) rfl rfl ?aO ?aR (fun _ _ h => h) (fun _ h => h.elim) ?aF ?aB ?aS ?aL ?_; (case aR => exact xC ((Kd.C_below HR384_0.out HB.out))); (case aB => exact (by exact rB HB)); (case aF => exact (fun _ _ => trivial)); (case aO => exact (by exact rR HO_6)); (case aS => exact (bZ HB)); (case aL => have := LMc20.out; omega); intro v386 w23 ho hb hg hat; rw [← Ny385.out] at ho; replace BK377 := am (blk_grown (g := gb377) (o := .cells #[.slice (some ad384) l0_0.length c0_0] 28 (0, 0)) (by exact rX BK377) hg (Kd.R_ne HO_6.out BK377.out (by decide))); replace HB := am (hb); have HO387 := am (ho); clear HO_6
            clear ho hb hg hat; refine hK.out _ _ ⟨(blk_cell BK377.out 0).trans rfl, ((HB.out.cell (World.block_lt_of_cell? w _ hw383_0)).trans hw383_0), ((HB.out.cell (World.block_lt_of_cell? w _ hw384_0)).trans hw384_0)⟩ (fun hHeld => ?_); clear hK K; refine norm_ (a' := ?_) ?_ ?_; rotate_left; (show Act.put _ (some 36) _ = _; simp only [Act.put, qa, qz, qs, i64_w, i32_w]; rfl); refine pure_ (i := 10) (N := some 6) (v := ?_) (a' := ?_) (bA 11 2047) rfl rfl (any_of HT_.out (by kernel_rfl)) (fun _ _ _ h => h) (Or.inl ⟨by rfl, ?_⟩) ?_ ?_; rotate_left
            ·intro w'; go_simp; (with_reducible rfl)
            rotate_left; (simp only [Act.put, qa, qz, qs, i64_w, i32_w]; rfl); refine done_ (done_of HT_.out (by kernel_rfl)) ?_; obtain ⟨Ao24, co24, eo24⟩ := Kd.R_slice HO387.out; subst eo24
            try go_wp2_with (first | ((with_reducible refine gate_dst (N := 40) rfl ?_); (try (refine gate_guard (by rfl) ?_; dsimp only)); refine Kd.R_lit (Kd.int .i64) _ 3 ?hg (N := 40) ?hd (xs := ([] : List Int)) (inner := []) (ok := fun _ => True) (okp := fun _ => True) ?hr ?hp (fun _ hk => hk) trivial (Below.refl _ _) (Nat.le_refl _) (by simp) ?_; (case hd | hg => rfl); (case hr => go_simp <;> rfl); (case hp => exact (Reps.none _ _)); intro v389 w25 ho26 hb hg_ hnew_; clear hg_ hnew_; (first | rw [← Ny388.out] at ho26 | (simp only [Int.reduceToNat] at ho26; rw [← Ny388.out] at ho26)); have HO390 := am (Kd.R_lower (Kd.R_new' ho26 (Kd.R_lt (by exact rR HO387))) (bZ HB)); replace HO387 := am (Kd.R_elder' (by exact rR HO387) (Kd.R_base ho26) hb); replace BK377 := bK BK377 hb; replace HB := bS HB hb; clear hb ho26))
            go_ret2; exact ⟨_, by first | rfl | (simp [errW_none, errW_some] <;> rfl) | (simp [*, errW_none, errW_some] <;> rfl), by exact xR (Kd.R_mono HO390.out (fun _ hk => trivial)), by exact rB HB⟩
           ·rw [if_neg c21] at H; have c21b0 : decide (400 < (y385.length : Int)) = false := decide_eq_false c21; have c21b1 : decide (400 < y385.length) = false := decide_eq_false (by omega); clear c21; have H' := am H; clear H
            try go_wp2
            replace HO_6 := am (Kd.R_drew HO_6.out); replace BK377 := am (blk_drew BK377.out); replace HB := am (below_drew1 HB.out)
            have p383 : 0 ≤ (x7_2 : Int) := oD; have q383 : x7_2 < (l1.length : Int) := oD; obtain ⟨ad383, e383, hx383_0⟩ := Kd.at_int HR1.out x7_2 p383 q383; have hw383_0 := hx383_0; cases e383; replace hx383_0 := (HB.out.cell (World.block_lt_of_cell? w _ hx383_0)).trans hx383_0; replace p383 := eq_true p383; replace q383 := eq_true q383; have p384 : 0 ≤ ((rd l1 x7_2) : Int) := oD; have q384 : (rd l1 x7_2) < (l0_0.length : Int) := oD; obtain ⟨ad384, A384_0, c384_0, e384, hx384_0, hl384_0, hi384_0⟩ := at_L1 HR0_0.out (rd l1 x7_2) p384 q384; have hw384_0 := hx384_0; cases e384; replace hx384_0 := (HB.out.cell (World.block_lt_of_cell? w _ hx384_0)).trans hx384_0; have HR384_0 := am hi384_0; have HC384_0 := am hl384_0; clear hi384_0 hl384_0; replace p384 := eq_true p384; replace q384 := eq_true q384; refine start_ (n := 11) (S := fun w' => w'.cell? ⟨gb377, 0, none⟩ = some (.slice (some ad384) l0_0.length c0_0) ∧ w'.cell? (ad383.add (x7_2).toNat) = some (.int .i64 (rd l1 x7_2)) ∧ w'.cell? (ad384.add ((rd l1 x7_2)).toNat) = some (.slice A384_0 (rd_L1 l0_0 (rd l1 x7_2)).length c384_0)) (ds := []) #[false, false, false, false, false, false, false, false, false, false, false] (by kernel_rfl) rfl rfl ⟨(blk_cell BK377.out 0).trans rfl, ((HB.out.cell (World.block_lt_of_cell? w _ hw383_0)).trans hw383_0), ((HB.out.cell (World.block_lt_of_cell? w _ hw384_0)).trans hw384_0)⟩ (fun hHeld => ?_); refine with_tabW spec_ApplyMorphism.tab7 spec_ApplyMorphism.bits7 (fun HT_ HW_ => ?_); generalize wr.drew = w27 at HO_6 BK377 HB HR384_0 hx383_0 hx384_0 hHeld ⊢; refine pure_ (i := 0) (N := some 27) (v := ?_) (a' := ?_) (bA 11 1) rfl rfl (any_of HT_.out (by kernel_rfl)) (fun _ _ _ h => h) (Or.inl ⟨by rfl, ?_⟩) ?_ ?_; rotate_left; (intro w'; go_simp; (with_reducible rfl)); rotate_left; (simp only [Act.put, qa, qz, qs, i64_w, i32_w]; rfl); refine pure_ (i := 1) (N := some 28) (v := ?_) (a' := ?_) (bA 11 3) rfl rfl (any_of HT_.out (by kernel_rfl)) (fun _ _ _ h => h) (Or.inl ⟨by rfl, ?_⟩) ?_ ?_; rotate_left
            ·intro w'; go_simp; (with_reducible rfl)
            rotate_left; (simp only [Act.put, qa, qz, qs, i64_w, i32_w]; rfl); refine pure_ (i := 3) (N := some 30) (v := ?_) (a' := ?_) (bA 11 11) rfl rfl (any_of HT_.out (by kernel_rfl)) (fun _ _ _ h => h) (Or.inl ⟨by rfl, ?_⟩) ?_ ?_; rotate_left
            ·intro w'; go_simp; (with_reducible rfl)
            rotate_left; (simp only [Act.put, qa, qz, qs, i64_w, i32_w]; rfl); refine pure_ (i := 4) (N := some 31) (v := ?_) (a' := ?_) (bA 11 27) rfl rfl (any_of HT_.out (by kernel_rfl)) (fun _ _ _ h => h) (Or.inl ⟨by rfl, ?_⟩) ?_ ?_; rotate_left
            ·intro w'; go_simp; (with_reducible rfl)
            rotate_left; (simp only [Act.put, qa, qz, qs, i64_w, i32_w]; rfl); refine pure_ (i := 5) (N := some 32) (v := ?_) (a' := ?_) (bA 11 59) rfl rfl (any_of HT_.out (by kernel_rfl)) (fun _ _ _ h => h) (Or.inl ⟨by rfl, ?_⟩) ?_ ?_; rotate_left
            ·intro w'; go_simp; (with_reducible rfl)
            rotate_left; (simp only [Act.put, qa, qz, qs, i64_w, i32_w]; rfl); refine take_ (i := 2) (N := some 29) (v := ?_) (a' := ?_) (bA 11 63) rfl rfl (take_ofW HT_.out HW_.out (by kernel_rfl)) (fun _ _ _ h => h) (Or.inl ⟨by rfl, ?_⟩) hHeld ?_ ?_; rotate_left
            ·rintro w' ⟨s0, s1, s2⟩; go_simp; (with_reducible rfl)
            rotate_left; (simp only [Act.put, qa, qz, qs, i64_w, i32_w]; rfl); refine take_ (i := 6) (N := some 33) (v := ?_) (a' := ?_) (bA 11 127) rfl rfl (take_ofW HT_.out HW_.out (by kernel_rfl)) (fun _ _ _ h => h) (Or.inl ⟨by rfl, ?_⟩) hHeld ?_ ?_; rotate_left
            ·rintro w' ⟨s0, s1, s2⟩; go_simp; (with_reducible rfl)
            rotate_left; (simp only [Act.put, qa, qz, qs, i64_w, i32_w]; rfl); refine pure_ (i := 7) (N := some 34) (v := ?_) (a' := ?_) (bA 11 255) rfl rfl (any_of HT_.out (by kernel_rfl)) (fun _ _ _ h => h) (Or.inl ⟨by rfl, ?_⟩) ?_ ?_; rotate_left
            ·intro w'; go_simp; (with_reducible rfl)
            rotate_left; (simp only [Act.put, qa, qz, qs, i64_w, i32_w]; rfl); refine take_ (i := 8) (N := some 35) (v := ?_) (a' := ?_) (bA 11 511) rfl rfl (take_ofW HT_.out HW_.out (by kernel_rfl)) (fun _ _ _ h => h) (Or.inl ⟨by rfl, ?_⟩) hHeld ?_ ?_; rotate_left
            ·rintro w' ⟨s0, s1, s2⟩; go_simp; (with_reducible rfl)
            rotate_left; (simp only [Act.put, qa, qz, qs, i64_w, i32_w]; rfl); refine one_ (i := 9) (N := some 36) (bA 11 1023) rfl rfl (one_of HT_.out (by kernel_rfl)) (by decide) (fun K hK => ?_); refine Kd.R_append_rows_step (Kd.int .i64) (w0 := w) w.heap.size (by rfl) (.tmp 27) (.tmp 35) 36 3 (.int .i64 0) 8 rfl Try.underlying36 info3 rfl (by decide) (by omega) u6 x6_2 (rd_L1 l0_0 (rd l1 x7_2)) _ _ _ (fun _ => True) (fun _ => False) rfl rfl ?aO ?aR (fun _ _ h => h) (fun _ h => h.elim) ?aF ?aB ?aS ?aL ?_; (case aR => exact xC ((Kd.C_below HR384_0.out HB.out))); (case aB => exact (by exact rB HB)); (case aF => exact (fun _ _ => trivial)); (case aO => exact (by exact rR HO_6)); (case aS => exact (bZ HB)); (case aL => have := LMc20.out; omega); intro v386 w28 ho hb hg hat; rw [← Ny385.out] at ho; replace BK377 := am (blk_grown (g := gb377) (o := .cells #[.slice (some ad384) l0_0.length c0_0] 28 (0, 0)) (by exact rX BK377) hg (Kd.R_ne HO_6.out BK377.out (by decide))); replace HB := am (hb); have HO387 := am (ho); clear HO_6
            clear ho hb hg hat; refine hK.out _ _ ⟨(blk_cell BK377.out 0).trans rfl, ((HB.out.cell (World.block_lt_of_cell? w _ hw383_0)).trans hw383_0), ((HB.out.cell (World.block_lt_of_cell? w _ hw384_0)).trans hw384_0)⟩ (fun hHeld => ?_); clear hK K; refine norm_ (a' := ?_) ?_ ?_; rotate_left; (show Act.put _ (some 36) _ = _; simp only [Act.put, qa, qz, qs, i64_w, i32_w]; rfl); refine pure_ (i := 10) (N := some 6) (v := ?_) (a' := ?_) (bA 11 2047) rfl rfl (any_of HT_.out (by kernel_rfl)) (fun _ _ _ h => h) (Or.inl ⟨by rfl, ?_⟩) ?_ ?_; rotate_left
            ·intro w'; go_simp; (with_reducible rfl)
            rotate_left; (simp only [Act.put, qa, qz, qs, i64_w, i32_w]; rfl); refine done_ (done_of HT_.out (by kernel_rfl)) ?_; obtain ⟨Ao29, co29, eo29⟩ := Kd.R_slice HO387.out; subst eo29
            try go_wp2
            go_roundg k2
            case measure => have := HJ2.out; have := HK2.out; omega
            case rel => exact ⟨(y385), (wrap64 (x7_2 + 1)), (by first | rfl | (simp; done) | (simp [*]; done)), H', ⟨by have := HJ2.out; have := HK2.out; omega⟩, ⟨by exact rR HO387⟩, ⟨by exact rX BK377⟩, ⟨by exact rB HB⟩⟩
          ·rw [if_neg c20] at H; exact absurd H (by simp)
         ·rw [if_neg c19] at H; exact absurd H (by simp)
        ·rw [if_neg c18] at H; exact absurd H (by simp)
       ·rw [if_neg c17] at H; exact absurd H (by simp)
      ·rw [if_neg c16] at H; have c16b0 : decide (x7_2 < (l1.length : Int)) = false := decide_eq_false c16; clear c16; simp only [Option.some.injEq, Prod.mk.injEq] at H; obtain ⟨rfl, rfl⟩ := H; go_wp2; go_ret2; exact ⟨_, by first | rfl | (simp [errW_none, errW_some] <;> rfl) | (simp [*, errW_none, errW_some] <;> rfl), by exact rR HO_6, by exact rB HB⟩
mutual
def spec_IterateMorphism.j0 : Nat → Int → List Int → Bool → List (List Int) → Option (List Int × Bool)
 | 0, _, _, _, _ => none
 | k + 1, x2, x8, x29, x1042000 => if x29 = true then (some ((([] : List Int)), false)) else (spec_IterateMorphism.l0 k x2 x8 0 x1042000)
def spec_IterateMorphism.l0 : Nat → Int → List Int → Int → List (List Int) → Option (List Int × Bool)
 | 0, _, _, _, _ => none
 | k + 1, x2, x8, x9, x1042000 => if x9 < x2 then ((spec_ApplyMorphism.f k x1042000 x8).bind fun bt1051 => (if bt1051.2 = true then (spec_IterateMorphism.l0 k x2 bt1051.1 (wrap64 (x9 + 1)) x1042000) else (some ((([] : List Int)), false)))) else (some (x8, true))
end
def spec_IterateMorphism.f (k : Nat) (l0_0 : List (List Int)) (a1 : Int) (a2 : Int) : Option (List Int × Bool) := (some (([a1] : List Int) : List Int)).bind fun y1042 => ((spec_IsMorphism.f k l0_0).bind fun t1045 => (if t1045 = true then ((spec_IsWord.f k y1042 (l0_0.length : Int)).bind fun t1046 => (if t1046 = true then ((spec_l1In.f a2 0 20).bind fun t1047 => (spec_IterateMorphism.j0 k a2 y1042 (!t1047) l0_0)) else (spec_IterateMorphism.j0 k a2 y1042 true l0_0))) else (spec_IterateMorphism.j0 k a2 y1042 true l0_0)))
set_option maxHeartbeats 8000000 in
set_option maxRecDepth 100000 in
theorem spec_IterateMorphism.calls (k : Nat) (A0_0 : Option Addr) (c0_0 : Nat) (l0_0 : List (List Int)) (a1 : Int) (a2 : Int) (r1 : List Int) (r2 : Bool) (w : World) (hr0_0 : Kd.C (Kd.slice 3 (Kd.int .i64)) w A0_0 l0_0.length l0_0) (hc0_0 : l0_0.length ≤ c0_0) (h : spec_IterateMorphism.f k l0_0 a1 a2 = some (r1, r2)) :
  Calls Try.prog 60 #[.agg #[.slice A0_0 l0_0.length c0_0], .int .i64 a1, .int .i64 a2] w fun e w' => ∃ v0_ : Value, e = .returned (.tuple #[v0_, .bool r2]) ∧ Kd.R (Kd.int .i64) 3 w' w.heap.size (fun _ => True) v0_ r1 ∧ Below w.heap.size w w' := by
 have hu28 := Try.underlying28; have HR0_0 := am hr0_0; have HC0_0 := am hc0_0; clear hr0_0 hc0_0; have HB := am (Below.refl w.heap.size w); have H : ((some (([a1] : List Int) : List Int)).bind fun y1042 => ((spec_IsMorphism.f k l0_0).bind fun t1045 => (if t1045 = true then ((spec_IsWord.f k y1042 (l0_0.length : Int)).bind fun t1046 => (if t1046 = true then ((spec_l1In.f a2 0 20).bind fun t1047 => (spec_IterateMorphism.j0 k a2 y1042 (!t1047) l0_0)) else (spec_IterateMorphism.j0 k a2 y1042 true l0_0))) else (spec_IterateMorphism.j0 k a2 y1042 true l0_0)))) = some (r1, r2) := h; clear h; obtain ⟨y1042, hy1042⟩ : ∃ y_ : List Int, y_ = (([a1] : List Int)) := ⟨_, rfl⟩; replace H : ((spec_IsMorphism.f k l0_0).bind fun t1045 => (if t1045 = true then ((spec_IsWord.f k y1042 (l0_0.length : Int)).bind fun t1046 => (if t1046 = true then ((spec_l1In.f a2 0 20).bind fun t1047 => (spec_IterateMorphism.j0 k a2 y1042 (!t1047) l0_0)) else (spec_IterateMorphism.j0 k a2 y1042 true l0_0))) else (spec_IterateMorphism.j0 k a2 y1042 true l0_0))) = some (r1, r2) := by rw [hy1042]; first | exact H | exact (Option.bind_some _ _).symm.trans H
 have Ny1042 := am hy1042; clear hy1042; have HC4 := am H; clear H; go_enter Try.func60, Try.ntmps60; go_upto_region 2 with (first | ((with_reducible refine gate_dst (N := 3) rfl ?_); (try (refine gate_guard (by rfl) ?_; dsimp only)); refine box_event ?hg (N := 3) ?hd (cs := #[.slice A0_0 l0_0.length c0_0]) (t := 28) ?hr ?_; (case hd | hg => rfl); (case hr => go_simp <;> rfl); intro gb1041 hg w5 hbox hb; have BK1041 := am (hbox); have GW1041 := am ((by rw [hg]; exact (bZ HB) : w.heap.size ≤ gb1041)); have GE1041 := am ((by rw [hg]; exact (bZ HB) : w.heap.size ≤ gb1041)); replace HB := bS HB hb; have qW1041 := Ge.mk GW1041.out; have qE1041 := Ge.mk GE1041.out; clear hb hbox hg) | ((with_reducible refine gate_dst (N := 13) rfl ?_); (try (refine gate_guard (by rfl) ?_; dsimp only)); refine Kd.R_lit (Kd.int .i64) _ 3 ?hg (N := 13) ?hd (xs := ([a1] : List Int)) (inner := [.int .i64 a1]) (ok := fun _ => True) (okp := fun _ => True) ?hr ?hp (fun _ hk => hk) trivial (Below.refl _ _) (Nat.le_refl _) (by simp) ?_; (case hd | hg => rfl); (case hr => go_simp <;> rfl); (case hp => exact (Reps.one (show Kd.M (Kd.int .i64) _ _ _ a1 [.int .i64 a1] from rfl) (Reps.none _ _))); intro v1043 w6 ho7 hb hg_ hnew_; clear hg_ hnew_; (first | rw [← Ny1042.out] at ho7 | (simp only [Int.reduceToNat] at ho7; rw [← Ny1042.out] at ho7)); have HO1044 := am (Kd.R_lower ho7 (bZ HB)); replace BK1041 := bK BK1041 hb; replace HB := bS HB hb; clear hb ho7)); (try simp only [Act.put, qa, qz, qs]); go_cut [29] (fun v29 wc => ∃ (kq : Nat) (x29_3 : Bool), v29 = .bool x29_3 ∧ Aside0 (spec_IterateMorphism.j0 kq a2 y1042 x29_3 l0_0 = some (r1, r2)) ∧ Aside0 (kq ≤ k) ∧ Aside0 (Kd.R (Kd.int .i64) 3 wc w.heap.size (fun _ => True) v1043 y1042) ∧ Aside0 (wc.heap[gb1041]? = some (.cells #[(.slice A0_0 l0_0.length c0_0)] 28 (0, 0))) ∧ Aside0 (Below w.heap.size w wc))
 case first =>
  have H := HC4.out; clear HC4; replace H := bE H; obtain ⟨t1045, A80, H⟩ := H; replace H : (if t1045 = true then ((spec_IsWord.f k y1042 (l0_0.length : Int)).bind fun t1046 => (if t1046 = true then ((spec_l1In.f a2 0 20).bind fun t1047 => (spec_IterateMorphism.j0 k a2 y1042 (!t1047) l0_0)) else (spec_IterateMorphism.j0 k a2 y1042 true l0_0))) else (spec_IterateMorphism.j0 k a2 y1042 true l0_0)) = some (r1, r2) := H; have A8 := am A80; clear A80; by_cases c9 : t1045 = true
  ·subst c9; have H1 : ((spec_IsWord.f k y1042 (l0_0.length : Int)).bind fun t1046 => (if t1046 = true then ((spec_l1In.f a2 0 20).bind fun t1047 => (spec_IterateMorphism.j0 k a2 y1042 (!t1047) l0_0)) else (spec_IterateMorphism.j0 k a2 y1042 true l0_0))) = some (r1, r2) := by rw [if_pos rfl] at H; exact H
   clear H; have H := H1; clear H1; replace H := bE H; obtain ⟨t1046, A100, H⟩ := H; replace H : (if t1046 = true then ((spec_l1In.f a2 0 20).bind fun t1047 => (spec_IterateMorphism.j0 k a2 y1042 (!t1047) l0_0)) else (spec_IterateMorphism.j0 k a2 y1042 true l0_0)) = some (r1, r2) := H; have A10 := am A100; clear A100; by_cases c11 : t1046 = true
   ·subst c11; have H1 : ((spec_l1In.f a2 0 20).bind fun t1047 => (spec_IterateMorphism.j0 k a2 y1042 (!t1047) l0_0)) = some (r1, r2) := by rw [if_pos rfl] at H; exact H
    clear H; have H := H1; clear H1; replace H := bE H; obtain ⟨t1047, A120, H⟩ := H; replace H : (spec_IterateMorphism.j0 k a2 y1042 (!t1047) l0_0) = some (r1, r2) := H; have A12 := am A120; clear A120; have H' := am H; clear H; have hcz13_0 := z10 BK1041; have hfz13_0 := blk_frozen BK1041.out 0; go_wp2_with (first | ((with_reducible refine gate_callee (f := 109) rfl ?_); refine goesL_ (some 15) rfl rfl Try.func109 (by kernel_rfl) rfl #[.agg #[.slice A0_0 l0_0.length c0_0]] rfl (by (try simp only [mT, mC, mN]); first | done | rfl) ?_; (with_reducible refine (spec_IsMorphism.calls k _ _ l0_0 true _ ?side1 ?side2 A8.out).mono ?_); (case side1 => exact xC ((Kd.C_below HR0_0.out HB.out))); (case side2 => exact HC0_0.out); rintro e w14 ⟨rfl, hb⟩; refine ⟨_, rfl, ?_⟩; replace HO1044 := am (Kd.R_below (by exact rR HO1044) hb); replace BK1041 := bK BK1041 hb; replace HB := bS HB hb; clear hb; have hcz15_0 := z10 BK1041; have hfz15_0 := blk_frozen BK1041.out 0; obtain ⟨Ao16, co16, eo16⟩ := Kd.R_slice HO1044.out; subst eo16) | (go_at_call 129; (with_reducible refine (spec_IsWord.calls k _ _ y1042 (l0_0.length : Int) true _ ?side1 ?side2 A10.out).mono ?_); (case side1 => exact xC ((Kd.R_reads' HO1044.out).2.2)); (case side2 => exact (Kd.R_reads' HO1044.out).2.1); rintro e w' ⟨rfl, ⟨nd, rfl⟩⟩) | (go_at_call 115; (with_reducible refine (spec_l1In.calls a2 0 20 t1047 _ A12.out).mono ?_); rintro e w' ⟨rfl, ⟨nd, rfl⟩⟩)); go_meet
    case rel => exact ⟨_, (!t1047), (by first | rfl | (simp; done) | (simp [*]; done)), H', ⟨by first | omega | exact Nat.le_refl _⟩, ⟨by exact rR HO1044⟩, ⟨by exact rX BK1041⟩, ⟨by exact rB HB⟩⟩
   ·replace c11 := Bool.eq_false_iff.mpr c11; subst c11; have H1 : (spec_IterateMorphism.j0 k a2 y1042 true l0_0) = some (r1, r2) := by rw [if_neg (show ¬ (false = true) by decide)] at H; exact H
    clear H; have H := H1; clear H1; have H' := am H; clear H; have hcz17_0 := z10 BK1041; have hfz17_0 := blk_frozen BK1041.out 0; go_wp2_with (first | ((with_reducible refine gate_callee (f := 109) rfl ?_); refine goesL_ (some 15) rfl rfl Try.func109 (by kernel_rfl) rfl #[.agg #[.slice A0_0 l0_0.length c0_0]] rfl (by (try simp only [mT, mC, mN]); first | done | rfl) ?_; (with_reducible refine (spec_IsMorphism.calls k _ _ l0_0 true _ ?side1 ?side2 A8.out).mono ?_); (case side1 => exact xC ((Kd.C_below HR0_0.out HB.out))); (case side2 => exact HC0_0.out); rintro e w18 ⟨rfl, hb⟩; refine ⟨_, rfl, ?_⟩; replace HO1044 := am (Kd.R_below (by exact rR HO1044) hb); replace BK1041 := bK BK1041 hb; replace HB := bS HB hb; clear hb; have hcz19_0 := z10 BK1041; have hfz19_0 := blk_frozen BK1041.out 0; obtain ⟨Ao20, co20, eo20⟩ := Kd.R_slice HO1044.out; subst eo20) | (go_at_call 129; (with_reducible refine (spec_IsWord.calls k _ _ y1042 (l0_0.length : Int) false _ ?side1 ?side2 A10.out).mono ?_); (case side1 => exact xC ((Kd.R_reads' HO1044.out).2.2)); (case side2 => exact (Kd.R_reads' HO1044.out).2.1); rintro e w' ⟨rfl, ⟨nd, rfl⟩⟩)); go_meet
    case rel => exact ⟨_, (true), (by first | rfl | (simp; done) | (simp [*]; done)), H', ⟨by first | omega | exact Nat.le_refl _⟩, ⟨by exact rR HO1044⟩, ⟨by exact rX BK1041⟩, ⟨by exact rB HB⟩⟩
  ·replace c9 := Bool.eq_false_iff.mpr c9; subst c9; have H1 : (spec_IterateMorphism.j0 k a2 y1042 true l0_0) = some (r1, r2) := by rw [if_neg (show ¬ (false = true) by decide)] at H; exact H
   clear H; have H := H1; clear H1; have H' := am H; clear H; have hcz21_0 := z10 BK1041; have hfz21_0 := blk_frozen BK1041.out 0; go_wp2_with (first | ((with_reducible refine gate_callee (f := 109) rfl ?_); refine goesL_ (some 15) rfl rfl Try.func109 (by kernel_rfl) rfl #[.agg #[.slice A0_0 l0_0.length c0_0]] rfl (by (try simp only [mT, mC, mN]); first | done | rfl) ?_; (with_reducible refine (spec_IsMorphism.calls k _ _ l0_0 false _ ?side1 ?side2 A8.out).mono ?_); (case side1 => exact xC ((Kd.C_below HR0_0.out HB.out))); (case side2 => exact HC0_0.out); rintro e w22 ⟨rfl, hb⟩; refine ⟨_, rfl, ?_⟩; replace HO1044 := am (Kd.R_below (by exact rR HO1044) hb); replace BK1041 := bK BK1041 hb; replace HB := bS HB hb; clear hb)); go_meet
   case rel => exact ⟨_, (true), (by first | rfl | (simp; done) | (simp [*]; done)), H', ⟨by first | omega | exact Nat.le_refl _⟩, ⟨by exact rR HO1044⟩, ⟨by exact rX BK1041⟩, ⟨by exact rB HB⟩⟩
 case rest =>
  clear HC4
  try clear c1
  try clear p2
  try clear c6
  try clear c9
  try clear c10
  try clear c11
  try clear hcz13_0
  try clear hcz15_0
  try clear hcz17_0
  try clear hcz19_0
  try clear hcz21_0
  try clear hfz13_0
  try clear hfz15_0
  try clear hfz17_0
  try clear hfz19_0
  try clear hfz21_0
  obtain ⟨kq, x29_3, rfl, HA, HJ3, HO_8, BK1041, HB⟩ := hcut; cases kq with
  | zero => exact absurd HA.out (by simp [spec_IterateMorphism.j0])
  | succ kj3 =>
   have H := HA.out; clear HA; simp only [spec_IterateMorphism.j0] at H; by_cases c23 : x29_3 = true
   ·subst c23; have H1 : (some ((([] : List Int)), false)) = some (r1, r2) := by rw [if_pos rfl] at H; exact H
    clear H; have H := H1; clear H1; obtain ⟨y1048, hy1048⟩ : ∃ y_ : List Int, y_ = (([] : List Int)) := ⟨_, rfl⟩; replace H : (some (y1048, false)) = some (r1, r2) := by rw [hy1048]; first | exact H | exact (Option.bind_some _ _).symm.trans H
    have Ny1048 := am hy1048; clear hy1048; simp only [Option.some.injEq, Prod.mk.injEq] at H; obtain ⟨rfl, rfl⟩ := H; go_wp2_with (first | ((with_reducible refine gate_dst (N := 30) rfl ?_); (try (refine gate_guard (by rfl) ?_; dsimp only)); refine Kd.R_lit (Kd.int .i64) _ 3 ?hg (N := 30) ?hd (xs := ([] : List Int)) (inner := []) (ok := fun _ => True) (okp := fun _ => True) ?hr ?hp (fun _ hk => hk) trivial (Below.refl _ _) (Nat.le_refl _) (by simp) ?_; (case hd | hg => rfl); (case hr => go_simp <;> rfl); (case hp => exact (Reps.none _ _)); intro v1049 w24 ho25 hb hg_ hnew_; clear hg_ hnew_; (first | rw [← Ny1048.out] at ho25 | (simp only [Int.reduceToNat] at ho25; rw [← Ny1048.out] at ho25)); have HO1050 := am (Kd.R_lower (Kd.R_new' ho25 (Kd.R_lt (by exact rR HO_8))) (bZ HB)); replace HO_8 := am (Kd.R_elder' (by exact rR HO_8) (Kd.R_base ho25) hb); replace BK1041 := bK BK1041 hb; replace HB := bS HB hb; clear hb ho25)); go_ret2; exact ⟨_, by first | rfl | (simp [errW_none, errW_some] <;> rfl) | (simp [*, errW_none, errW_some] <;> rfl), by exact xR (Kd.R_mono HO1050.out (fun _ hk => trivial)), by exact rB HB⟩
   ·replace c23 := Bool.eq_false_iff.mpr c23; subst c23; have H1 : (spec_IterateMorphism.l0 kj3 a2 y1042 0 l0_0) = some (r1, r2) := by rw [if_neg (show ¬ (false = true) by decide)] at H; exact H
    clear H; have H := H1; clear H1; have H' := am H; clear H; go_wp2; go_loopg [8, 9] kj3 (fun kq v8 v9 w' => ∃ (x8_2 : List Int) (x9_2 : Int), v9 = .int .i64 x9_2 ∧ Aside0 (spec_IterateMorphism.l0 kq a2 x8_2 x9_2 l0_0 = some (r1, r2)) ∧ Aside0 (kq ≤ kj3) ∧ Aside0 (Kd.R (Kd.int .i64) 3 w' w.heap.size (fun _ => True) v8 x8_2) ∧ Aside0 (w'.heap[gb1041]? = some (.cells #[(.slice A0_0 l0_0.length c0_0)] 28 (0, 0))) ∧ Aside0 (Below w.heap.size w w'))
    case atStart => exact ⟨(y1042), (0), (by first | rfl | (simp; done) | (simp [*]; done)), H', ⟨Nat.le_refl _⟩, ⟨by exact rR HO_8⟩, ⟨by exact rX BK1041⟩, ⟨by exact rB HB⟩⟩
    case round =>
     clear H'
     try clear c1
     try clear c2
     try clear p2
     try clear c6
     try clear c9
     try clear c10
     try clear c11
     try clear c23
     try clear hcz13_0
     try clear hcz15_0
     try clear hcz17_0
     try clear hcz19_0
     try clear hcz21_0
     try clear hfz13_0
     try clear hfz15_0
     try clear hfz17_0
     try clear hfz19_0
     try clear hfz21_0
     try clear p2
     obtain ⟨x8_2, x9_2, rfl, HA, HK2, HO_8, BK1041, HB⟩ := hrel; cases gk with
     | zero => exact absurd HA.out (by simp [spec_IterateMorphism.l0])
     | succ k2 =>
      have H := HA.out; clear HA; simp only [spec_IterateMorphism.l0] at H; by_cases c26 : x9_2 < a2
      ·rw [if_pos c26] at H; have c26b0 : decide (x9_2 < a2) = true := decide_eq_true c26; clear c26; replace H := bE H; obtain ⟨⟨t1051, t1054⟩, A270, H⟩ := H; replace H : (if t1054 = true then (spec_IterateMorphism.l0 k2 a2 t1051 (wrap64 (x9_2 + 1)) l0_0) else (some ((([] : List Int)), false))) = some (r1, r2) := H; have A27 := am A270; clear A270; by_cases c28 : t1054 = true
       ·subst c28; have H1 : (spec_IterateMorphism.l0 k2 a2 t1051 (wrap64 (x9_2 + 1)) l0_0) = some (r1, r2) := by rw [if_pos rfl] at H; exact H
        clear H; have H := H1; clear H1; have H' := am H; clear H; have hcz29_0 := z10 BK1041; have hfz29_0 := blk_frozen BK1041.out 0; obtain ⟨Ao30, co30, eo30⟩ := Kd.R_slice HO_8.out; subst eo30; go_wp2_with (first | ((with_reducible refine gate_callee (f := 95) rfl ?_); refine goesL_ (some 39) rfl rfl Try.func95 (by kernel_rfl) rfl #[.agg #[.slice A0_0 l0_0.length c0_0], .slice Ao30 x8_2.length co30] rfl (by (try simp only [mT, mC, mN]); first | done | rfl) ?_; (with_reducible refine (spec_ApplyMorphism.calls k2 _ _ l0_0 _ _ x8_2 t1051 true _ ?side1 ?side2 ?side3 ?side4 A27.out).mono ?_); (case side1 => exact xC ((Kd.C_below HR0_0.out HB.out))); (case side2 => exact HC0_0.out); (case side3 => exact xC ((Kd.R_reads' HO_8.out).2.2)); (case side4 => exact (Kd.R_reads' HO_8.out).2.1); rintro e w31 ⟨v1052, rfl, ho0, hb⟩; refine ⟨_, rfl, ?_⟩; have HO1053 := am (Kd.R_lower (Kd.R_new' ho0 (Kd.R_lt (by exact rR HO_8))) (bZ HB)); replace HO_8 := am (Kd.R_elder' (by exact rR HO_8) (Kd.R_base ho0) hb); replace BK1041 := bK BK1041 hb; replace HB := bS HB hb; clear hb ho0)); go_roundg k2
        case measure => have := HJ3.out; have := HK2.out; omega
        case rel => exact ⟨(t1051), (wrap64 (x9_2 + 1)), (by first | rfl | (simp; done) | (simp [*]; done)), H', ⟨by have := HJ3.out; have := HK2.out; omega⟩, ⟨by exact xR (Kd.R_mono HO1053.out (fun _ hk => trivial))⟩, ⟨by exact rX BK1041⟩, ⟨by exact rB HB⟩⟩
       ·replace c28 := Bool.eq_false_iff.mpr c28; subst c28; have H1 : (some ((([] : List Int)), false)) = some (r1, r2) := by rw [if_neg (show ¬ (false = true) by decide)] at H; exact H
        clear H; have H := H1; clear H1; obtain ⟨y1055, hy1055⟩ : ∃ y_ : List Int, y_ = (([] : List Int)) := ⟨_, rfl⟩; replace H : (some (y1055, false)) = some (r1, r2) := by rw [hy1055]; first | exact H | exact (Option.bind_some _ _).symm.trans H
        have Ny1055 := am hy1055; clear hy1055; simp only [Option.some.injEq, Prod.mk.injEq] at H; obtain ⟨rfl, rfl⟩ := H; have hcz32_0 := z10 BK1041; have hfz32_0 := blk_frozen BK1041.out 0; obtain ⟨Ao33, co33, eo33⟩ := Kd.R_slice HO_8.out; subst eo33; go_wp2_with (first | ((with_reducible refine gate_callee (f := 95) rfl ?_); refine goesL_ (some 39) rfl rfl Try.func95 (by kernel_rfl) rfl #[.agg #[.slice A0_0 l0_0.length c0_0], .slice Ao33 x8_2.length co33] rfl (by (try simp only [mT, mC, mN]); first | done | rfl) ?_; (with_reducible refine (spec_ApplyMorphism.calls k2 _ _ l0_0 _ _ x8_2 t1051 false _ ?side1 ?side2 ?side3 ?side4 A27.out).mono ?_); (case side1 => exact xC ((Kd.C_below HR0_0.out HB.out))); (case side2 => exact HC0_0.out); (case side3 => exact xC ((Kd.R_reads' HO_8.out).2.2)); (case side4 => exact (Kd.R_reads' HO_8.out).2.1); rintro e w34 ⟨v1052, rfl, ho0, hb⟩; refine ⟨_, rfl, ?_⟩; have HO1053 := am (Kd.R_lower (Kd.R_new' ho0 (Kd.R_lt (by exact rR HO_8))) (bZ HB)); replace HO_8 := am (Kd.R_elder' (by exact rR HO_8) (Kd.R_base ho0) hb); replace BK1041 := bK BK1041 hb; replace HB := bS HB hb; clear hb ho0) | ((with_reducible refine gate_dst (N := 44) rfl ?_); (try (refine gate_guard (by rfl) ?_; dsimp only)); refine Kd.R_lit (Kd.int .i64) _ 3 ?hg (N := 44) ?hd (xs := ([] : List Int)) (inner := []) (ok := fun _ => True) (okp := fun _ => True) ?hr ?hp (fun _ hk => hk) trivial (Below.refl _ _) (Nat.le_refl _) (by simp) ?_; (case hd | hg => rfl); (case hr => go_simp <;> rfl); (case hp => exact (Reps.none _ _)); intro v1056 w35 ho36 hb hg_ hnew_; clear hg_ hnew_; (first | rw [← Ny1055.out] at ho36 | (simp only [Int.reduceToNat] at ho36; rw [← Ny1055.out] at ho36)); have HO1057 := am (Kd.R_lower (Kd.R_new' (Kd.R_new' ho36 (Kd.R_lt (by exact rR HO_8))) (Kd.R_lt (by exact rR HO1053))) (bZ HB)); replace HO_8 := am (Kd.R_elder' (by exact rR HO_8) (Kd.R_base ho36) hb); replace HO1053 := am (Kd.R_elder' (by exact rR HO1053) (Kd.R_base ho36) hb); replace BK1041 := bK BK1041 hb; replace HB := bS HB hb; clear hb ho36)); go_ret2; exact ⟨_, by first | rfl | (simp [errW_none, errW_some] <;> rfl) | (simp [*, errW_none, errW_some] <;> rfl), by exact xR (Kd.R_mono HO1057.out (fun _ hk => trivial)), by exact rB HB⟩
      ·rw [if_neg c26] at H; have c26b0 : decide (x9_2 < a2) = false := decide_eq_false c26; clear c26; simp only [Option.some.injEq, Prod.mk.injEq] at H; obtain ⟨rfl, rfl⟩ := H; go_wp2; go_ret2; exact ⟨_, by first | rfl | (simp [errW_none, errW_some] <;> rfl) | (simp [*, errW_none, errW_some] <;> rfl), by exact rR HO_8, by exact rB HB⟩
def spec_DrawCountSquareFree.f (k : Nat) (l0 : List Int) : Option (Int × Int) := (spec_l1New.f k l0).bind fun bt1058 => ((spec_l1Below.f bt1058.1 bt1058.2.1 bt1058.2.2 5).bind fun bt1062 => ((spec_l1Below.f bt1058.1 bt1062.2.1 bt1062.2.2 9).bind fun bt1065 => (some (bt1062.1, wrap64 (bt1065.1 - 1)))))
set_option maxHeartbeats 8000000 in
set_option maxRecDepth 100000 in
theorem spec_DrawCountSquareFree.calls (k : Nat) (A0 : Option Addr) (c0 : Nat) (l0 : List Int) (r1 : Int) (r2 : Int) (w : World) (hr0 : Kd.C (Kd.int .u8) w A0 l0.length l0) (hc0 : l0.length ≤ c0) (h : spec_DrawCountSquareFree.f k l0 = some (r1, r2)) :
  Calls Try.prog 61 #[.slice A0 l0.length c0] w fun e w' => e = .returned (.tuple #[.int .i64 r1, .int .i64 r2]) ∧ Below w.heap.size w w' := by
 have HR0 := am hr0; have HC0 := am hc0; clear hr0 hc0; have HB := am (Below.refl w.heap.size w); have H : ((spec_l1New.f k l0).bind fun bt1058 => ((spec_l1Below.f bt1058.1 bt1058.2.1 bt1058.2.2 5).bind fun bt1062 => ((spec_l1Below.f bt1058.1 bt1062.2.1 bt1062.2.2 9).bind fun bt1065 => (some (bt1062.1, wrap64 (bt1065.1 - 1)))))) = some (r1, r2) := h; clear h; replace H := bE H; obtain ⟨⟨t1058, t1059, t1060⟩, A20, H⟩ := H; replace H : ((spec_l1Below.f t1058 t1059 t1060 5).bind fun bt1062 => ((spec_l1Below.f t1058 bt1062.2.1 bt1062.2.2 9).bind fun bt1065 => (some (bt1062.1, wrap64 (bt1065.1 - 1))))) = some (r1, r2) := H; have A2 := am A20; clear A20; replace H := bE H; obtain ⟨⟨t1062, t1063, t1064⟩, A30, H⟩ := H; replace H : ((spec_l1Below.f t1058 t1063 t1064 9).bind fun bt1065 => (some (t1062, wrap64 (bt1065.1 - 1)))) = some (r1, r2) := H; have A3 := am A30; clear A30; replace H := bE H; obtain ⟨⟨t1065, t1066, t1067⟩, A40, H⟩ := H; replace H : (some (t1062, wrap64 (t1065 - 1))) = some (r1, r2) := H; have A4 := am A40; clear A40; simp only [Option.some.injEq, Prod.mk.injEq] at H; obtain ⟨rfl, rfl⟩ := H; go_enter Try.func61, Try.ntmps61; go_wp2_with (first | ((with_reducible refine gate_callee (f := 126) rfl ?_); refine goesL_ (some 7) rfl rfl Try.func126 (by kernel_rfl) rfl #[.slice A0 l0.length c0] rfl (by (try simp only [mT, mC, mN]); first | done | rfl) ?_; (with_reducible refine (spec_l1New.calls k _ _ l0 t1058 t1059 t1060 w _ ?side1 ?side2 ?side3 A2.out).mono ?_); (case side1 => exact rB HB); (case side2 => exact HR0.out); (case side3 => exact HC0.out); rintro e w5 ⟨g1061, rfl, hi, hb, hb2⟩; refine ⟨_, rfl, ?_⟩; replace HB := am (hb); have HI1061 := am (hi); clear hb hb2 hi) | ((with_reducible refine gate_callee (f := 127) rfl ?_); refine goesL_ (some 9) rfl rfl Try.func127 (by kernel_rfl) rfl #[.pointer (some ⟨g1061, 0, none⟩), .int .i64 5] rfl (by (try simp only [mT, mC, mN]); first | done | rfl) ?_; (with_reducible refine (spec_l1Below.calls g1061 t1058 t1059 t1060 5 t1062 t1063 t1064 w _ ?side1 ?side2 A3.out).mono ?_); (case side1 => exact IsS114.m HI1061); (case side2 => exact rB HB); rintro e w6 ⟨rfl, hi, hb, hk⟩; refine ⟨_, rfl, ?_⟩; replace HB := am (hb); replace HI1061 := am (hi); clear hb hk hi) | ((with_reducible refine gate_callee (f := 127) rfl ?_); refine goesL_ (some 12) rfl rfl Try.func127 (by kernel_rfl) rfl #[.pointer (some ⟨g1061, 0, none⟩), .int .i64 9] rfl (by (try simp only [mT, mC, mN]); first | done | rfl) ?_; (with_reducible refine (spec_l1Below.calls g1061 t1058 t1063 t1064 9 t1065 t1066 t1067 w _ ?side1 ?side2 A4.out).mono ?_); (case side1 => exact IsS114.m HI1061); (case side2 => exact rB HB); rintro e w7 ⟨rfl, hi, hb, hk⟩; refine ⟨_, rfl, ?_⟩; replace HB := am (hb); replace HI1061 := am (hi); clear hb hk hi)); go_ret2; exact ⟨by first | rfl | (simp [errW_none, errW_some] <;> rfl) | (simp [*, errW_none, errW_some] <;> rfl), by exact rB HB⟩
end Go.Proofs.Ytooamcjgejajeaa.M
/- freeWords of the program, walked for any test of words: the words of a length whose beginnings all pass the test, in rows that share no memory. Conditions: the test is a function value that only reads the word, and there is room. -/
namespace Go.Proofs.Ytooamcjgejajeaa.M
open Go.RowKit Go.Proofs.YtooamcjgejajeaaW.PrintWords Go.Proofs.YtooamcjgejajeaaW.PrintLast Go.Proofs.YtooamcjgejajeaaW.PrintMore Go.Proofs.Ytooamcjgejajeaa.K Go.Proofs.Ytooamcjgejajeaa.KW
set_option linter.unusedVariables false
set_option linter.unusedSimpArgs false
/-- A word, longer by each letter below m, where the test lets it. -/
def ext (p : List Int → Bool) (word : List Int) (x : Nat) : List (List Int) := ((List.range x).map fun (a : Nat) => word ++ [(a : Int)]).filter p
def fwStep (m : Nat) (p : List Int → Bool) (ws : List (List Int)) : List (List Int) := ws.flatMap fun word => ext p word m
def fw (m : Nat) (p : List Int → Bool) : Nat → List (List Int)
 | 0 => [[]]
 | n + 1 => fwStep m p (fw m p n)
theorem ext_succ (p : List Int → Bool) (word : List Int) (x : Nat) : ext p word (x + 1) = ext p word x ++ (if p (word ++ [(x : Int)]) = true then [word ++ [(x : Int)]] else []) := by
 unfold ext; rw [List.range_succ, List.map_append, List.filter_append]; by_cases h : p (word ++ [(x : Int)]) = true <;> simp [h]
theorem ext_le (p : List Int → Bool) (word : List Int) (x : Nat) : (ext p word x).length ≤ x := by
 unfold ext; refine Nat.le_trans (List.length_filter_le _ _) ?_; simp
theorem fwStep_le (m : Nat) (p : List Int → Bool) (ws : List (List Int)) : (fwStep m p ws).length ≤ m * ws.length := by
 induction ws with
 | nil => simp [fwStep]
 | cons w ws ih =>
  have := ext_le p w m; simp only [fwStep, List.flatMap_cons, List.length_append, List.length_cons] at ih ⊢; rw [Nat.mul_add]; omega
theorem fwStep_take (m : Nat) (p : List Int → Bool) (ws : List (List Int)) (i : Nat) (h : i < ws.length) : fwStep m p (ws.take (i + 1)) = fwStep m p (ws.take i) ++ ext p ws[i] m := by
 unfold fwStep; rw [take_succ ws i h, List.flatMap_append]; simp
theorem fw_le (m : Nat) (p : List Int → Bool) (n : Nat) : (fw m p n).length ≤ m ^ n := by
 induction n with
 | zero => simp [fw]
 | succ n ih => unfold fw; refine Nat.le_trans (fwStep_le m p _) ?_; rw [Nat.pow_succ, Nat.mul_comm]; exact Nat.mul_le_mul_right _ ih
theorem ext_len (p : List Int → Bool) (word : List Int) (x : Nat) : ∀ u ∈ ext p word x, u.length = word.length + 1 := by
 intro u hu; unfold ext at hu; obtain ⟨a, _, rfl⟩ := List.mem_map.1 (List.mem_filter.1 hu).1; simp
theorem fw_len (m : Nat) (p : List Int → Bool) (n : Nat) : ∀ u ∈ fw m p n, u.length = n := by
 induction n with
 | zero => intro u hu; simp [fw] at hu; subst hu; rfl
 | succ n ih =>
  intro u hu; unfold fw fwStep at hu; obtain ⟨word, hw, hu⟩ := List.mem_flatMap.1 hu; rw [ext_len p word m u hu, ih word hw]
/-- The rows collected so far, all made since Wm. -/
def MidRel (Wm : World) (acc : List (List Int)) (v : Value) (wr : World) : Prop :=
 Kd.S (Kd.slice 3 (Kd.int .i64)) 36 wr Wm.heap.size (fun k => Wm.heap.size ≤ k) v acc ∧ Below Wm.heap.size Wm wr
set_option maxHeartbeats 4000000 in
set_option maxRecDepth 100000 in
theorem freeWords_calls (f : FuncId) (fn : Func) (cap : Array Value) (p : List Int → Bool) (m n : Nat) (w : World)
  (hf : Try.prog.funcs[f]? = some fn) (hname : (fn.name == "runtime.NumGoroutine") = false) (hbody : fn.body.isSome = true)
  (hm : m ≤ 1000) (hn : n ≤ 1000) (hroom : ∀ i, i ≤ n → m ^ i ≤ 1000000000000)
  (hp : ∀ (W : World) (A : Option Addr) (c : Nat) (xs : List Int), Below w.heap.size w W → Kd.C (Kd.int .i64) W A xs.length xs → xs.length ≤ c → xs.length ≤ n → Calls Try.prog f (#[.slice A xs.length c] ++ cap) W (fun e w' => e = .returned (.bool (p xs)) ∧ Below W.heap.size W w')) :
  Calls Try.prog 118 #[.int .i64 m, .int .i64 n, .func (.func f) #[] cap] w fun e w' => ∃ v0_ : Value, e = .returned v0_ ∧ Kd.S (Kd.slice 3 (Kd.int .i64)) 36 w' w.heap.size (fun _ => True) v0_ (fw m p n) ∧ Below w.heap.size w w' := by
 have HP := Aside0.mk hp; have HROOM := Aside0.mk hroom; have HF := Aside0.mk hf; clear hp hroom hf; go_enter Try.func118, Try.ntmps118; go_wp2_with ((with_reducible refine gate_dst (N := 13) rfl ?_); refine Aside0.out ?_); refine Aside0.mk ?_; refine Kd.R_lit (Kd.int .i64) _ 3 ?hg (N := 13) ?hd (xs := ([] : List Int)) (inner := []) (ok := fun _ => True) (okp := fun _ => True) ?hr ?hp (fun _ hk => hk) trivial (Below.refl _ _) (Nat.le_refl _) (by simp) ?_
 case hd => rfl
 case hg => rfl
 case hr => first | (go_simp; done) | (go_simp; rfl)
 case hp => exact (Reps.none _ _)
 intro v13 w1 ho1 hb1 _ _; obtain ⟨A13, c13, rfl⟩ := Kd.R_slice ho1; have HO1 := Aside0.mk ho1; have HB1 := Aside0.mk hb1; clear ho1 hb1; go_wp2_with ((with_reducible refine gate_dst (N := 14) rfl ?_); refine Aside0.out ?_); refine Aside0.mk ?_; refine Kd.S_lits (Kd.slice 3 (Kd.int .i64)) (w0 := w) w.heap.size 36 ?hg (N := 14) ?hd (xs := ([[]] : List (List Int))) (inner := [.slice A13 ([] : List Int).length c13]) (ok := fun _ => True) (fun j k => j = 0 ∧ some k = (Value.slice A13 ([] : List Int).length c13).ownBlock) ?hr rfl ?hrep (fun i j k h1 h2 => h1.1.trans h2.1.symm) (fun _ _ _ => trivial) trivial HB1.out HB1.out.size (by simp) ?_
 case hd => rfl
 case hg => rfl
 case hr => first | (go_simp; done) | (go_simp; rfl)
 case hrep =>
  intro j x hj; rcases j with _ | j
  ·simp at hj; subst hj; exact ⟨_, rfl, Kd.R_reok rfl HO1.out (fun k hk => ⟨rfl, hk.symm⟩)⟩
  ·simp at hj
 intro v14 w2 ho2 hb2 _ _; have HO2 := Aside0.mk ho2; have HB2 := Aside0.mk hb2; clear HO1 HB1 ho2 hb2; go_wp2_with fail; go_loopw [7, 16] (fun v i wr => ∃ k : Nat, k ≤ n ∧ i = .int .i64 k ∧ Aside0 (Kd.S (Kd.slice 3 (Kd.int .i64)) 36 wr w.heap.size (fun _ => True) v (fw m p k)) ∧ Aside0 (Below w.heap.size w wr)) (fun _ i _ => n - (intOf i).toNat)
 case atStart => exact ⟨0, Nat.zero_le _, rfl, HO2, HB2⟩
 case round =>
  clear HO2 HB2; obtain ⟨k, hk, rfl, HO, HB⟩ := hrel; generalize wr = wo at *; by_cases hlt : k < n
  ·have HWS := Aside0.mk (show (fwStep m p (fw m p k)) = fw m p (k + 1) from rfl); have hwl : (fw m p k).length ≤ 1000000000000 := Nat.le_trans (fw_le m p k) (HROOM.out k (by omega)); have HML := Aside0.mk (show m * (fw m p k).length ≤ 1000000000000 from Nat.le_trans (Nat.mul_le_mul_left m (fw_le m p k)) (by have := HROOM.out (k + 1) (by omega); rwa [Nat.pow_succ, Nat.mul_comm] at this)); have HLEN := Aside0.mk (fw_len m p k); generalize fw m p k = ws at *; obtain ⟨A7, c7, rfl⟩ := Kd.S_slice HO.out; go_wp2_with ((with_reducible refine gate_dst (N := 18) rfl ?_); refine Aside0.out ?_); refine Aside0.mk ?_; refine Kd.S_lit (Kd.slice 3 (Kd.int .i64)) (w0 := wo) wo.heap.size 36 ?hg (N := 18) ?hd (xs := ([] : List (List Int))) (inner := []) (ok := fun k => wo.heap.size ≤ k) (okp := fun _ => False) ?hr ?hp (fun _ hk => hk.elim) (Nat.le_refl _) (Below.refl _ _) (Nat.le_refl _) (by simp) ?_
   case hd => rfl
   case hg => rfl
   case hr => first | (go_simp; done) | (go_simp; rfl)
   case hp => exact (Reps.none _ _)
   intro v18 w3 ho3 hb3 _ _; have HM3 := Aside0.mk (show MidRel wo [] v18 w3 from ⟨ho3, hb3⟩); clear ho3 hb3; go_wp2_with fail; go_loopw [8, 21] (fun v j wm => ∃ q : Nat, q ≤ ws.length ∧ j = .int .i64 q ∧ Aside0 (MidRel wo (fwStep m p (ws.take q)) v wm)) (fun _ j _ => ws.length - (intOf j).toNat)
   case atStart => exact ⟨0, Nat.zero_le _, rfl, by simpa [fwStep] using HM3⟩
   case round =>
    clear HM3; obtain ⟨q, hq, rfl, HM⟩ := hrel; generalize wr = wm at *; by_cases hlq : q < ws.length
    ·obtain ⟨ad, A0, c0, hA, hx0, hl0, hC0⟩ := at_L1 (Kd.S_reads' HO.out).2.2 (q : Int) (by omega) (by omega); subst hA; have hx1 := pw_cell_below HM.out.2 hx0; rw [Int.toNat_natCast] at hx1; have hword : rd_L1 ws (q : Int) = ws[q] := by unfold rd_L1; rw [Int.toNat_natCast, List.getD_eq_getElem?_getD, List.getElem?_eq_getElem hlq]; rfl
     rw [hword] at hx1 hl0 hC0; have HT := Aside0.mk (fwStep_take m p ws q hlq); have HWL := Aside0.mk (HLEN.out ws[q] (List.getElem_mem hlq)); have HC0 := Aside0.mk hC0; have HL0 := Aside0.mk hl0; have hacc : (fwStep m p (ws.take q)).length ≤ m * q := by have := fwStep_le m p (ws.take q); rwa [List.length_take, Nat.min_eq_left (by omega)] at this
     have HACC := Aside0.mk hacc; clear hx0 hl0 hC0 hword hacc; generalize ws[q] = word at *; generalize hfa : fwStep m p (ws.take q) = acc at *; have HFA := Aside0.mk hfa; clear hfa; go_wp2_with fail; go_loopw [8, 26] (fun v x wi => ∃ a : Nat, a ≤ m ∧ x = .int .i64 a ∧ Aside0 (MidRel wo (acc ++ ext p word a) v wi)) (fun _ x _ => m - (intOf x).toNat)
     case atStart => exact ⟨0, Nat.zero_le _, rfl, by simpa [ext] using HM⟩
     case round =>
      clear HM; obtain ⟨a, ha, rfl, HM⟩ := hrel; generalize wr = wi at *; by_cases hla : a < m
      ·have HLE := Aside0.mk (ext_le p word a); have HQ := Aside0.mk (show m * q + m ≤ m * ws.length from by have := Nat.mul_le_mul_left m (show q + 1 ≤ ws.length from hlq); rwa [Nat.mul_add, Nat.mul_one] at this); obtain ⟨b, hb_⟩ : ∃ b, p (word ++ [(a : Int)]) = b := ⟨_, rfl⟩; have HPX := Aside0.mk hb_; clear hb_; go_wp2_with ((with_reducible refine gate_dst (N := 29) rfl ?_); refine Aside0.out ?_); refine Aside0.mk ?_; refine Kd.R_lit (Kd.int .i64) _ 3 ?hg (N := 29) ?hd (xs := ([] : List Int)) (inner := []) (ok := fun _ => True) (okp := fun _ => True) ?hr ?hp (fun _ hk => hk) trivial (Below.refl _ _) (Nat.le_refl _) (by simp) ?_
       case hd => rfl
       case hg => rfl
       case hr => first | (go_simp; done) | (go_simp; rfl)
       case hp => exact (Reps.none _ _)
       intro v29 w4 ho4 hb4 _ _; have HO4 := Aside0.mk ho4; have HB4 := Aside0.mk hb4; clear ho4 hb4; go_wp2_with ((with_reducible refine gate_builtin (b := .append) (xs := #[.tmp 29, .tmp 30]) rfl ?_); refine Aside0.out ?_); refine Aside0.mk ?_
       at_builtin
       refine Kd.R_append_rows (Kd.int .i64) (Rr := (Kd.int .i64).K w4) (w0 := wi) wi.heap.size rfl (.tmp 29) (.tmp 30) 36 3 (.int .i64 0) 8 rfl Try.underlying36 info3 rfl (by decide) (by omega) v29 [] word A0 _ c0 (fun _ => True) (fun _ => False) rfl rfl HO4.out ?aR (fun _ _ h => h) (fun _ hk => hk.elim) (fun _ _ => trivial) HB4.out HB4.out.size ?aL ?_
       case aR => exact Kd.C_below HC0.out (below_step HM.out.2 HB4.out)
       case aL => have := HWL.out; simp only [List.length_nil]; omega
       intro v31 w5 ho5 hb5 _ _; rw [List.nil_append] at ho5; have HO5 := Aside0.mk ho5; have HB5 := Aside0.mk hb5; clear ho5 hb5 HO4 HB4; go_wp2_with ((with_reducible refine gate_builtin (b := .append) (xs := #[.tmp 31, .tmp 33]) rfl ?_); refine Aside0.out ?_); refine Aside0.mk ?_
       at_builtin
       refine Kd.R_append (Kd.int .i64) (w0 := wi) wi.heap.size rfl (.tmp 31) (.tmp 33) 36 3 (.int .i64 0) 8 rfl Try.underlying36 info3 rfl (by decide) (by omega) v31 word (a : Int) [.int .i64 a] (fun _ => True) (fun _ => False) rfl rfl rfl (fun _ hk => hk.elim) (fun _ _ => trivial) HO5.out HB5.out HB5.out.size ?aL ?_
       case aL => have := HWL.out; omega
       intro v34 w6 ho6 hb6 _ _; generalize hnw : word ++ [(a : Int)] = nw at *; have HNW := Aside0.mk hnw; clear hnw; obtain ⟨A34, c34, rfl⟩ := Kd.R_slice ho6; have HO6 := Aside0.mk ho6; have HB6 := Aside0.mk hb6; clear ho6 hb6 HO5 HB5; have HCALL := Aside0.mk (HP.out w6 A34 c34 nw (below_step (below_step HB.out HM.out.2) HB6.out) (Kd.R_reads' HO6.out).2.2 (Kd.R_reads' HO6.out).2.1 (by have := HWL.out; rw [← HNW.out, List.length_append, this]; simp; omega)); rw [HPX.out] at HCALL; go_wp2_with ((with_reducible refine gate_calleeV (t := 35) rfl ?_); refine Aside0.out ?_); refine Aside0.mk ?_; refine goesV_ (some 37) rfl rfl (t := 35) (f := f) (cap := cap) HF.out hname hbody (#[.slice A34 (nw).length c34] ++ cap) rfl rfl (congrArg (· ++ cap) (by (try simp only [List.map_toArray, List.map_cons, List.map_nil]); first | done | rfl)) ?_; refine HCALL.out.mono ?_; rintro e w7 ⟨rfl, hb7⟩; refine ⟨_, rfl, ?_⟩; have HB7 := Aside0.mk (below_step HB6.out hb7); have HO7 := Aside0.mk (Kd.R_lower (Kd.R_below HO6.out hb7) HM.out.2.size); have HBS := Aside0.mk (fun k (hk : (Value.slice A34 (nw).length c34).ownBlock = some k) => Kd.R_base HO6.out k hk); have HS7 := Aside0.mk (Kd.S_below (Kd.S_mono (ok' := fun k => wo.heap.size ≤ k ∧ k < wi.heap.size) (Kd.S_bound HM.out.1) (fun k hk => ⟨hk.1, hk.2.2.1⟩)) HB7.out); clear HCALL HO6 HB6 hb7; cases b with
       | false =>
        go_wp2_with fail; go_roundw
        case rel => exact ⟨a + 1, by omega, by go_num, ⟨by rw [ext_succ, HNW.out, HPX.out]; simpa using Kd.S_mono HS7.out (fun k hk => hk.1), below_step HM.out.2 HB7.out⟩⟩
        case measure => simp [intOf]; omega
       | true =>
        go_wp2_with ((with_reducible refine gate_builtin (b := .append) (xs := #[.tmp 38, .tmp 40]) rfl ?_); refine Aside0.out ?_); refine Aside0.mk ?_
        at_builtin
        refine Kd.S_append (Kd.slice 3 (Kd.int .i64)) (w0 := wo) wo.heap.size rfl (.tmp 38) (.tmp 40) 22 36 (.slice none 0 0) 24 rfl Try.underlying22 info36 rfl (by decide) (by omega) _ (acc ++ ext p word a) (nw) [.slice A34 (nw).length c34] (fun k => wo.heap.size ≤ k) (fun k => some k = (Value.slice A34 (nw).length c34).ownBlock) rfl rfl ?aP ?aK ?aF ?aO ?aB ?aS ?aL ?_
        case aP => exact ⟨_, rfl, Kd.R_reok rfl HO7.out (fun k hk => hk.symm)⟩
        case aK => exact fun k hk => ⟨Nat.le_trans HM.out.2.size (HBS.out k hk.symm), fun he => by have h1 := Kd.S_lt HM.out.1 k he.symm; have h2 := HBS.out k hk.symm; omega⟩
        case aF => exact fun k hk => Nat.le_trans (Nat.le_trans HM.out.2.size HB7.out.size) hk
        case aO => exact Kd.S_mono HS7.out (fun k hk => ⟨hk.1, fun he => by have h2 := HBS.out k he.symm; omega⟩)
        case aB => exact below_step HM.out.2 HB7.out
        case aS => exact Nat.le_trans HM.out.2.size HB7.out.size
        case aL => have h1 := HLE.out; have h2 := HACC.out; have h3 := HQ.out; have h4 := HML.out; rw [List.length_append]; omega
        intro v41 w8 ho8 hb8 _ _; have HO8 := Aside0.mk ho8; have HB8 := Aside0.mk hb8; clear ho8 hb8; go_wp2_with fail; go_roundw
        case rel => exact ⟨a + 1, by omega, by go_num, ⟨by rw [ext_succ, HNW.out, HPX.out, _root_.if_pos rfl, ← List.append_assoc]; exact HO8.out, HB8.out⟩⟩
        case measure => simp [intOf]; omega
      ·have e : a = m := by omega
       subst e; go_wp2_with fail; go_roundw
       case rel => exact ⟨q + 1, by omega, by go_num, by rw [HT.out]; exact HM⟩
       case measure => simp [intOf]; omega
    ·have e : q = ws.length := by omega
     subst e; rw [List.take_length] at HM; go_wp2_with fail; go_roundw
     case rel => exact ⟨k + 1, by omega, by go_num, ⟨by have h := Kd.S_lower (Kd.S_mono (ok' := fun _ => True) HM.out.1 (fun _ _ => trivial)) HB.out.size; rwa [HWS.out] at h⟩, ⟨below_step HB.out HM.out.2⟩⟩
     case measure => simp [intOf]; omega
  ·have e : k = n := by omega
   subst e; go_wp2; go_ret; exact ⟨_, rfl, HO.out, HB.out⟩
end Go.Proofs.Ytooamcjgejajeaa.M
namespace Go.Proofs.Ytooamcjgejajeaa.M
open Go.RowKit Go.Proofs.Ytooamcjgejajeaa.KW Go.Proofs.YtooamcjgejajeaaW.PrintWords Go.Proofs.YtooamcjgejajeaaW.PrintLast Go.Proofs.YtooamcjgejajeaaW.PrintMore
attribute [local go_sem] max2_int min2_int max_two min_two max_three min_three max_four min_four
set_option linter.unusedVariables false
set_option linter.unusedSimpArgs false
def spec_l10Match.l0 : Nat → List Int → Int → Int → Int → Option (Int)
 | 0, _, _, _, _ => none
 | k + 1, x0, x1, x2, x7 => if (wrap64 (x1 + x7)) < (x0.length : Int) then (if 0 ≤ (wrap64 (x1 + x7)) then (if 0 ≤ (wrap64 ((wrap64 (x1 + x7)) - x2)) then (if (wrap64 ((wrap64 (x1 + x7)) - x2)) < (x0.length : Int) then (if (rd x0 (wrap64 (x1 + x7))) = (rd x0 (wrap64 ((wrap64 (x1 + x7)) - x2))) then (spec_l10Match.l0 k x0 x1 x2 (wrap64 (x7 + 1))) else (some (mn x7 (wrap64 ((x0.length : Int) - x1))))) else (none)) else (none)) else (none)) else (some (mn x7 (wrap64 ((x0.length : Int) - x1))))
def spec_l10Match.f (k : Nat) (l0 : List Int) (a1 : Int) (a2 : Int) : Option (Int) := spec_l10Match.l0 k l0 a1 a2 a2
set_option maxHeartbeats 8000000 in
set_option maxRecDepth 100000 in
theorem spec_l10Match.calls (k : Nat) (A0 : Option Addr) (c0 : Nat) (l0 : List Int) (a1 : Int) (a2 : Int) (r : Int) (w : World) (hr0 : Kd.C (Kd.int .i64) w A0 l0.length l0) (hc0 : l0.length ≤ c0) (h : spec_l10Match.f k l0 a1 a2 = some r) :
  Calls Try.prog 162 #[.slice A0 l0.length c0, .int .i64 a1, .int .i64 a2] w fun e w' => e = .returned (.int .i64 r) ∧ Below w.heap.size w w' := by
 have HR0 := am hr0; have HC0 := am hc0; clear hr0 hc0; have HB := am (Below.refl w.heap.size w); have H : (spec_l10Match.l0 k l0 a1 a2 a2) = some r := h; clear h; have H' := am H; clear H; go_enter Try.func162, Try.ntmps162; go_wp2
 repeat (go_quiet (fail); try go_wp2)
 go_loopg [7] k (fun kq v7 w' => ∃ (x7_1 : Int), v7 = .int .i64 x7_1 ∧ Aside0 (spec_l10Match.l0 kq l0 a1 a2 x7_1 = some r) ∧ Aside0 (kq ≤ k) ∧ Aside0 (Below w.heap.size w w'))
 case atStart => exact ⟨(a2), (by first | rfl | (simp; done) | (simp [*]; done)), H', ⟨Nat.le_refl _⟩, ⟨by exact rB HB⟩⟩
 case round =>
  clear H'
  try clear c1
  try clear p2
  obtain ⟨x7_1, rfl, HA, HK1, HB⟩ := hrel; cases gk with
  | zero => exact absurd HA.out (by simp [spec_l10Match.l0])
  | succ k1 =>
   have H := HA.out; clear HA; simp only [spec_l10Match.l0] at H; by_cases c4 : (wrap64 (a1 + x7_1)) < (l0.length : Int)
   ·rw [if_pos c4] at H; have c4b0 : decide ((wrap64 (a1 + x7_1)) < (l0.length : Int)) = true := decide_eq_true c4; clear c4; obtain ⟨ji5, hji5⟩ : ∃ j_ : Int, (wrap64 (a1 + x7_1)) = j_ := ⟨_, rfl⟩; replace H : (if 0 ≤ (ji5) then (if 0 ≤ (wrap64 ((ji5) - a2)) then (if (wrap64 ((ji5) - a2)) < (l0.length : Int) then (if (rd l0 (ji5)) = (rd l0 (wrap64 ((ji5) - a2))) then (spec_l10Match.l0 k1 l0 a1 a2 (wrap64 (x7_1 + 1))) else (some (mn x7_1 (wrap64 ((l0.length : Int) - a1))))) else (none)) else (none)) else (none)) = some r := by first | (rw [hji5] at H; exact H) | (simp only [hji5] at H ⊢; exact H)
    (try rw [hji5] at c4b0); have hji5w : (IntKind.i64.wrap (a1 + x7_1)) = ji5 := (i64_w _).trans hji5; by_cases c6 : 0 ≤ (ji5)
    ·rw [if_pos c6] at H; have c6b0 : decide (0 ≤ (ji5)) = true := decide_eq_true c6; clear c6; obtain ⟨ji7, hji7⟩ : ∃ j_ : Int, (wrap64 ((ji5) - a2)) = j_ := ⟨_, rfl⟩; replace H : (if 0 ≤ (ji7) then (if (ji7) < (l0.length : Int) then (if (rd l0 (ji5)) = (rd l0 (ji7)) then (spec_l10Match.l0 k1 l0 a1 a2 (wrap64 (x7_1 + 1))) else (some (mn x7_1 (wrap64 ((l0.length : Int) - a1))))) else (none)) else (none)) = some r := by first | (rw [hji7] at H; exact H) | (simp only [hji7] at H ⊢; exact H)
     have hji7w : (IntKind.i64.wrap ((ji5) - a2)) = ji7 := (i64_w _).trans hji7; by_cases c8 : 0 ≤ (ji7)
     ·rw [if_pos c8] at H; have c8b0 : decide (0 ≤ (ji7)) = true := decide_eq_true c8; clear c8; by_cases c9 : (ji7) < (l0.length : Int)
      ·rw [if_pos c9] at H; have c9b0 : decide ((ji7) < (l0.length : Int)) = true := decide_eq_true c9; clear c9; by_cases c10 : (rd l0 (ji5)) = (rd l0 (ji7))
       ·rw [if_pos c10] at H; have c10b0 : ((rd l0 (ji5)) == (rd l0 (ji7))) = true := beq_iff_eq.mpr c10; have c10b1 : ((rd l0 (ji5)) != (rd l0 (ji7))) = false := bne_eq_false_iff_eq.mpr c10; clear c10; have H' := am H; clear H; have p391 : 0 ≤ ((ji5) : Int) := oD; have q391 : (ji5) < (l0.length : Int) := oD; obtain ⟨ad391, e391, hx391_0⟩ := Kd.at_int HR0.out (ji5) p391 q391; cases e391; replace hx391_0 := (HB.out.cell (World.block_lt_of_cell? w _ hx391_0)).trans hx391_0; replace p391 := eq_true p391; replace q391 := eq_true q391; have p392 : 0 ≤ ((ji7) : Int) := oD; have q392 : (ji7) < (l0.length : Int) := oD; obtain ⟨ad392, e392, hx392_0⟩ := Kd.at_int HR0.out (ji7) p392 q392; obtain rfl : ad391 = ad392 := (by injection e392); replace hx392_0 := (HB.out.cell (World.block_lt_of_cell? w _ hx392_0)).trans hx392_0; replace p392 := eq_true p392; replace q392 := eq_true q392; go_wp2
        repeat (go_quiet (fail); try go_wp2)
        go_roundg k1
        case measure => have := HK1.out; omega
        case rel => exact ⟨(wrap64 (x7_1 + 1)), (by first | rfl | (simp; done) | (simp [*]; done)), H', ⟨by have := HK1.out; omega⟩, ⟨by exact rB HB⟩⟩
       ·rw [if_neg c10] at H; have c10b0 : ((rd l0 (ji5)) == (rd l0 (ji7))) = false := beq_eq_false_iff_ne.mpr c10; have c10b1 : ((rd l0 (ji5)) != (rd l0 (ji7))) = true := bne_iff_ne.mpr c10; obtain ⟨ji11, hji11⟩ : ∃ j_ : Int, (mn x7_1 (wrap64 ((l0.length : Int) - a1))) = j_ := ⟨_, rfl⟩; replace H : (some ji11) = some r := by first | (rw [hji11] at H; exact H) | (simp only [hji11] at H ⊢; exact H)
        have hji11_ : (if (wrap64 ((l0.length : Int) - a1)) < x7_1 then (wrap64 ((l0.length : Int) - a1)) else x7_1) = ji11 := hji11; obtain rfl := Option.some.inj H; have p391 : 0 ≤ ((ji5) : Int) := oD; have q391 : (ji5) < (l0.length : Int) := oD; obtain ⟨ad391, e391, hx391_0⟩ := Kd.at_int HR0.out (ji5) p391 q391; cases e391; replace hx391_0 := (HB.out.cell (World.block_lt_of_cell? w _ hx391_0)).trans hx391_0; replace p391 := eq_true p391; replace q391 := eq_true q391; have p392 : 0 ≤ ((ji7) : Int) := oD; have q392 : (ji7) < (l0.length : Int) := oD; obtain ⟨ad392, e392, hx392_0⟩ := Kd.at_int HR0.out (ji7) p392 q392; obtain rfl : ad391 = ad392 := (by injection e392); replace hx392_0 := (HB.out.cell (World.block_lt_of_cell? w _ hx392_0)).trans hx392_0; replace p392 := eq_true p392; replace q392 := eq_true q392; go_wp2
        repeat (go_quiet (fail); try go_wp2)
        go_ret; exact ⟨by first | rfl | (simp [errW_none, errW_some] <;> rfl) | (simp only [← hji5, ← hji7, ← hji11]; first | rfl | (simp [errW_none, errW_some] <;> rfl)) | (simp [*, errW_none, errW_some] <;> rfl), by exact rB HB⟩
      ·rw [if_neg c9] at H; exact absurd H (by simp)
     ·rw [if_neg c8] at H; exact absurd H (by simp)
    ·rw [if_neg c6] at H; exact absurd H (by simp)
   ·rw [if_neg c4] at H; have c4b0 : decide ((wrap64 (a1 + x7_1)) < (l0.length : Int)) = false := decide_eq_false c4; clear c4; obtain ⟨ji12, hji12⟩ : ∃ j_ : Int, (mn x7_1 (wrap64 ((l0.length : Int) - a1))) = j_ := ⟨_, rfl⟩; replace H : (some ji12) = some r := by first | (rw [hji12] at H; exact H) | (simp only [hji12] at H ⊢; exact H)
    have hji12_ : (if (wrap64 ((l0.length : Int) - a1)) < x7_1 then (wrap64 ((l0.length : Int) - a1)) else x7_1) = ji12 := hji12; obtain rfl := Option.some.inj H; go_wp2
    repeat (go_quiet (fail); try go_wp2)
    go_ret; exact ⟨by first | rfl | (simp [errW_none, errW_some] <;> rfl) | (simp only [← hji12]; first | rfl | (simp [errW_none, errW_some] <;> rfl)) | (simp [*, errW_none, errW_some] <;> rfl), by exact rB HB⟩
mutual
def spec_HasPower.j0 : Nat → List Int → Int → Int → Bool → Option (Bool)
 | 0, _, _, _, _ => none
 | k + 1, x0, x1, x2, x18 => if x18 = true then (some false) else (spec_HasPower.l0 k x0 x1 x2 0)
def spec_HasPower.l0 : Nat → List Int → Int → Int → Int → Option (Bool)
 | 0, _, _, _, _ => none
 | k + 1, x0, x1, x2, x7 => if x7 < (x0.length : Int) then (spec_HasPower.j2 k x0 x1 x2 x7 (decide ((x0.length : Int) ≤ 128))) else (spec_HasPower.j2 k x0 x1 x2 x7 false)
def spec_HasPower.j2 : Nat → List Int → Int → Int → Int → Bool → Option (Bool)
 | 0, _, _, _, _, _ => none
 | k + 1, x0, x1, x2, x7, x27 => if x27 = true then (spec_HasPower.l1 k x0 x1 x2 x7 1) else (some false)
def spec_HasPower.l1 : Nat → List Int → Int → Int → Int → Int → Option (Bool)
 | 0, _, _, _, _, _ => none
 | k + 1, x0, x1, x2, x7, x8 => if (wrap64 (x7 + x8)) < (x0.length : Int) then ((spec_l10Match.f k x0 x7 x8).bind fun t395 => (if (wrap64 (t395 * x2)) ≥ (wrap64 (x8 * x1)) then (some true) else (spec_HasPower.l1 k x0 x1 x2 x7 (wrap64 (x8 + 1))))) else (spec_HasPower.l0 k x0 x1 x2 (wrap64 (x7 + 1)))
end
def spec_HasPower.f (k : Nat) (l0 : List Int) (a1 : Int) (a2 : Int) : Option (Bool) := (spec_l1In.f a1 2 20).bind fun t393 => (if t393 = true then ((spec_l1In.f a2 1 (wrap64 (a1 - 1))).bind fun t394 => (spec_HasPower.j0 k l0 a1 a2 (!t394))) else (spec_HasPower.j0 k l0 a1 a2 true))
set_option maxHeartbeats 8000000 in
set_option maxRecDepth 100000 in
theorem spec_HasPower.calls (k : Nat) (A0 : Option Addr) (c0 : Nat) (l0 : List Int) (a1 : Int) (a2 : Int) (r : Bool) (w : World) (hr0 : Kd.C (Kd.int .i64) w A0 l0.length l0) (hc0 : l0.length ≤ c0) (h : spec_HasPower.f k l0 a1 a2 = some r) :
  Calls Try.prog 123 #[.slice A0 l0.length c0, .int .i64 a1, .int .i64 a2] w fun e w' => e = .returned (.bool r) ∧ Below w.heap.size w w' := by
 have HR0 := am hr0; have HC0 := am hc0; clear hr0 hc0; have HB := am (Below.refl w.heap.size w); have H : ((spec_l1In.f a1 2 20).bind fun t393 => (if t393 = true then ((spec_l1In.f a2 1 (wrap64 (a1 - 1))).bind fun t394 => (spec_HasPower.j0 k l0 a1 a2 (!t394))) else (spec_HasPower.j0 k l0 a1 a2 true))) = some r := h; clear h; have HC4 := am H; clear H; go_enter Try.func123, Try.ntmps123; go_upto_region 1 with (fail); go_cut [18] (fun v18 wc => ∃ (kq : Nat) (x18_3 : Bool), v18 = .bool x18_3 ∧ Aside0 (spec_HasPower.j0 kq l0 a1 a2 x18_3 = some r) ∧ Aside0 (kq ≤ k) ∧ Aside0 (Below w.heap.size w wc))
 case first =>
  have H := HC4.out; clear HC4; replace H := bE H; obtain ⟨t393, A50, H⟩ := H; replace H : (if t393 = true then ((spec_l1In.f a2 1 (wrap64 (a1 - 1))).bind fun t394 => (spec_HasPower.j0 k l0 a1 a2 (!t394))) else (spec_HasPower.j0 k l0 a1 a2 true)) = some r := H; have A5 := am A50; clear A50; by_cases c6 : t393 = true
  ·subst c6; have H1 : ((spec_l1In.f a2 1 (wrap64 (a1 - 1))).bind fun t394 => (spec_HasPower.j0 k l0 a1 a2 (!t394))) = some r := by rw [if_pos rfl] at H; exact H
   clear H; have H := H1; clear H1; replace H := bE H; obtain ⟨t394, A70, H⟩ := H; replace H : (spec_HasPower.j0 k l0 a1 a2 (!t394)) = some r := H; have A7 := am A70; clear A70; have H' := am H; clear H; go_wp2_with (first | ((with_reducible refine gate_callee (f := 115) rfl ?_); refine goesL_ (some 10) rfl rfl Try.func115 (by kernel_rfl) rfl #[.int .i64 a1, .int .i64 2, .int .i64 20] rfl (by (try simp only [mT, mC, mN]); first | done | rfl) ?_; (with_reducible refine (spec_l1In.calls a1 2 20 true _ A5.out).mono ?_); rintro e w' ⟨rfl, ⟨nd, rfl⟩⟩; refine ⟨_, rfl, ?_⟩) | (go_at_call 115; (with_reducible refine (spec_l1In.calls a2 1 (wrap64 (a1 - 1)) t394 _ A7.out).mono ?_); rintro e w' ⟨rfl, ⟨nd, rfl⟩⟩)); go_meet
   case rel => exact ⟨_, (!t394), (by first | rfl | (simp; done) | (simp [*]; done)), H', ⟨by first | omega | exact Nat.le_refl _⟩, ⟨by exact rB HB⟩⟩
  ·replace c6 := Bool.eq_false_iff.mpr c6; subst c6; have H1 : (spec_HasPower.j0 k l0 a1 a2 true) = some r := by rw [if_neg (show ¬ (false = true) by decide)] at H; exact H
   clear H; have H := H1; clear H1; have H' := am H; clear H; go_wp2_with (first | ((with_reducible refine gate_callee (f := 115) rfl ?_); refine goesL_ (some 10) rfl rfl Try.func115 (by kernel_rfl) rfl #[.int .i64 a1, .int .i64 2, .int .i64 20] rfl (by (try simp only [mT, mC, mN]); first | done | rfl) ?_; (with_reducible refine (spec_l1In.calls a1 2 20 false _ A5.out).mono ?_); rintro e w' ⟨rfl, ⟨nd, rfl⟩⟩; refine ⟨_, rfl, ?_⟩)); go_meet
   case rel => exact ⟨_, (true), (by first | rfl | (simp; done) | (simp [*]; done)), H', ⟨by first | omega | exact Nat.le_refl _⟩, ⟨by exact rB HB⟩⟩
 case rest =>
  clear HC4
  try clear c1
  try clear p2
  try clear c6
  try clear p6
  obtain ⟨kq, x18_3, rfl, HA, HJ3, HB⟩ := hcut; cases kq with
  | zero => exact absurd HA.out (by simp [spec_HasPower.j0])
  | succ kj3 =>
   have H := HA.out; clear HA; simp only [spec_HasPower.j0] at H; by_cases c8 : x18_3 = true
   ·subst c8; have H1 : (some false) = some r := by rw [if_pos rfl] at H; exact H
    clear H; have H := H1; clear H1; obtain rfl := Option.some.inj H; go_wp2; go_ret; exact ⟨by first | rfl | (simp [errW_none, errW_some] <;> rfl) | (simp [*, errW_none, errW_some] <;> rfl), by exact rB HB⟩
   ·replace c8 := Bool.eq_false_iff.mpr c8; subst c8; have H1 : (spec_HasPower.l0 kj3 l0 a1 a2 0) = some r := by rw [if_neg (show ¬ (false = true) by decide)] at H; exact H
    clear H; have H := H1; clear H1; have H' := am H; clear H; go_wp2; go_loopg [7] kj3 (fun kq v7 w' => ∃ (x7_2 : Int), v7 = .int .i64 x7_2 ∧ Aside0 (spec_HasPower.l0 kq l0 a1 a2 x7_2 = some r) ∧ Aside0 (kq ≤ kj3) ∧ Aside0 (Below w.heap.size w w'))
    case atStart => exact ⟨(0), (by first | rfl | (simp; done) | (simp [*]; done)), H', ⟨Nat.le_refl _⟩, ⟨by exact rB HB⟩⟩
    case round =>
     clear H'
     try clear c1
     try clear p2
     try clear c6
     try clear p6
     try clear c8
     try clear p2
     try clear p6
     obtain ⟨x7_2, rfl, HA, HK2, HB⟩ := hrel; cases gk with
     | zero => exact absurd HA.out (by simp [spec_HasPower.l0])
     | succ k2 =>
      have H := HA.out; clear HA; simp only [spec_HasPower.l0] at H; have HC9 := am H; clear H; go_upto_region 4 with (fail); go_cut [27] (fun v27 wc => ∃ (kq : Nat) (x27_8 : Bool), v27 = .bool x27_8 ∧ Aside0 (spec_HasPower.j2 kq l0 a1 a2 x7_2 x27_8 = some r) ∧ Aside0 (kq ≤ k2) ∧ Aside0 (Below w.heap.size w wc))
      case first =>
       have H := HC9.out; clear HC9; by_cases c10 : x7_2 < (l0.length : Int)
       ·rw [if_pos c10] at H; have c10b0 : decide (x7_2 < (l0.length : Int)) = true := decide_eq_true c10; clear c10
        (first | rw [c10b0] | (simp only [i64_w, i32_w]; rw [c10b0]) | skip)
        have H' := am H; clear H; go_wp2; go_meet
        case rel => exact ⟨_, (decide ((l0.length : Int) ≤ 128)), (by first | rfl | (simp; done) | (simp [*]; done)), H', ⟨by have := HJ3.out; have := HK2.out; first | omega | exact Nat.le_refl _⟩, ⟨by exact rB HB⟩⟩
       ·rw [if_neg c10] at H; have c10b0 : decide (x7_2 < (l0.length : Int)) = false := decide_eq_false c10; clear c10
        (first | rw [c10b0] | (simp only [i64_w, i32_w]; rw [c10b0]) | skip)
        have H' := am H; clear H; go_wp2; go_meet
        case rel => exact ⟨_, (false), (by first | rfl | (simp; done) | (simp [*]; done)), H', ⟨by have := HJ3.out; have := HK2.out; first | omega | exact Nat.le_refl _⟩, ⟨by exact rB HB⟩⟩
      case rest =>
       clear HC9
       try clear c1
       try clear p2
       try clear c6
       try clear p6
       try clear c8
       try clear c10
       try clear c10b0
       try clear p2
       try clear p6
       obtain ⟨kq, x27_8, rfl, HA, HJ8, HB⟩ := hcut; cases kq with
       | zero => exact absurd HA.out (by simp [spec_HasPower.j2])
       | succ kj8 =>
        have H := HA.out; clear HA; simp only [spec_HasPower.j2] at H; by_cases c11 : x27_8 = true
        ·subst c11; have H1 : (spec_HasPower.l1 kj8 l0 a1 a2 x7_2 1) = some r := by rw [if_pos rfl] at H; exact H
         clear H; have H := H1; clear H1; have H' := am H; clear H; go_wp2; go_loopg [8] kj8 (fun kq v8 w' => ∃ (x8_4 : Int), v8 = .int .i64 x8_4 ∧ Aside0 (spec_HasPower.l1 kq l0 a1 a2 x7_2 x8_4 = some r) ∧ Aside0 (kq ≤ kj8) ∧ Aside0 (Below w.heap.size w w'))
         case atStart => exact ⟨(1), (by first | rfl | (simp; done) | (simp [*]; done)), H', ⟨Nat.le_refl _⟩, ⟨by exact rB HB⟩⟩
         case round =>
          clear H'
          try clear c1
          try clear p2
          try clear c6
          try clear p6
          try clear c8
          try clear c10
          try clear c10b0
          try clear c11
          try clear p2
          try clear p6
          obtain ⟨x8_4, rfl, HA, HK4, HB⟩ := hrel; cases gk with
          | zero => exact absurd HA.out (by simp [spec_HasPower.l1])
          | succ k4 =>
           have H := HA.out; clear HA; simp only [spec_HasPower.l1] at H; by_cases c12 : (wrap64 (x7_2 + x8_4)) < (l0.length : Int)
           ·rw [if_pos c12] at H; have c12b0 : decide ((wrap64 (x7_2 + x8_4)) < (l0.length : Int)) = true := decide_eq_true c12; clear c12; replace H := bE H; obtain ⟨t395, A130, H⟩ := H; replace H : (if (wrap64 (t395 * a2)) ≥ (wrap64 (x8_4 * a1)) then (some true) else (spec_HasPower.l1 k4 l0 a1 a2 x7_2 (wrap64 (x8_4 + 1)))) = some r := H; have A13 := am A130; clear A130; by_cases c14 : (wrap64 (t395 * a2)) ≥ (wrap64 (x8_4 * a1))
            ·rw [if_pos c14] at H; have c14b0 : decide ((wrap64 (x8_4 * a1)) ≤ (wrap64 (t395 * a2))) = true := decide_eq_true c14; clear c14; obtain rfl := Option.some.inj H; go_wp2_with (first | ((with_reducible refine gate_callee (f := 162) rfl ?_); refine goesL_ (some 41) rfl rfl Try.func162 (by kernel_rfl) rfl #[.slice A0 l0.length c0, .int .i64 x7_2, .int .i64 x8_4] rfl (by (try simp only [mT, mC, mN]); first | done | rfl) ?_; (with_reducible refine (spec_l10Match.calls k4 _ _ l0 x7_2 x8_4 t395 _ ?side1 ?side2 A13.out).mono ?_); (case side1 => exact xC ((Kd.C_below HR0.out HB.out))); (case side2 => exact HC0.out); rintro e w15 ⟨rfl, hb⟩; refine ⟨_, rfl, ?_⟩; replace HB := bS HB hb; clear hb)); go_ret; exact ⟨by first | rfl | (simp [errW_none, errW_some] <;> rfl) | (simp [*, errW_none, errW_some] <;> rfl), by exact rB HB⟩
            ·rw [if_neg c14] at H; have c14b0 : decide ((wrap64 (x8_4 * a1)) ≤ (wrap64 (t395 * a2))) = false := decide_eq_false c14; clear c14; have H' := am H; clear H; go_wp2_with (first | ((with_reducible refine gate_callee (f := 162) rfl ?_); refine goesL_ (some 41) rfl rfl Try.func162 (by kernel_rfl) rfl #[.slice A0 l0.length c0, .int .i64 x7_2, .int .i64 x8_4] rfl (by (try simp only [mT, mC, mN]); first | done | rfl) ?_; (with_reducible refine (spec_l10Match.calls k4 _ _ l0 x7_2 x8_4 t395 _ ?side1 ?side2 A13.out).mono ?_); (case side1 => exact xC ((Kd.C_below HR0.out HB.out))); (case side2 => exact HC0.out); rintro e w16 ⟨rfl, hb⟩; refine ⟨_, rfl, ?_⟩; replace HB := bS HB hb; clear hb)); go_roundg k4
             case measure => have := HJ3.out; have := HK2.out; have := HJ8.out; have := HK4.out; omega
             case rel => exact ⟨(wrap64 (x8_4 + 1)), (by first | rfl | (simp; done) | (simp [*]; done)), H', ⟨by have := HJ3.out; have := HK2.out; have := HJ8.out; have := HK4.out; omega⟩, ⟨by exact rB HB⟩⟩
           ·rw [if_neg c12] at H; have c12b0 : decide ((wrap64 (x7_2 + x8_4)) < (l0.length : Int)) = false := decide_eq_false c12; clear c12; have H' := am H; clear H; go_wp2; go_roundg k4
            case measure => have := HJ3.out; have := HK2.out; have := HJ8.out; have := HK4.out; omega
            case rel => exact ⟨(wrap64 (x7_2 + 1)), (by first | rfl | (simp; done) | (simp [*]; done)), H', ⟨by have := HJ3.out; have := HK2.out; have := HJ8.out; have := HK4.out; omega⟩, ⟨by exact rB HB⟩⟩
        ·replace c11 := Bool.eq_false_iff.mpr c11; subst c11; have H1 : (some false) = some r := by rw [if_neg (show ¬ (false = true) by decide)] at H; exact H
         clear H; have H := H1; clear H1; obtain rfl := Option.some.inj H; go_wp2; go_ret; exact ⟨by first | rfl | (simp [errW_none, errW_some] <;> rfl) | (simp [*, errW_none, errW_some] <;> rfl), by exact rB HB⟩
def spec_HasSquare.f (k : Nat) (l0 : List Int) : Option (Bool) := (spec_HasPower.f k l0 2 1).bind fun t396 => (some t396)
set_option maxHeartbeats 8000000 in
set_option maxRecDepth 100000 in
theorem spec_HasSquare.calls (k : Nat) (A0 : Option Addr) (c0 : Nat) (l0 : List Int) (r : Bool) (w : World) (hr0 : Kd.C (Kd.int .i64) w A0 l0.length l0) (hc0 : l0.length ≤ c0) (h : spec_HasSquare.f k l0 = some r) :
  Calls Try.prog 44 #[.slice A0 l0.length c0] w fun e w' => e = .returned (.bool r) ∧ Below w.heap.size w w' := by
 have HR0 := am hr0; have HC0 := am hc0; clear hr0 hc0; have HB := am (Below.refl w.heap.size w); have H : ((spec_HasPower.f k l0 2 1).bind fun t396 => (some t396)) = some r := h; clear h; replace H := bE H; obtain ⟨t396, A20, H⟩ := H; replace H : (some t396) = some r := H; have A2 := am A20; clear A20; obtain rfl := Option.some.inj H; go_enter Try.func44, Try.ntmps44; go_wp2_with (first | ((with_reducible refine gate_callee (f := 123) rfl ?_); refine goesL_ (some 4) rfl rfl Try.func123 (by kernel_rfl) rfl #[.slice A0 l0.length c0, .int .i64 2, .int .i64 1] rfl (by (try simp only [mT, mC, mN]); first | done | rfl) ?_; (with_reducible refine (spec_HasPower.calls k _ _ l0 2 1 t396 _ ?side1 ?side2 A2.out).mono ?_); (case side1 => exact xC (HR0.out)); (case side2 => exact HC0.out); rintro e w3 ⟨rfl, hb⟩; refine ⟨_, rfl, ?_⟩; replace HB := bS HB hb; clear hb)); go_ret; exact ⟨by first | rfl | (simp [errW_none, errW_some] <;> rfl) | (simp [*, errW_none, errW_some] <;> rfl), by exact rB HB⟩
mutual
def spec_HasOverlap.l0 : Nat → List Int → Int → Option (Bool)
 | 0, _, _ => none
 | k + 1, x0, x3 => if x3 < (x0.length : Int) then (spec_HasOverlap.j1 k x0 x3 (decide ((x0.length : Int) ≤ 128))) else (spec_HasOverlap.j1 k x0 x3 false)
def spec_HasOverlap.j1 : Nat → List Int → Int → Bool → Option (Bool)
 | 0, _, _, _ => none
 | k + 1, x0, x3, x13 => if x13 = true then (spec_HasOverlap.l1 k x0 x3 1) else (some false)
def spec_HasOverlap.l1 : Nat → List Int → Int → Int → Option (Bool)
 | 0, _, _, _ => none
 | k + 1, x0, x3, x4 => if (wrap64 (x3 + (wrap64 (2 * x4)))) < (x0.length : Int) then ((spec_l10Match.f k x0 x3 x4).bind fun t397 => (if t397 > (wrap64 (2 * x4)) then (some true) else (spec_HasOverlap.l1 k x0 x3 (wrap64 (x4 + 1))))) else (spec_HasOverlap.l0 k x0 (wrap64 (x3 + 1)))
end
def spec_HasOverlap.f (k : Nat) (l0 : List Int) : Option (Bool) := spec_HasOverlap.l0 k l0 0
set_option maxHeartbeats 8000000 in
set_option maxRecDepth 100000 in
theorem spec_HasOverlap.calls (k : Nat) (A0 : Option Addr) (c0 : Nat) (l0 : List Int) (r : Bool) (w : World) (hr0 : Kd.C (Kd.int .i64) w A0 l0.length l0) (hc0 : l0.length ≤ c0) (h : spec_HasOverlap.f k l0 = some r) :
  Calls Try.prog 117 #[.slice A0 l0.length c0] w fun e w' => e = .returned (.bool r) ∧ Below w.heap.size w w' := by
 have HR0 := am hr0; have HC0 := am hc0; clear hr0 hc0; have HB := am (Below.refl w.heap.size w); have H : (spec_HasOverlap.l0 k l0 0) = some r := h; clear h; have H' := am H; clear H; go_enter Try.func117, Try.ntmps117; go_wp2; go_loopg [3] k (fun kq v3 w' => ∃ (x3_1 : Int), v3 = .int .i64 x3_1 ∧ Aside0 (spec_HasOverlap.l0 kq l0 x3_1 = some r) ∧ Aside0 (kq ≤ k) ∧ Aside0 (Below w.heap.size w w'))
 case atStart => exact ⟨(0), (by first | rfl | (simp; done) | (simp [*]; done)), H', ⟨Nat.le_refl _⟩, ⟨by exact rB HB⟩⟩
 case round =>
  clear H'
  try clear c1
  obtain ⟨x3_1, rfl, HA, HK1, HB⟩ := hrel; cases gk with
  | zero => exact absurd HA.out (by simp [spec_HasOverlap.l0])
  | succ k1 =>
   have H := HA.out; clear HA; simp only [spec_HasOverlap.l0] at H; have HC2 := am H; clear H; go_upto_region 2 with (fail); go_cut [13] (fun v13 wc => ∃ (kq : Nat) (x13_1 : Bool), v13 = .bool x13_1 ∧ Aside0 (spec_HasOverlap.j1 kq l0 x3_1 x13_1 = some r) ∧ Aside0 (kq ≤ k1) ∧ Aside0 (Below w.heap.size w wc))
   case first =>
    have H := HC2.out; clear HC2; by_cases c3 : x3_1 < (l0.length : Int)
    ·rw [if_pos c3] at H; have c3b0 : decide (x3_1 < (l0.length : Int)) = true := decide_eq_true c3; clear c3
     (first | rw [c3b0] | (simp only [i64_w, i32_w]; rw [c3b0]) | skip)
     have H' := am H; clear H; go_wp2; go_meet
     case rel => exact ⟨_, (decide ((l0.length : Int) ≤ 128)), (by first | rfl | (simp; done) | (simp [*]; done)), H', ⟨by have := HK1.out; first | omega | exact Nat.le_refl _⟩, ⟨by exact rB HB⟩⟩
    ·rw [if_neg c3] at H; have c3b0 : decide (x3_1 < (l0.length : Int)) = false := decide_eq_false c3; clear c3
     (first | rw [c3b0] | (simp only [i64_w, i32_w]; rw [c3b0]) | skip)
     have H' := am H; clear H; go_wp2; go_meet
     case rel => exact ⟨_, (false), (by first | rfl | (simp; done) | (simp [*]; done)), H', ⟨by have := HK1.out; first | omega | exact Nat.le_refl _⟩, ⟨by exact rB HB⟩⟩
   case rest =>
    clear HC2
    try clear c1
    try clear p2
    try clear c3
    try clear c3b0
    obtain ⟨kq, x13_1, rfl, HA, HJ1, HB⟩ := hcut; cases kq with
    | zero => exact absurd HA.out (by simp [spec_HasOverlap.j1])
    | succ kj1 =>
     have H := HA.out; clear HA; simp only [spec_HasOverlap.j1] at H; by_cases c4 : x13_1 = true
     ·subst c4; have H1 : (spec_HasOverlap.l1 kj1 l0 x3_1 1) = some r := by rw [if_pos rfl] at H; exact H
      clear H; have H := H1; clear H1; have H' := am H; clear H; go_wp2; go_loopg [4] kj1 (fun kq v4 w' => ∃ (x4_3 : Int), v4 = .int .i64 x4_3 ∧ Aside0 (spec_HasOverlap.l1 kq l0 x3_1 x4_3 = some r) ∧ Aside0 (kq ≤ kj1) ∧ Aside0 (Below w.heap.size w w'))
      case atStart => exact ⟨(1), (by first | rfl | (simp; done) | (simp [*]; done)), H', ⟨Nat.le_refl _⟩, ⟨by exact rB HB⟩⟩
      case round =>
       clear H'
       try clear c1
       try clear p2
       try clear c3
       try clear c3b0
       try clear c4
       try clear p2
       obtain ⟨x4_3, rfl, HA, HK3, HB⟩ := hrel; cases gk with
       | zero => exact absurd HA.out (by simp [spec_HasOverlap.l1])
       | succ k3 =>
        have H := HA.out; clear HA; simp only [spec_HasOverlap.l1] at H; by_cases c5 : (wrap64 (x3_1 + (wrap64 (2 * x4_3)))) < (l0.length : Int)
        ·rw [if_pos c5] at H; have c5b0 : decide ((wrap64 (x3_1 + (wrap64 (2 * x4_3)))) < (l0.length : Int)) = true := decide_eq_true c5; clear c5; replace H := bE H; obtain ⟨t397, A60, H⟩ := H; replace H : (if t397 > (wrap64 (2 * x4_3)) then (some true) else (spec_HasOverlap.l1 k3 l0 x3_1 (wrap64 (x4_3 + 1)))) = some r := H; have A6 := am A60; clear A60; by_cases c7 : t397 > (wrap64 (2 * x4_3))
         ·rw [if_pos c7] at H; have c7b0 : decide ((wrap64 (2 * x4_3)) < t397) = true := decide_eq_true c7; clear c7; obtain rfl := Option.some.inj H; go_wp2_with (first | ((with_reducible refine gate_callee (f := 162) rfl ?_); refine goesL_ (some 28) rfl rfl Try.func162 (by kernel_rfl) rfl #[.slice A0 l0.length c0, .int .i64 x3_1, .int .i64 x4_3] rfl (by (try simp only [mT, mC, mN]); first | done | rfl) ?_; (with_reducible refine (spec_l10Match.calls k3 _ _ l0 x3_1 x4_3 t397 _ ?side1 ?side2 A6.out).mono ?_); (case side1 => exact xC ((Kd.C_below HR0.out HB.out))); (case side2 => exact HC0.out); rintro e w8 ⟨rfl, hb⟩; refine ⟨_, rfl, ?_⟩; replace HB := bS HB hb; clear hb)); go_ret; exact ⟨by first | rfl | (simp [errW_none, errW_some] <;> rfl) | (simp [*, errW_none, errW_some] <;> rfl), by exact rB HB⟩
         ·rw [if_neg c7] at H; have c7b0 : decide ((wrap64 (2 * x4_3)) < t397) = false := decide_eq_false c7; clear c7; have H' := am H; clear H; go_wp2_with (first | ((with_reducible refine gate_callee (f := 162) rfl ?_); refine goesL_ (some 28) rfl rfl Try.func162 (by kernel_rfl) rfl #[.slice A0 l0.length c0, .int .i64 x3_1, .int .i64 x4_3] rfl (by (try simp only [mT, mC, mN]); first | done | rfl) ?_; (with_reducible refine (spec_l10Match.calls k3 _ _ l0 x3_1 x4_3 t397 _ ?side1 ?side2 A6.out).mono ?_); (case side1 => exact xC ((Kd.C_below HR0.out HB.out))); (case side2 => exact HC0.out); rintro e w9 ⟨rfl, hb⟩; refine ⟨_, rfl, ?_⟩; replace HB := bS HB hb; clear hb)); go_roundg k3
          case measure => have := HK1.out; have := HJ1.out; have := HK3.out; omega
          case rel => exact ⟨(wrap64 (x4_3 + 1)), (by first | rfl | (simp; done) | (simp [*]; done)), H', ⟨by have := HK1.out; have := HJ1.out; have := HK3.out; omega⟩, ⟨by exact rB HB⟩⟩
        ·rw [if_neg c5] at H; have c5b0 : decide ((wrap64 (x3_1 + (wrap64 (2 * x4_3)))) < (l0.length : Int)) = false := decide_eq_false c5; clear c5; have H' := am H; clear H; go_wp2; go_roundg k3
         case measure => have := HK1.out; have := HJ1.out; have := HK3.out; omega
         case rel => exact ⟨(wrap64 (x3_1 + 1)), (by first | rfl | (simp; done) | (simp [*]; done)), H', ⟨by have := HK1.out; have := HJ1.out; have := HK3.out; omega⟩, ⟨by exact rB HB⟩⟩
     ·replace c4 := Bool.eq_false_iff.mpr c4; subst c4; have H1 : (some false) = some r := by rw [if_neg (show ¬ (false = true) by decide)] at H; exact H
      clear H; have H := H1; clear H1; obtain rfl := Option.some.inj H; go_wp2; go_ret; exact ⟨by first | rfl | (simp [errW_none, errW_some] <;> rfl) | (simp [*, errW_none, errW_some] <;> rfl), by exact rB HB⟩
def impl_longestRepeat.l0 : Nat → List Int → Int → Int → Int → Int → Option (Int)
 | 0, _, _, _, _, _ => none
 | k + 1, x0, x1, x5, x6, x7 => if (wrap64 (x7 + x1)) < (x0.length : Int) then (if 0 ≤ x7 then (if x7 < (x0.length : Int) then (if 0 ≤ (wrap64 (x7 + x1)) then (if (rd x0 x7) = (rd x0 (wrap64 (x7 + x1))) then (impl_longestRepeat.l0 k x0 x1 (mx x5 (wrap64 (x6 + 1))) (wrap64 (x6 + 1)) (wrap64 (x7 + 1))) else (impl_longestRepeat.l0 k x0 x1 x5 0 (wrap64 (x7 + 1)))) else (none)) else (none)) else (none)) else (some (wrap64 (x5 + x1)))
def impl_longestRepeat.f (k : Nat) (l0 : List Int) (a1 : Int) : Option (Int) := impl_longestRepeat.l0 k l0 a1 0 0 0
set_option maxHeartbeats 8000000 in
set_option maxRecDepth 100000 in
theorem impl_longestRepeat.calls (k : Nat) (A0 : Option Addr) (c0 : Nat) (l0 : List Int) (a1 : Int) (r : Int) (w : World) (hr0 : Kd.C (Kd.int .i64) w A0 l0.length l0) (hc0 : l0.length ≤ c0) (h : impl_longestRepeat.f k l0 a1 = some r) :
  Calls Try.prog 124 #[.slice A0 l0.length c0, .int .i64 a1] w fun e w' => e = .returned (.int .i64 r) ∧ Below w.heap.size w w' := by
 have HR0 := am hr0; have HC0 := am hc0; clear hr0 hc0; have HB := am (Below.refl w.heap.size w); have H : (impl_longestRepeat.l0 k l0 a1 0 0 0) = some r := h; clear h; have H' := am H; clear H; go_enter Try.func124, Try.ntmps124; go_wp2
 repeat (go_quiet (fail); try go_wp2)
 go_loopg [5, 6, 7] k (fun kq v5 v6 v7 w' => ∃ (x5_1 : Int) (x6_1 : Int) (x7_1 : Int), v5 = .int .i64 x5_1 ∧ v6 = .int .i64 x6_1 ∧ v7 = .int .i64 x7_1 ∧ Aside0 (impl_longestRepeat.l0 kq l0 a1 x5_1 x6_1 x7_1 = some r) ∧ Aside0 (kq ≤ k) ∧ Aside0 (Below w.heap.size w w'))
 case atStart => exact ⟨(0), (0), (0), (by first | rfl | (simp; done) | (simp [*]; done)), (by first | rfl | (simp; done) | (simp [*]; done)), (by first | rfl | (simp; done) | (simp [*]; done)), H', ⟨Nat.le_refl _⟩, ⟨by exact rB HB⟩⟩
 case round =>
  clear H'
  try clear c1
  try clear p2
  obtain ⟨x5_1, x6_1, x7_1, rfl, rfl, rfl, HA, HK1, HB⟩ := hrel; cases gk with
  | zero => exact absurd HA.out (by simp [impl_longestRepeat.l0])
  | succ k1 =>
   have H := HA.out; clear HA; simp only [impl_longestRepeat.l0] at H; by_cases c3 : (wrap64 (x7_1 + a1)) < (l0.length : Int)
   ·rw [if_pos c3] at H; have c3b0 : decide ((wrap64 (x7_1 + a1)) < (l0.length : Int)) = true := decide_eq_true c3; clear c3; by_cases c4 : 0 ≤ x7_1
    ·rw [if_pos c4] at H; have c4b0 : decide (0 ≤ x7_1) = true := decide_eq_true c4; clear c4; by_cases c5 : x7_1 < (l0.length : Int)
     ·rw [if_pos c5] at H; have c5b0 : decide (x7_1 < (l0.length : Int)) = true := decide_eq_true c5; clear c5; obtain ⟨ji6, hji6⟩ : ∃ j_ : Int, (wrap64 (x7_1 + a1)) = j_ := ⟨_, rfl⟩; replace H : (if 0 ≤ (ji6) then (if (rd l0 x7_1) = (rd l0 (ji6)) then (impl_longestRepeat.l0 k1 l0 a1 (mx x5_1 (wrap64 (x6_1 + 1))) (wrap64 (x6_1 + 1)) (wrap64 (x7_1 + 1))) else (impl_longestRepeat.l0 k1 l0 a1 x5_1 0 (wrap64 (x7_1 + 1)))) else (none)) = some r := by first | (rw [hji6] at H; exact H) | (simp only [hji6] at H ⊢; exact H)
      (try rw [hji6] at c3b0); have hji6w : (IntKind.i64.wrap (x7_1 + a1)) = ji6 := (i64_w _).trans hji6; by_cases c7 : 0 ≤ (ji6)
      ·rw [if_pos c7] at H; have c7b0 : decide (0 ≤ (ji6)) = true := decide_eq_true c7; clear c7; by_cases c8 : (rd l0 x7_1) = (rd l0 (ji6))
       ·rw [if_pos c8] at H; have c8b0 : ((rd l0 x7_1) == (rd l0 (ji6))) = true := beq_iff_eq.mpr c8; have c8b1 : ((rd l0 x7_1) != (rd l0 (ji6))) = false := bne_eq_false_iff_eq.mpr c8; clear c8; obtain ⟨ji9, hji9⟩ : ∃ j_ : Int, (mx x5_1 (wrap64 (x6_1 + 1))) = j_ := ⟨_, rfl⟩; replace H : (impl_longestRepeat.l0 k1 l0 a1 ji9 (wrap64 (x6_1 + 1)) (wrap64 (x7_1 + 1))) = some r := by first | (rw [hji9] at H; exact H) | (simp only [hji9] at H ⊢; exact H)
        have hji9_ : (if x5_1 < (wrap64 (x6_1 + 1)) then (wrap64 (x6_1 + 1)) else x5_1) = ji9 := hji9; have H' := am H; clear H; have p437 : 0 ≤ (x7_1 : Int) := oD; have q437 : x7_1 < (l0.length : Int) := oD; obtain ⟨ad437, e437, hx437_0⟩ := Kd.at_int HR0.out x7_1 p437 q437; cases e437; replace hx437_0 := (HB.out.cell (World.block_lt_of_cell? w _ hx437_0)).trans hx437_0; replace p437 := eq_true p437; replace q437 := eq_true q437; have p438 : 0 ≤ ((ji6) : Int) := oD; have q438 : (ji6) < (l0.length : Int) := oD; obtain ⟨ad438, e438, hx438_0⟩ := Kd.at_int HR0.out (ji6) p438 q438; obtain rfl : ad437 = ad438 := (by injection e438); replace hx438_0 := (HB.out.cell (World.block_lt_of_cell? w _ hx438_0)).trans hx438_0; replace p438 := eq_true p438; replace q438 := eq_true q438; go_wp2
        repeat (go_quiet (fail); try go_wp2)
        go_roundg k1
        case measure => have := HK1.out; omega
        case rel => exact ⟨(ji9), (wrap64 (x6_1 + 1)), (wrap64 (x7_1 + 1)), (by first | rfl | (simp; done) | (simp only [← hji9] <;> (first | rfl | simp)) | (simp [*]; done)), (by first | rfl | (simp; done) | (simp [*]; done)), (by first | rfl | (simp; done) | (simp [*]; done)), H', ⟨by have := HK1.out; omega⟩, ⟨by exact rB HB⟩⟩
       ·rw [if_neg c8] at H; have c8b0 : ((rd l0 x7_1) == (rd l0 (ji6))) = false := beq_eq_false_iff_ne.mpr c8; have c8b1 : ((rd l0 x7_1) != (rd l0 (ji6))) = true := bne_iff_ne.mpr c8; have H' := am H; clear H; have p437 : 0 ≤ (x7_1 : Int) := oD; have q437 : x7_1 < (l0.length : Int) := oD; obtain ⟨ad437, e437, hx437_0⟩ := Kd.at_int HR0.out x7_1 p437 q437; cases e437; replace hx437_0 := (HB.out.cell (World.block_lt_of_cell? w _ hx437_0)).trans hx437_0; replace p437 := eq_true p437; replace q437 := eq_true q437; have p438 : 0 ≤ ((ji6) : Int) := oD; have q438 : (ji6) < (l0.length : Int) := oD; obtain ⟨ad438, e438, hx438_0⟩ := Kd.at_int HR0.out (ji6) p438 q438; obtain rfl : ad437 = ad438 := (by injection e438); replace hx438_0 := (HB.out.cell (World.block_lt_of_cell? w _ hx438_0)).trans hx438_0; replace p438 := eq_true p438; replace q438 := eq_true q438; go_wp2
        repeat (go_quiet (fail); try go_wp2)
        go_roundg k1
        case measure => have := HK1.out; omega
        case rel => exact ⟨(x5_1), (0), (wrap64 (x7_1 + 1)), (by first | rfl | (simp; done) | (simp [*]; done)), (by first | rfl | (simp; done) | (simp [*]; done)), (by first | rfl | (simp; done) | (simp [*]; done)), H', ⟨by have := HK1.out; omega⟩, ⟨by exact rB HB⟩⟩
      ·rw [if_neg c7] at H; exact absurd H (by simp)
     ·rw [if_neg c5] at H; exact absurd H (by simp)
    ·rw [if_neg c4] at H; exact absurd H (by simp)
   ·rw [if_neg c3] at H; have c3b0 : decide ((wrap64 (x7_1 + a1)) < (l0.length : Int)) = false := decide_eq_false c3; clear c3; obtain rfl := Option.some.inj H; go_wp2
    repeat (go_quiet (fail); try go_wp2)
    go_ret; exact ⟨by first | rfl | (simp [errW_none, errW_some] <;> rfl) | (simp [*, errW_none, errW_some] <;> rfl), by exact rB HB⟩
def impl_HasOverlap.l0 : Nat → List Int → Int → Option (Bool)
 | 0, _, _ => none
 | k + 1, x0, x3 => if x3 ≤ (x0.length : Int) then ((impl_longestRepeat.f k x0 x3).bind fun t439 => (if t439 > (wrap64 (2 * x3)) then (some true) else (impl_HasOverlap.l0 k x0 (wrap64 (x3 + 1))))) else (some false)
def impl_HasOverlap.f (k : Nat) (l0 : List Int) : Option (Bool) := if (l0.length : Int) > 128 then (some false) else (impl_HasOverlap.l0 k l0 1)
set_option maxHeartbeats 8000000 in
set_option maxRecDepth 100000 in
theorem impl_HasOverlap.calls (k : Nat) (A0 : Option Addr) (c0 : Nat) (l0 : List Int) (r : Bool) (w : World) (hr0 : Kd.C (Kd.int .i64) w A0 l0.length l0) (hc0 : l0.length ≤ c0) (h : impl_HasOverlap.f k l0 = some r) :
  Calls Try.prog 52 #[.slice A0 l0.length c0] w fun e w' => e = .returned (.bool r) ∧ Below w.heap.size w w' := by
 have HR0 := am hr0; have HC0 := am hc0; clear hr0 hc0; have HB := am (Below.refl w.heap.size w); have H : (if (l0.length : Int) > 128 then (some false) else (impl_HasOverlap.l0 k l0 1)) = some r := h; clear h; by_cases c2 : (l0.length : Int) > 128
 ·rw [if_pos c2] at H; have c2b0 : decide (128 < (l0.length : Int)) = true := decide_eq_true c2; have c2b1 : decide (128 < l0.length) = true := decide_eq_true (by omega); clear c2; obtain rfl := Option.some.inj H; go_enter Try.func52, Try.ntmps52; go_wp2; go_ret; exact ⟨by first | rfl | (simp [errW_none, errW_some] <;> rfl) | (simp [*, errW_none, errW_some] <;> rfl), by exact rB HB⟩
 ·rw [if_neg c2] at H; have c2b0 : decide (128 < (l0.length : Int)) = false := decide_eq_false c2; have c2b1 : decide (128 < l0.length) = false := decide_eq_false (by omega); clear c2; have H' := am H; clear H; go_enter Try.func52, Try.ntmps52; go_wp2; go_loopg [3] k (fun kq v3 w' => ∃ (x3_1 : Int), v3 = .int .i64 x3_1 ∧ Aside0 (impl_HasOverlap.l0 kq l0 x3_1 = some r) ∧ Aside0 (kq ≤ k) ∧ Aside0 (Below w.heap.size w w'))
  case atStart => exact ⟨(1), (by first | rfl | (simp; done) | (simp [*]; done)), H', ⟨Nat.le_refl _⟩, ⟨by exact rB HB⟩⟩
  case round =>
   clear H'
   try clear c2
   try clear c2b0
   try clear c2b1
   try clear p2
   obtain ⟨x3_1, rfl, HA, HK1, HB⟩ := hrel; cases gk with
   | zero => exact absurd HA.out (by simp [impl_HasOverlap.l0])
   | succ k1 =>
    have H := HA.out; clear HA; simp only [impl_HasOverlap.l0] at H; by_cases c3 : x3_1 ≤ (l0.length : Int)
    ·rw [if_pos c3] at H; have c3b0 : decide (x3_1 ≤ (l0.length : Int)) = true := decide_eq_true c3; clear c3; replace H := bE H; obtain ⟨t439, A40, H⟩ := H; replace H : (if t439 > (wrap64 (2 * x3_1)) then (some true) else (impl_HasOverlap.l0 k1 l0 (wrap64 (x3_1 + 1)))) = some r := H; have A4 := am A40; clear A40; by_cases c5 : t439 > (wrap64 (2 * x3_1))
     ·rw [if_pos c5] at H; have c5b0 : decide ((wrap64 (2 * x3_1)) < t439) = true := decide_eq_true c5; clear c5; obtain rfl := Option.some.inj H; go_wp2_with (first | ((with_reducible refine gate_callee (f := 124) rfl ?_); refine goesL_ (some 15) rfl rfl Try.func124 (by kernel_rfl) rfl #[.slice A0 l0.length c0, .int .i64 x3_1] rfl (by (try simp only [mT, mC, mN]); first | done | rfl) ?_; (with_reducible refine (impl_longestRepeat.calls k1 _ _ l0 x3_1 t439 _ ?side1 ?side2 A4.out).mono ?_); (case side1 => exact xC ((Kd.C_below HR0.out HB.out))); (case side2 => exact HC0.out); rintro e w6 ⟨rfl, hb⟩; refine ⟨_, rfl, ?_⟩; replace HB := bS HB hb; clear hb)); go_ret; exact ⟨by first | rfl | (simp [errW_none, errW_some] <;> rfl) | (simp [*, errW_none, errW_some] <;> rfl), by exact rB HB⟩
     ·rw [if_neg c5] at H; have c5b0 : decide ((wrap64 (2 * x3_1)) < t439) = false := decide_eq_false c5; clear c5; have H' := am H; clear H; go_wp2_with (first | ((with_reducible refine gate_callee (f := 124) rfl ?_); refine goesL_ (some 15) rfl rfl Try.func124 (by kernel_rfl) rfl #[.slice A0 l0.length c0, .int .i64 x3_1] rfl (by (try simp only [mT, mC, mN]); first | done | rfl) ?_; (with_reducible refine (impl_longestRepeat.calls k1 _ _ l0 x3_1 t439 _ ?side1 ?side2 A4.out).mono ?_); (case side1 => exact xC ((Kd.C_below HR0.out HB.out))); (case side2 => exact HC0.out); rintro e w7 ⟨rfl, hb⟩; refine ⟨_, rfl, ?_⟩; replace HB := bS HB hb; clear hb)); go_roundg k1
      case measure => have := HK1.out; omega
      case rel => exact ⟨(wrap64 (x3_1 + 1)), (by first | rfl | (simp; done) | (simp [*]; done)), H', ⟨by have := HK1.out; omega⟩, ⟨by exact rB HB⟩⟩
    ·rw [if_neg c3] at H; have c3b0 : decide (x3_1 ≤ (l0.length : Int)) = false := decide_eq_false c3; clear c3; obtain rfl := Option.some.inj H; go_wp2; go_ret; exact ⟨by first | rfl | (simp [errW_none, errW_some] <;> rfl) | (simp [*, errW_none, errW_some] <;> rfl), by exact rB HB⟩
mutual
def impl_HasPower.j0 : Nat → List Int → Int → Int → Bool → Option (Bool)
 | 0, _, _, _, _ => none
 | k + 1, x0, x1, x2, x27 => if x27 = true then (some false) else (impl_HasPower.l0 k x0 x1 x2 1)
def impl_HasPower.l0 : Nat → List Int → Int → Int → Int → Option (Bool)
 | 0, _, _, _, _ => none
 | k + 1, x0, x1, x2, x7 => if x7 ≤ (x0.length : Int) then ((impl_longestRepeat.f k x0 x7).bind fun t558 => (if (wrap64 (t558 * x2)) ≥ (wrap64 (x1 * x7)) then (some true) else (impl_HasPower.l0 k x0 x1 x2 (wrap64 (x7 + 1))))) else (some false)
end
def impl_HasPower.f (k : Nat) (l0 : List Int) (a1 : Int) (a2 : Int) : Option (Bool) := if (l0.length : Int) > 128 then (impl_HasPower.j0 k l0 a1 a2 true) else (if a1 < 2 then (impl_HasPower.j0 k l0 a1 a2 true) else (if a1 > 20 then (impl_HasPower.j0 k l0 a1 a2 true) else (if a2 < 1 then (impl_HasPower.j0 k l0 a1 a2 true) else (impl_HasPower.j0 k l0 a1 a2 (decide (a2 ≥ a1))))))
set_option maxHeartbeats 8000000 in
set_option maxRecDepth 100000 in
theorem impl_HasPower.calls (k : Nat) (A0 : Option Addr) (c0 : Nat) (l0 : List Int) (a1 : Int) (a2 : Int) (r : Bool) (w : World) (hr0 : Kd.C (Kd.int .i64) w A0 l0.length l0) (hc0 : l0.length ≤ c0) (h : impl_HasPower.f k l0 a1 a2 = some r) :
  Calls Try.prog 125 #[.slice A0 l0.length c0, .int .i64 a1, .int .i64 a2] w fun e w' => e = .returned (.bool r) ∧ Below w.heap.size w w' := by
 have HR0 := am hr0; have HC0 := am hc0; clear hr0 hc0; have HB := am (Below.refl w.heap.size w); have H : (if (l0.length : Int) > 128 then (impl_HasPower.j0 k l0 a1 a2 true) else (if a1 < 2 then (impl_HasPower.j0 k l0 a1 a2 true) else (if a1 > 20 then (impl_HasPower.j0 k l0 a1 a2 true) else (if a2 < 1 then (impl_HasPower.j0 k l0 a1 a2 true) else (impl_HasPower.j0 k l0 a1 a2 (decide (a2 ≥ a1))))))) = some r := h; clear h; have HC4 := am H; clear H; go_enter Try.func125, Try.ntmps125; go_upto_region 1 with (fail); go_cut [27] (fun v27 wc => ∃ (kq : Nat) (x27_3 : Bool), v27 = .bool x27_3 ∧ Aside0 (impl_HasPower.j0 kq l0 a1 a2 x27_3 = some r) ∧ Aside0 (kq ≤ k) ∧ Aside0 (Below w.heap.size w wc))
 case first =>
  have H := HC4.out; clear HC4; by_cases c5 : (l0.length : Int) > 128
  ·rw [if_pos c5] at H; have c5b0 : decide (128 < (l0.length : Int)) = true := decide_eq_true c5; have c5b1 : decide (128 < l0.length) = true := decide_eq_true (by omega); clear c5
   (first | rw [c5b0] | (simp only [i64_w, i32_w]; rw [c5b0]) | skip)
   have H' := am H; clear H; go_wp2; go_meet
   case rel => exact ⟨_, (true), (by first | rfl | (simp; done) | (simp [*]; done)), H', ⟨by first | omega | exact Nat.le_refl _⟩, ⟨by exact rB HB⟩⟩
  ·rw [if_neg c5] at H; have c5b0 : decide (128 < (l0.length : Int)) = false := decide_eq_false c5; have c5b1 : decide (128 < l0.length) = false := decide_eq_false (by omega); clear c5
   (first | rw [c5b0] | (simp only [i64_w, i32_w]; rw [c5b0]) | skip)
   by_cases c6 : a1 < 2
   ·rw [if_pos c6] at H; have c6b0 : decide (a1 < 2) = true := decide_eq_true c6; clear c6; have H' := am H; clear H; go_wp2; go_meet
    case rel => exact ⟨_, (true), (by first | rfl | (simp; done) | (simp [*]; done)), H', ⟨by first | omega | exact Nat.le_refl _⟩, ⟨by exact rB HB⟩⟩
   ·rw [if_neg c6] at H; have c6b0 : decide (a1 < 2) = false := decide_eq_false c6; clear c6; by_cases c7 : a1 > 20
    ·rw [if_pos c7] at H; have c7b0 : decide (20 < a1) = true := decide_eq_true c7; clear c7; have H' := am H; clear H; go_wp2; go_meet
     case rel => exact ⟨_, (true), (by first | rfl | (simp; done) | (simp [*]; done)), H', ⟨by first | omega | exact Nat.le_refl _⟩, ⟨by exact rB HB⟩⟩
    ·rw [if_neg c7] at H; have c7b0 : decide (20 < a1) = false := decide_eq_false c7; clear c7; by_cases c8 : a2 < 1
     ·rw [if_pos c8] at H; have c8b0 : decide (a2 < 1) = true := decide_eq_true c8; clear c8; have H' := am H; clear H; go_wp2; go_meet
      case rel => exact ⟨_, (true), (by first | rfl | (simp; done) | (simp [*]; done)), H', ⟨by first | omega | exact Nat.le_refl _⟩, ⟨by exact rB HB⟩⟩
     ·rw [if_neg c8] at H; have c8b0 : decide (a2 < 1) = false := decide_eq_false c8; clear c8; have H' := am H; clear H; go_wp2; go_meet
      case rel => exact ⟨_, (decide (a2 ≥ a1)), (by first | rfl | (simp; done) | (simp [*]; done)), H', ⟨by first | omega | exact Nat.le_refl _⟩, ⟨by exact rB HB⟩⟩
 case rest =>
  clear HC4
  try clear c1
  try clear p2
  try clear c5
  try clear c5b0
  try clear c5b1
  try clear c6
  try clear c6b0
  try clear c7
  try clear c7b0
  try clear c8
  try clear c8b0
  obtain ⟨kq, x27_3, rfl, HA, HJ3, HB⟩ := hcut; cases kq with
  | zero => exact absurd HA.out (by simp [impl_HasPower.j0])
  | succ kj3 =>
   have H := HA.out; clear HA; simp only [impl_HasPower.j0] at H; by_cases c9 : x27_3 = true
   ·subst c9; have H1 : (some false) = some r := by rw [if_pos rfl] at H; exact H
    clear H; have H := H1; clear H1; obtain rfl := Option.some.inj H; go_wp2; go_ret; exact ⟨by first | rfl | (simp [errW_none, errW_some] <;> rfl) | (simp [*, errW_none, errW_some] <;> rfl), by exact rB HB⟩
   ·replace c9 := Bool.eq_false_iff.mpr c9; subst c9; have H1 : (impl_HasPower.l0 kj3 l0 a1 a2 1) = some r := by rw [if_neg (show ¬ (false = true) by decide)] at H; exact H
    clear H; have H := H1; clear H1; have H' := am H; clear H; go_wp2; go_loopg [7] kj3 (fun kq v7 w' => ∃ (x7_2 : Int), v7 = .int .i64 x7_2 ∧ Aside0 (impl_HasPower.l0 kq l0 a1 a2 x7_2 = some r) ∧ Aside0 (kq ≤ kj3) ∧ Aside0 (Below w.heap.size w w'))
    case atStart => exact ⟨(1), (by first | rfl | (simp; done) | (simp [*]; done)), H', ⟨Nat.le_refl _⟩, ⟨by exact rB HB⟩⟩
    case round =>
     clear H'
     try clear c1
     try clear p2
     try clear c5
     try clear c5b0
     try clear c5b1
     try clear c6
     try clear c6b0
     try clear c7
     try clear c7b0
     try clear c8
     try clear c8b0
     try clear c9
     try clear p2
     obtain ⟨x7_2, rfl, HA, HK2, HB⟩ := hrel; cases gk with
     | zero => exact absurd HA.out (by simp [impl_HasPower.l0])
     | succ k2 =>
      have H := HA.out; clear HA; simp only [impl_HasPower.l0] at H; by_cases c10 : x7_2 ≤ (l0.length : Int)
      ·rw [if_pos c10] at H; have c10b0 : decide (x7_2 ≤ (l0.length : Int)) = true := decide_eq_true c10; clear c10; replace H := bE H; obtain ⟨t558, A110, H⟩ := H; replace H : (if (wrap64 (t558 * a2)) ≥ (wrap64 (a1 * x7_2)) then (some true) else (impl_HasPower.l0 k2 l0 a1 a2 (wrap64 (x7_2 + 1)))) = some r := H; have A11 := am A110; clear A110; by_cases c12 : (wrap64 (t558 * a2)) ≥ (wrap64 (a1 * x7_2))
       ·rw [if_pos c12] at H; have c12b0 : decide ((wrap64 (a1 * x7_2)) ≤ (wrap64 (t558 * a2))) = true := decide_eq_true c12; clear c12; obtain rfl := Option.some.inj H; go_wp2_with (first | ((with_reducible refine gate_callee (f := 124) rfl ?_); refine goesL_ (some 36) rfl rfl Try.func124 (by kernel_rfl) rfl #[.slice A0 l0.length c0, .int .i64 x7_2] rfl (by (try simp only [mT, mC, mN]); first | done | rfl) ?_; (with_reducible refine (impl_longestRepeat.calls k2 _ _ l0 x7_2 t558 _ ?side1 ?side2 A11.out).mono ?_); (case side1 => exact xC ((Kd.C_below HR0.out HB.out))); (case side2 => exact HC0.out); rintro e w13 ⟨rfl, hb⟩; refine ⟨_, rfl, ?_⟩; replace HB := bS HB hb; clear hb)); go_ret; exact ⟨by first | rfl | (simp [errW_none, errW_some] <;> rfl) | (simp [*, errW_none, errW_some] <;> rfl), by exact rB HB⟩
       ·rw [if_neg c12] at H; have c12b0 : decide ((wrap64 (a1 * x7_2)) ≤ (wrap64 (t558 * a2))) = false := decide_eq_false c12; clear c12; have H' := am H; clear H; go_wp2_with (first | ((with_reducible refine gate_callee (f := 124) rfl ?_); refine goesL_ (some 36) rfl rfl Try.func124 (by kernel_rfl) rfl #[.slice A0 l0.length c0, .int .i64 x7_2] rfl (by (try simp only [mT, mC, mN]); first | done | rfl) ?_; (with_reducible refine (impl_longestRepeat.calls k2 _ _ l0 x7_2 t558 _ ?side1 ?side2 A11.out).mono ?_); (case side1 => exact xC ((Kd.C_below HR0.out HB.out))); (case side2 => exact HC0.out); rintro e w14 ⟨rfl, hb⟩; refine ⟨_, rfl, ?_⟩; replace HB := bS HB hb; clear hb)); go_roundg k2
        case measure => have := HJ3.out; have := HK2.out; omega
        case rel => exact ⟨(wrap64 (x7_2 + 1)), (by first | rfl | (simp; done) | (simp [*]; done)), H', ⟨by have := HJ3.out; have := HK2.out; omega⟩, ⟨by exact rB HB⟩⟩
      ·rw [if_neg c10] at H; have c10b0 : decide (x7_2 ≤ (l0.length : Int)) = false := decide_eq_false c10; clear c10; obtain rfl := Option.some.inj H; go_wp2; go_ret; exact ⟨by first | rfl | (simp [errW_none, errW_some] <;> rfl) | (simp [*, errW_none, errW_some] <;> rfl), by exact rB HB⟩
def impl_HasSquare.f (k : Nat) (l0 : List Int) : Option (Bool) := (impl_HasPower.f k l0 2 1).bind fun t559 => (some t559)
set_option maxHeartbeats 8000000 in
set_option maxRecDepth 100000 in
theorem impl_HasSquare.calls (k : Nat) (A0 : Option Addr) (c0 : Nat) (l0 : List Int) (r : Bool) (w : World) (hr0 : Kd.C (Kd.int .i64) w A0 l0.length l0) (hc0 : l0.length ≤ c0) (h : impl_HasSquare.f k l0 = some r) :
  Calls Try.prog 53 #[.slice A0 l0.length c0] w fun e w' => e = .returned (.bool r) ∧ Below w.heap.size w w' := by
 have HR0 := am hr0; have HC0 := am hc0; clear hr0 hc0; have HB := am (Below.refl w.heap.size w); have H : ((impl_HasPower.f k l0 2 1).bind fun t559 => (some t559)) = some r := h; clear h; replace H := bE H; obtain ⟨t559, A20, H⟩ := H; replace H : (some t559) = some r := H; have A2 := am A20; clear A20; obtain rfl := Option.some.inj H; go_enter Try.func53, Try.ntmps53; go_wp2_with (first | ((with_reducible refine gate_callee (f := 125) rfl ?_); refine goesL_ (some 4) rfl rfl Try.func125 (by kernel_rfl) rfl #[.slice A0 l0.length c0, .int .i64 2, .int .i64 1] rfl (by (try simp only [mT, mC, mN]); first | done | rfl) ?_; (with_reducible refine (impl_HasPower.calls k _ _ l0 2 1 t559 _ ?side1 ?side2 A2.out).mono ?_); (case side1 => exact xC (HR0.out)); (case side2 => exact HC0.out); rintro e w3 ⟨rfl, hb⟩; refine ⟨_, rfl, ?_⟩; replace HB := bS HB hb; clear hb)); go_ret; exact ⟨by first | rfl | (simp [errW_none, errW_some] <;> rfl) | (simp [*, errW_none, errW_some] <;> rfl), by exact rB HB⟩
end Go.Proofs.Ytooamcjgejajeaa.M
/- Powers, squares and overlaps in a word: program and reference find the same. No condition. -/
namespace Go.Proofs.Ytooamcjgejajeaa.M
open Go.RowKit Go.Proofs.YtooamcjgejajeaaW.PrintWords Go.Proofs.YtooamcjgejajeaaW.PrintMore Go.Proofs.Ytooamcjgejajeaa.K
/-- L letters from i on are those p further on. -/
def per (w : List Int) (p i L : Nat) : Prop := ∀ t, t < L → i + t + p < w.length ∧ w.getD (i + t) 0 = w.getD (i + t + p) 0
theorem per_zero (w : List Int) (p i : Nat) : per w p i 0 := fun t h => by omega
theorem per_le {w : List Int} {p i L M : Nat} (h : per w p i L) (hm : M ≤ L) : per w p i M := fun t ht => h t (by omega)
theorem per_succ {w : List Int} {p i L : Nat} (h : per w p i L) (h1 : i + L + p < w.length) (h2 : w.getD (i + L) 0 = w.getD (i + L + p) 0) : per w p i (L + 1) := fun t ht => by
 by_cases e : t = L
 ·subst e; exact ⟨h1, h2⟩
 ·exact h t (by omega)
theorem per_bound {w : List Int} {p i L : Nat} (h : per w p i L) (hl : 0 < L) : i + L + p ≤ w.length := by
 have := (h (L - 1) (by omega)).1; omega
theorem rd_nat (xs : List Int) (n : Int) (i : Nat) (h : n = (i : Int)) : rd xs n = xs.getD i 0 := by rw [h, rd_at]
theorem l10_ev (w : List Int) (i p : Nat) (hp : 1 ≤ p) (hw : w.length ≤ 1048576) (hip : i + p < w.length) : ∃ M : Nat, per w p i M ∧ ¬ per w p i (M + 1) ∧ Ev (fun k => spec_l10Match.f k w (i : Int) (p : Int)) ((p + M : Nat) : Int) := by
 have key : ∀ d t, i + p + t + d = w.length → per w p i t → ∃ M : Nat, per w p i M ∧ ¬ per w p i (M + 1) ∧ Ev (fun k => spec_l10Match.l0 k w (i : Int) (p : Int) ((p + t : Nat) : Int)) ((p + M : Nat) : Int) := by
  intro d
  induction d with
  | zero =>
   intro t hd ht; refine ⟨t, ht, fun h => by have := per_bound h (by omega); omega, ?_⟩; refine Ev.step (fun k => by simp only [spec_l10Match.l0]; rw [w_id (by omega) (by omega), _root_.if_neg (by omega)]) (Ev.same (Ev.some _) ?_); unfold mn; rw [w_id (by omega) (by omega)]; split <;> omega
  | succ d ih =>
   intro t hd ht; by_cases q : w.getD (i + t) 0 = w.getD (i + t + p) 0
   ·obtain ⟨M, h1, h2, h3⟩ := ih (t + 1) (by omega) (per_succ ht (by omega) q); refine ⟨M, h1, h2, ?_⟩
    refine Ev.step (fun k => by
     simp only [spec_l10Match.l0]
     rw [w_id (a := (i : Int) + ((p + t : Nat) : Int)) (by omega) (by omega), w_id (a := (i : Int) + ((p + t : Nat) : Int) - (p : Int)) (by omega) (by omega), _root_.if_pos (by omega), _root_.if_pos (by omega), _root_.if_pos (by omega), _root_.if_pos (by omega),
      _root_.if_pos (by rw [rd_nat w _ (i + t + p) (by omega), rd_nat w _ (i + t) (by omega), q]), wsucc (by omega)]; rfl) h3
   ·refine ⟨t, ht, fun h => q (h t (by omega)).2, ?_⟩
    refine Ev.step (fun k => by
     simp only [spec_l10Match.l0]
     rw [w_id (a := (i : Int) + ((p + t : Nat) : Int)) (by omega) (by omega), w_id (a := (i : Int) + ((p + t : Nat) : Int) - (p : Int)) (by omega) (by omega), _root_.if_pos (by omega), _root_.if_pos (by omega), _root_.if_pos (by omega), _root_.if_pos (by omega),
      _root_.if_neg (by rw [rd_nat w _ (i + t + p) (by omega), rd_nat w _ (i + t) (by omega)]; exact fun e => q e.symm)]) (Ev.same (Ev.some _) ?_)
    unfold mn; rw [w_id (by omega) (by omega)]; split <;> omega
 obtain ⟨M, h1, h2, h3⟩ := key (w.length - (i + p)) 0 (by omega) (per_zero _ _ _); exact ⟨M, h1, h2, h3⟩
theorem longest_ev (w : List Int) (p : Nat) (hp : 1 ≤ p) (hw : w.length ≤ 1048576) (hpl : p ≤ w.length) : ∃ M : Nat, M ≤ w.length ∧ (∃ i, per w p i M) ∧ (∀ i L, per w p i L → L ≤ M) ∧ Ev (fun k => impl_longestRepeat.f k w (p : Int)) ((M + p : Nat) : Int) := by
 have key : ∀ d i b c : Nat, i + p + d = w.length → c ≤ i → per w p (i - c) c → (∀ j L, j + L = i → per w p j L → L ≤ c) → (∃ j, per w p j b) → (∀ j L, j + L ≤ i → per w p j L → L ≤ b) → b ≤ i →
   ∃ M : Nat, M ≤ w.length ∧ (∃ i, per w p i M) ∧ (∀ i L, per w p i L → L ≤ M) ∧ Ev (fun k => impl_longestRepeat.l0 k w (p : Int) (b : Int) (c : Int) (i : Int)) ((M + p : Nat) : Int) := by
  intro d
  induction d with
  | zero =>
   intro i b c hd hci h1 h2 h3 h4 hbi; refine ⟨b, by omega, h3, fun j L h => ?_, ?_⟩
   ·by_cases hL : L = 0
    ·omega
    ·exact h4 j L (by have := per_bound h (by omega); omega) h
   ·refine Ev.step (fun k => by simp only [impl_longestRepeat.l0]; rw [w_id (a := (i : Int) + (p : Int)) (by omega) (by omega), _root_.if_neg (by omega)]) (Ev.same (Ev.some _) ?_); rw [w_id (by omega) (by omega)]; omega
  | succ d ih =>
   intro i b c hd hci h1 h2 h3 h4 hbi; by_cases q : w.getD i 0 = w.getD (i + p) 0
   ·have hc1 : per w p (i + 1 - (c + 1)) (c + 1) := by
     rw [show i + 1 - (c + 1) = i - c from by omega]; exact per_succ h1 (by omega) (by rw [show i - c + c = i from by omega]; exact q)
    have hc2 : ∀ j L, j + L = i + 1 → per w p j L → L ≤ c + 1 := fun j L hj h => by
     by_cases hL : L = 0
     ·omega
     ·have := h2 j (L - 1) (by omega) (per_le h (by omega)); omega
    obtain ⟨M, g0, g1, g2, g3⟩ := ih (i + 1) (if b < c + 1 then c + 1 else b) (c + 1) (by omega) (by omega) hc1 hc2
     (by split <;> first | exact h3 | exact ⟨_, hc1⟩)
     (fun j L hj h => by
      by_cases e : j + L = i + 1
      ·have := hc2 j L e h; split <;> omega
      ·have := h4 j L (by omega) h; split <;> omega) (by split <;> omega)
    refine ⟨M, g0, g1, g2, ?_⟩
    refine Ev.step (fun k => by
     simp only [impl_longestRepeat.l0]
     rw [w_id (a := (i : Int) + (p : Int)) (by omega) (by omega), _root_.if_pos (by omega), _root_.if_pos (by omega), _root_.if_pos (by omega), _root_.if_pos (by omega),
      _root_.if_pos (by rw [rd_at, rd_nat w _ (i + p) (by omega), q]), wsucc (by omega), wsucc (by omega),
      show mx (b : Int) ((c + 1 : Nat) : Int) = ((if b < c + 1 then c + 1 else b : Nat) : Int) from by unfold mx; split <;> split <;> omega]) g3
   ·have hc2 : ∀ j L, j + L = i + 1 → per w p j L → L = 0 := fun j L hj h => by
     by_cases hL : L = 0
     ·exact hL
     ·have := (h (L - 1) (by omega)).2; rw [show j + (L - 1) = i from by omega] at this; exact absurd this q
    obtain ⟨M, g0, g1, g2, g3⟩ := ih (i + 1) b 0 (by omega) (by omega) (per_zero _ _ _) (fun j L hj h => by have := hc2 j L hj h; omega) h3
     (fun j L hj h => by
      by_cases e : j + L = i + 1
      ·have := hc2 j L e h; omega
      ·exact h4 j L (by omega) h) (by omega)
    refine ⟨M, g0, g1, g2, ?_⟩
    refine Ev.step (fun k => by
     simp only [impl_longestRepeat.l0]
     rw [w_id (a := (i : Int) + (p : Int)) (by omega) (by omega), _root_.if_pos (by omega), _root_.if_pos (by omega), _root_.if_pos (by omega), _root_.if_pos (by omega),
      _root_.if_neg (by rw [rd_at, rd_nat w _ (i + p) (by omega)]; exact q), wsucc (by omega)]; rfl) g3
 have := key (w.length - p) 0 0 0 (by omega) (Nat.le_refl _) (per_zero _ _ _) (fun j L h _ => by omega) ⟨0, per_zero _ _ _⟩ (fun j L h _ => by omega) (Nat.le_refl _); exact this
/-- There is a part that is long enough against one of its periods. -/
def PW (w : List Int) (a b : Nat) : Prop := w.length ≤ 128 ∧ ∃ i p L, 1 ≤ p ∧ i + p < w.length ∧ per w p i L ∧ p * a ≤ (p + L) * b
open Classical in
noncomputable def hasPower (w : List Int) (a b : Nat) : Bool := decide (PW w a b)
open Classical in
theorem hasPower_iff (w : List Int) (a b : Nat) : hasPower w a b = true ↔ PW w a b := by unfold hasPower; exact decide_eq_true_iff
theorem hasPower_no (w : List Int) (a b : Nat) (h : ¬ PW w a b) : hasPower w a b = false := Bool.eq_false_iff.2 (fun q => h ((hasPower_iff w a b).1 q))
def OV (w : List Int) : Prop := w.length ≤ 128 ∧ ∃ i p L, 1 ≤ p ∧ per w p i L ∧ p < L
open Classical in
noncomputable def hasOverlap (w : List Int) : Bool := decide (OV w)
open Classical in
theorem hasOverlap_iff (w : List Int) : hasOverlap w = true ↔ OV w := by unfold hasOverlap; exact decide_eq_true_iff
theorem hasOverlap_no (w : List Int) (h : ¬ OV w) : hasOverlap w = false := Bool.eq_false_iff.2 (fun q => h ((hasOverlap_iff w).1 q))
theorem l1In_val (a b c : Int) : spec_l1In.f a b c = some (decide (b ≤ a ∧ a ≤ c)) := by
 unfold spec_l1In.f; by_cases q : a ≥ b
 ·rw [_root_.if_pos q]; simp [q]
 ·rw [_root_.if_neg q]; simp; omega
theorem specPower_ev (w : List Int) (a b : Nat) (ha : 2 ≤ a ∧ a ≤ 20) (hb : 1 ≤ b ∧ b < a) (hw : w.length ≤ 1048576) : Ev (fun k => spec_HasPower.f k w (a : Int) (b : Int)) (hasPower w a b) := by
 unfold spec_HasPower.f; refine Ev.bind (Ev.val (l1In_val _ _ _)) ?_; rw [decide_eq_true (by omega)]; refine Ev.if_pos rfl ?_; refine Ev.bind (Ev.val (l1In_val _ _ _)) ?_; rw [w_id (by omega) (by omega), decide_eq_true (by omega)]; refine Ev.step (fun k => by simp only [spec_HasPower.j0]; rw [_root_.if_neg (by decide)]) ?_; by_cases h128 : w.length ≤ 128
 ·have inner : ∀ (i : Nat) (r : Bool), i < w.length → (r = true → PW w a b) → ((∀ p L, 1 ≤ p → i + p < w.length → per w p i L → ¬ p * a ≤ (p + L) * b) → Ev (fun k => spec_HasPower.l0 k w (a : Int) (b : Int) ((i + 1 : Nat) : Int)) r) → (r = false → ∀ p L, 1 ≤ p → i + p < w.length → per w p i L → ¬ p * a ≤ (p + L) * b) →
    ∀ d p, p + d = w.length → 1 ≤ p → (∀ q L, 1 ≤ q → q < p → i + q < w.length → per w q i L → ¬ q * a ≤ (q + L) * b) → Ev (fun k => spec_HasPower.l1 k w (a : Int) (b : Int) (i : Int) (p : Int)) r := by
   intro i r hi hr0 hr hr1 d
   induction d with
   | zero =>
    intro p hpd hp hno; refine Ev.step (fun k => by simp only [spec_HasPower.l1]; rw [w_id (a := (i : Int) + (p : Int)) (by omega) (by omega), _root_.if_neg (by omega), wsucc (by omega)]) (hr (fun q L h1 h2 h3 => hno q L h1 (by omega) h2 h3))
   | succ d ih =>
    intro p hpd hp hno; by_cases q : i + p < w.length
    ·obtain ⟨M, g1, g2, g3⟩ := l10_ev w i p hp hw q; refine Ev.step (fun k => by simp only [spec_HasPower.l1]; rw [w_id (a := (i : Int) + (p : Int)) (by omega) (by omega), _root_.if_pos (by omega)]) ?_; have hMw : M ≤ w.length := by
      by_cases e : M = 0
      ·omega
      ·have := per_bound g1 (by omega); omega
     refine Ev.bind g3 ?_; have e1 : wrap64 (((p + M : Nat) : Int) * (b : Int)) = (((p + M) * b : Nat) : Int) := by
      have h2 : (p + M) * b ≤ 256 * 20 := Nat.mul_le_mul (show p + M ≤ 256 from by omega) (show b ≤ 20 from by omega); have h3 : (p + M) * b ≤ 100000 := Nat.le_trans h2 (by decide); clear h2; rw [← Int.natCast_mul]; exact w_id (by omega) (by omega)
     have e2 : wrap64 ((p : Int) * (a : Int)) = ((p * a : Nat) : Int) := by
      have h2 : p * a ≤ 256 * 20 := Nat.mul_le_mul (show p ≤ 256 from by omega) (show a ≤ 20 from by omega); have h3 : p * a ≤ 100000 := Nat.le_trans h2 (by decide); clear h2; rw [← Int.natCast_mul]; exact w_id (by omega) (by omega)
     rw [e1, e2]; refine Ev.ite (fun c => ?_) (fun c => ?_)
     ·refine Ev.same (Ev.some true) ?_; cases r with
      | true => rfl
      | false => exact absurd (Int.ofNat_le.1 c) (hr1 rfl p M hp q g1)
     ·refine Ev.congr (fun k => by rw [wsucc (by omega)]) (ih (p + 1) (by omega) (by omega) (fun q' L h1 h2 h3 h4 h5 => ?_)); by_cases e : q' = p
      ·subst e; have hLM : L ≤ M := by
        rcases Nat.lt_or_ge M L with hlt | hge
        ·exact absurd (per_le h4 (show M + 1 ≤ L from hlt)) g2
        ·exact hge
       exact c (Int.ofNat_le.2 (Nat.le_trans h5 (Nat.mul_le_mul_right b (Nat.add_le_add_left hLM q'))))
      ·exact hno q' L h1 (by omega) h3 h4 h5
    ·refine Ev.step (fun k => by simp only [spec_HasPower.l1]; rw [w_id (a := (i : Int) + (p : Int)) (by omega) (by omega), _root_.if_neg (by omega), wsucc (by omega)]) (hr (fun q' L h1 h2 h3 => hno q' L h1 (by omega) h2 h3))
  have outer : ∀ r : Bool, (r = true ↔ PW w a b) → ∀ i, i ≤ w.length → (∀ j p L, j < i → 1 ≤ p → j + p < w.length → per w p j L → ¬ p * a ≤ (p + L) * b) → Ev (fun k => spec_HasPower.l0 k w (a : Int) (b : Int) (i : Int)) r := by
   intro r hr; refine down w.length ?_ ?_
   ·intro hno; refine Ev.step (fun k => by simp only [spec_HasPower.l0]; rw [_root_.if_neg (by omega)]) ?_; refine Ev.step (fun k => by simp only [spec_HasPower.j2]; rw [_root_.if_neg (by decide)]) (Ev.same (Ev.some false) ?_); cases r with
    | false => rfl
    | true =>
     obtain ⟨_, i, p, L, h1, h2, h3, h4⟩ := hr.1 rfl; exact absurd h4 (hno i p L (by omega) h1 h2 h3)
   ·intro i hi ih hno; refine Ev.step (fun k => by simp only [spec_HasPower.l0]; rw [_root_.if_pos (by omega), decide_eq_true (by omega)]) ?_; refine Ev.step (fun k => by simp only [spec_HasPower.j2]; rw [_root_.if_pos trivial]) ?_; refine inner i r hi (fun e => hr.1 e) (fun h => ih (fun j p L hj h1 h2 h3 => ?_)) (fun e p L h1 h2 h3 h4 => ?_) (w.length - 1) 1 (by omega) (Nat.le_refl _) (fun q L h1 h2 => by omega)
    ·by_cases e : j = i
     ·subst e; exact h p L h1 h2 h3
     ·exact hno j p L (by omega) h1 h2 h3
    ·have := hr.2 ⟨h128, i, p, L, h1, h2, h3, h4⟩; rw [e] at this; cases this
  exact outer _ (hasPower_iff w a b) 0 (by omega) (fun j p L h => by omega)
 ·have hf : hasPower w a b = false := hasPower_no _ _ _ (fun h => h128 h.1); rw [hf]; refine Ev.step (fun k => by simp only [spec_HasPower.l0]; rw [_root_.if_pos (by omega), decide_eq_false (by omega)]) ?_; exact Ev.step (fun k => by simp only [spec_HasPower.j2]; rw [_root_.if_neg (by decide)]) (Ev.some _)
theorem implPower_ev (w : List Int) (a b : Nat) (ha : 2 ≤ a ∧ a ≤ 20) (hb : 1 ≤ b ∧ b < a) (hw : w.length ≤ 1048576) : Ev (fun k => impl_HasPower.f k w (a : Int) (b : Int)) (hasPower w a b) := by
 unfold impl_HasPower.f; refine Ev.ite (fun h => ?_) (fun h => ?_)
 ·have hf : hasPower w a b = false := hasPower_no _ _ _ (fun h => by have := h.1; omega); rw [hf]; exact Ev.step (fun k => by simp only [impl_HasPower.j0]; rw [_root_.if_pos trivial]) (Ev.some _)
 ·refine Ev.if_neg (by omega) (Ev.if_neg (by omega) (Ev.if_neg (by omega) ?_)); rw [decide_eq_false (by omega)]; refine Ev.step (fun k => by simp only [impl_HasPower.j0]; rw [_root_.if_neg (by decide)]) ?_; have key : ∀ r : Bool, (r = true ↔ PW w a b) → ∀ d p, p + d = w.length + 1 → 1 ≤ p → (∀ q i L, 1 ≤ q → q < p → i + q < w.length → per w q i L → ¬ q * a ≤ (q + L) * b) → Ev (fun k => impl_HasPower.l0 k w (a : Int) (b : Int) (p : Int)) r := by
   intro r hr d
   induction d with
   | zero =>
    intro p hpd hp hno; refine Ev.step (fun k => by simp only [impl_HasPower.l0]; rw [_root_.if_neg (by omega)]) (Ev.same (Ev.some false) ?_); cases r with
    | false => rfl
    | true =>
     obtain ⟨_, i, p', L, h1, h2, h3, h4⟩ := hr.1 rfl; exact absurd h4 (hno p' i L h1 (by omega) h2 h3)
   | succ d ih =>
    intro p hpd hp hno; obtain ⟨M, g0, ⟨i, g1⟩, g2, g3⟩ := longest_ev w p hp hw (by omega); refine Ev.step (fun k => by simp only [impl_HasPower.l0]; rw [_root_.if_pos (by omega)]) ?_; refine Ev.bind g3 ?_; have e1 : wrap64 (((M + p : Nat) : Int) * (b : Int)) = (((M + p) * b : Nat) : Int) := by
     have h2 : (M + p) * b ≤ 400 * 20 := Nat.mul_le_mul (show M + p ≤ 400 from by omega) (show b ≤ 20 from by omega); have h3 : (M + p) * b ≤ 100000 := Nat.le_trans h2 (by decide); clear h2; rw [← Int.natCast_mul]; exact w_id (by omega) (by omega)
    have e2 : wrap64 ((a : Int) * (p : Int)) = ((p * a : Nat) : Int) := by
     have h2 : p * a ≤ 256 * 20 := Nat.mul_le_mul (show p ≤ 256 from by omega) (show a ≤ 20 from by omega); have h3 : p * a ≤ 100000 := Nat.le_trans h2 (by decide); clear h2; rw [Int.mul_comm, ← Int.natCast_mul]; exact w_id (by omega) (by omega)
    rw [e1, e2]; refine Ev.ite (fun c => ?_) (fun c => ?_)
    ·refine Ev.same (Ev.some true) ?_; symm; refine hr.2 ⟨by omega, ?_⟩; by_cases hM : M = 0
     ·subst hM; have h7 := Nat.mul_lt_mul_of_pos_left hb.2 (show 0 < p from hp); rw [Nat.zero_add] at c; exact absurd (Int.ofNat_le.1 c) (Nat.not_le.2 h7)
     ·have := per_bound g1 (by omega); exact ⟨i, p, M, hp, by omega, g1, by rw [Nat.add_comm p M]; exact Int.ofNat_le.1 c⟩
    ·refine Ev.congr (fun k => by rw [wsucc (by omega)]) (ih (p + 1) (by omega) (by omega) (fun q' j L h1 h2 h3 h4 h5 => ?_)); by_cases e : q' = p
     ·subst e; exact c (Int.ofNat_le.2 (Nat.le_trans h5 (Nat.mul_le_mul_right b (by rw [Nat.add_comm M]; exact Nat.add_le_add_left (g2 j L h4) q'))))
     ·exact hno q' j L h1 (by omega) h3 h4 h5
  exact key _ (hasPower_iff w a b) w.length 1 (by omega) (Nat.le_refl _) (fun q i L h1 h2 => by omega)
theorem specSquare_ev (w : List Int) (hw : w.length ≤ 1048576) : Ev (fun k => spec_HasSquare.f k w) (hasPower w 2 1) := by
 unfold spec_HasSquare.f; exact Ev.bind (specPower_ev w 2 1 (by omega) (by omega) hw) (Ev.some _)
theorem implSquare_ev (w : List Int) (hw : w.length ≤ 1048576) : Ev (fun k => impl_HasSquare.f k w) (hasPower w 2 1) := by
 unfold impl_HasSquare.f; exact Ev.bind (implPower_ev w 2 1 (by omega) (by omega) hw) (Ev.some _)
theorem implOverlap_ev (w : List Int) (hw : w.length ≤ 1048576) : Ev (fun k => impl_HasOverlap.f k w) (hasOverlap w) := by
 unfold impl_HasOverlap.f; refine Ev.ite (fun h => ?_) (fun h => ?_)
 ·have hf : hasOverlap w = false := hasOverlap_no _ (fun h => by have := h.1; omega); rw [hf]; exact Ev.some _
 ·have key : ∀ r : Bool, (r = true ↔ OV w) → ∀ d p, p + d = w.length + 1 → 1 ≤ p → (∀ q i L, 1 ≤ q → q < p → per w q i L → ¬ q < L) → Ev (fun k => impl_HasOverlap.l0 k w (p : Int)) r := by
   intro r hr d
   induction d with
   | zero =>
    intro p hpd hp hno; refine Ev.step (fun k => by simp only [impl_HasOverlap.l0]; rw [_root_.if_neg (by omega)]) (Ev.same (Ev.some false) ?_); cases r with
    | false => rfl
    | true =>
     obtain ⟨_, i, p', L, h1, h3, h4⟩ := hr.1 rfl; exact absurd h4 (hno p' i L h1 (by have := per_bound h3 (by omega); omega) h3)
   | succ d ih =>
    intro p hpd hp hno; obtain ⟨M, g0, ⟨i, g1⟩, g2, g3⟩ := longest_ev w p hp hw (by omega); refine Ev.step (fun k => by simp only [impl_HasOverlap.l0]; rw [_root_.if_pos (by omega)]) ?_; refine Ev.bind g3 ?_; rw [w_id (a := 2 * (p : Int)) (by omega) (by omega)]; refine Ev.ite (fun c => ?_) (fun c => ?_)
    ·refine Ev.same (Ev.some true) ?_; symm; exact hr.2 ⟨by omega, i, p, M, hp, g1, by omega⟩
    ·refine Ev.congr (fun k => by rw [wsucc (by omega)]) (ih (p + 1) (by omega) (by omega) (fun q' j L h1 h2 h4 h5 => ?_)); by_cases e : q' = p
     ·subst e; have := g2 j L h4; omega
     ·exact hno q' j L h1 (by omega) h4 h5
  exact key _ (hasOverlap_iff w) w.length 1 (by omega) (Nat.le_refl _) (fun q i L h1 h2 => by omega)
theorem specOverlap_ev (w : List Int) (hw : w.length ≤ 1048576) : Ev (fun k => spec_HasOverlap.f k w) (hasOverlap w) := by
 unfold spec_HasOverlap.f; by_cases h128 : w.length ≤ 128
 ·have inner : ∀ (i : Nat) (r : Bool), i < w.length → ((∀ p L, 1 ≤ p → per w p i L → ¬ p < L) → Ev (fun k => spec_HasOverlap.l0 k w ((i + 1 : Nat) : Int)) r) → (r = false → ∀ p L, 1 ≤ p → per w p i L → ¬ p < L) →
    ∀ d p, p + d = w.length → 1 ≤ p → (∀ q L, 1 ≤ q → q < p → per w q i L → ¬ q < L) → Ev (fun k => spec_HasOverlap.l1 k w (i : Int) (p : Int)) r := by
   intro i r hi hr hr1 d; have big : ∀ q L, w.length ≤ i + 2 * q → per w q i L → ¬ q < L := fun q L h1 h2 h3 => by have := per_bound h2 (by omega); omega
   induction d with
   | zero =>
    intro p hpd hp hno; refine Ev.step (fun k => by simp only [spec_HasOverlap.l1]; rw [w_id (a := 2 * (p : Int)) (by omega) (by omega), w_id (a := (i : Int) + (2 * (p : Int))) (by omega) (by omega), _root_.if_neg (by omega), wsucc (by omega)]) (hr (fun q L h1 h3 => ?_)); by_cases e : q < p
    ·exact hno q L h1 e h3
    ·exact big q L (by omega) h3
   | succ d ih =>
    intro p hpd hp hno; by_cases q : i + 2 * p < w.length
    ·obtain ⟨M, g1, g2, g3⟩ := l10_ev w i p hp hw (by omega); refine Ev.step (fun k => by simp only [spec_HasOverlap.l1]; rw [w_id (a := 2 * (p : Int)) (by omega) (by omega), w_id (a := (i : Int) + (2 * (p : Int))) (by omega) (by omega), _root_.if_pos (by omega)]) ?_; refine Ev.bind g3 ?_; refine Ev.ite (fun c => ?_) (fun c => ?_)
     ·refine Ev.same (Ev.some true) ?_; cases r with
      | true => rfl
      | false => exact absurd (show p < M by omega) (hr1 rfl p M hp g1)
     ·refine Ev.congr (fun k => by rw [wsucc (by omega)]) (ih (p + 1) (by omega) (by omega) (fun q' L h1 h2 h4 h5 => ?_)); by_cases e : q' = p
      ·subst e; rcases Nat.lt_or_ge M L with hlt | hge
       ·exact absurd (per_le h4 (show M + 1 ≤ L from hlt)) g2
       ·omega
      ·exact hno q' L h1 (by omega) h4 h5
    ·refine Ev.step (fun k => by simp only [spec_HasOverlap.l1]; rw [w_id (a := 2 * (p : Int)) (by omega) (by omega), w_id (a := (i : Int) + (2 * (p : Int))) (by omega) (by omega), _root_.if_neg (by omega), wsucc (by omega)]) (hr (fun q' L h1 h3 => ?_)); by_cases e : q' < p
     ·exact hno q' L h1 e h3
     ·exact big q' L (by omega) h3
  have outer : ∀ r : Bool, (r = true ↔ OV w) → ∀ i, i ≤ w.length → (∀ j p L, j < i → 1 ≤ p → per w p j L → ¬ p < L) → Ev (fun k => spec_HasOverlap.l0 k w (i : Int)) r := by
   intro r hr; refine down w.length ?_ ?_
   ·intro hno; refine Ev.step (fun k => by simp only [spec_HasOverlap.l0]; rw [_root_.if_neg (by omega)]) ?_; refine Ev.step (fun k => by simp only [spec_HasOverlap.j1]; rw [_root_.if_neg (by decide)]) (Ev.same (Ev.some false) ?_); cases r with
    | false => rfl
    | true =>
     obtain ⟨_, i, p, L, h1, h3, h4⟩ := hr.1 rfl; exact absurd h4 (hno i p L (by have := per_bound h3 (by omega); omega) h1 h3)
   ·intro i hi ih hno; refine Ev.step (fun k => by simp only [spec_HasOverlap.l0]; rw [_root_.if_pos (by omega), decide_eq_true (by omega)]) ?_; refine Ev.step (fun k => by simp only [spec_HasOverlap.j1]; rw [_root_.if_pos trivial]) ?_; refine inner i r hi (fun h => ih (fun j p L hj h1 h3 => ?_)) (fun e p L h1 h3 h4 => ?_) (w.length - 1) 1 (by omega) (Nat.le_refl _) (fun q L h1 h2 => by omega)
    ·by_cases e : j = i
     ·subst e; exact h p L h1 h3
     ·exact hno j p L (by omega) h1 h3
    ·have := hr.2 ⟨h128, i, p, L, h1, h3, h4⟩; rw [e] at this; cases this
  exact outer _ (hasOverlap_iff w) 0 (by omega) (fun j p L h => by omega)
 ·have hf : hasOverlap w = false := hasOverlap_no _ (fun h => h128 h.1); rw [hf]; refine Ev.step (fun k => by simp only [spec_HasOverlap.l0]; rw [_root_.if_pos (by omega), decide_eq_false (by omega)]) ?_; exact Ev.step (fun k => by simp only [spec_HasOverlap.j1]; rw [_root_.if_neg (by decide)]) (Ev.some _)
end Go.Proofs.Ytooamcjgejajeaa.M
/- What the laws' own small functions on rows of rows come to. No condition but lengths that fit. -/
namespace Go.Proofs.Ytooamcjgejajeaa.M
open Go.RowKit Go.Proofs.YtooamcjgejajeaaW.PrintWords Go.Proofs.Ytooamcjgejajeaa.K
theorem rdLL (xs : List (List Int)) (i : Nat) (h : i < xs.length) : rd_L1 xs (i : Int) = xs[i] := by
 unfold rd_L1; rw [Int.toNat_natCast, List.getD_eq_getElem?_getD, List.getElem?_eq_getElem h]; rfl
end Go.Proofs.Ytooamcjgejajeaa.M
namespace Go.Proofs.Ytooamcjgejajeaa.M
open Go.RowKit Go.Proofs.Ytooamcjgejajeaa.KW Go.Proofs.YtooamcjgejajeaaW.PrintWords Go.Proofs.YtooamcjgejajeaaW.PrintLast Go.Proofs.YtooamcjgejajeaaW.PrintMore
attribute [local go_sem] max2_int min2_int max_two min_two max_three min_three max_four min_four
set_option linter.unusedVariables false
set_option linter.unusedSimpArgs false
mutual
def spec_l29Words.l0 : Nat → Int → Int → Bool → List (List Int) → Int → Option ((List (List Int)))
 | 0, _, _, _, _, _ => none
 | k + 1, x0, x1, x2, x7, x8 => if x8 < x1 then (spec_l29Words.l1 k x0 x1 x2 x7 x8 (([] : List (List Int))) 0) else (some x7)
def spec_l29Words.l1 : Nat → Int → Int → Bool → List (List Int) → Int → List (List Int) → Int → Option ((List (List Int)))
 | 0, _, _, _, _, _, _, _ => none
 | k + 1, x0, x1, x2, x7, x8, x9, x10 => if x10 < (x7.length : Int) then (spec_l29Words.l2 k x0 x1 x2 x7 x8 x9 x10 0) else (spec_l29Words.l0 k x0 x1 x2 x9 (wrap64 (x8 + 1)))
def spec_l29Words.l2 : Nat → Int → Int → Bool → List (List Int) → Int → List (List Int) → Int → Int → Option ((List (List Int)))
 | 0, _, _, _, _, _, _, _, _ => none
 | k + 1, x0, x1, x2, x7, x8, x9, x10, x11 => if x11 < x0 then ((some (([] : List Int) : List Int)).bind fun y407 => (if 0 ≤ x10 then (if x10 < (x7.length : Int) then (if y407.length + (rd_L1 x7 x10).length < 17592186044416 then ((some (y407 ++ (rd_L1 x7 x10) : List Int)).bind fun y411 => (if y411.length < 17592186044416 then ((some (y411 ++ [x11] : List Int)).bind fun y414 => (if x2 = true then ((spec_HasOverlap.f k y414).bind fun t417 => (if t417 = true then (spec_l29Words.l2 k x0 x1 x2 x7 x8 x9 x10 (wrap64 (x11 + 1))) else (if x9.length < 5864062014805 then (spec_l29Words.l2 k x0 x1 x2 x7 x8 (x9 ++ [y414]) x10 (wrap64 (x11 + 1))) else (none)))) else ((spec_HasSquare.f k y414).bind fun t421 => (if t421 = true then (spec_l29Words.l2 k x0 x1 x2 x7 x8 x9 x10 (wrap64 (x11 + 1))) else (if x9.length < 5864062014805 then (spec_l29Words.l2 k x0 x1 x2 x7 x8 (x9 ++ [y414]) x10 (wrap64 (x11 + 1))) else (none)))))) else (none))) else (none)) else (none)) else (none))) else (spec_l29Words.l1 k x0 x1 x2 x7 x8 x9 (wrap64 (x10 + 1)))
end
def spec_l29Words.f (k : Nat) (a0 : Int) (a1 : Int) (a2 : Bool) : Option ((List (List Int))) := spec_l29Words.l0 k a0 a1 a2 (([(([] : List Int))] : List (List Int))) 0
set_option maxHeartbeats 8000000 in
set_option maxRecDepth 100000 in
theorem spec_l29Words.calls (k : Nat) (a0 : Int) (a1 : Int) (a2 : Bool) (r : List (List Int)) (w : World) (h : spec_l29Words.f k a0 a1 a2 = some r) :
  Calls Try.prog 116 #[.int .i64 a0, .int .i64 a1, .bool a2] w fun e w' => ∃ v0_ : Value, e = .returned (v0_) ∧ Kd.N (Kd.slice 3 (Kd.int .i64)) 36 w' w.heap.size (fun k_ => (w.heap.size ≤ k_)) v0_ r ∧ Below w.heap.size w w' := by
 have HB := am (Below.refl w.heap.size w); have H : (spec_l29Words.l0 k a0 a1 a2 (([(([] : List Int))] : List (List Int))) 0) = some r := h; clear h; obtain ⟨y398, hy398⟩ : ∃ y_ : List Int, y_ = (([] : List Int)) := ⟨_, rfl⟩; replace H : (spec_l29Words.l0 k a0 a1 a2 (([y398] : List (List Int))) 0) = some r := by rw [hy398]; first | exact H | exact (Option.bind_some _ _).symm.trans H
 have Ny398 := am hy398; clear hy398; obtain ⟨y401, hy401⟩ : ∃ y_ : List (List Int), y_ = (([y398] : List (List Int))) := ⟨_, rfl⟩; replace H : (spec_l29Words.l0 k a0 a1 a2 y401 0) = some r := by rw [hy401]; first | exact H | exact (Option.bind_some _ _).symm.trans H
 have Ny401 := am hy401; clear hy401; have H' := am H; clear H; go_enter Try.func116, Try.ntmps116; go_wp2_with (first | ((with_reducible refine gate_dst (N := 13) rfl ?_); refine Kd.R_lit (Kd.int .i64) _ 3 ?hg (N := 13) ?hd (xs := ([] : List Int)) (inner := []) (ok := fun _ => True) (okp := fun _ => True) ?hr ?hp (fun _ hk => hk) trivial (Below.refl _ _) (Nat.le_refl _) (by simp) ?_; (case hd | hg => rfl); (case hr => go_simp <;> rfl); (case hp => exact (Reps.none _ _)); intro v399 w4 ho5 hb hg_ hnew_; clear hg_ hnew_; (first | rw [← Ny398.out] at ho5 | (simp only [Int.reduceToNat] at ho5; rw [← Ny398.out] at ho5)); have HO400 := am (Kd.R_lower (Kd.R_newM (M := fun k_ => (w.heap.size ≤ k_)) ho5 (bZ HB) (fun k_ h_ => h_)) (bZ HB)); replace HB := bS HB hb; clear hb ho5; obtain ⟨Ao6, co6, eo6⟩ := Kd.R_slice HO400.out; subst eo6) | ((with_reducible refine gate_dst (N := 14) rfl ?_); refine Kd.N_lit (Kd.slice 3 (Kd.int .i64)) _ 36 ?hg (N' := 14) ?hd (xs := ([y398] : List (List Int))) (inner := [.slice Ao6 y398.length co6]) (ok := (fun k_ => (w.heap.size ≤ k_))) (okp := (fun k_ => (w.heap.size ≤ k_))) ?hr ?hp (fun _ hk => hk) ((show ∀ k_, w4.heap.size ≤ k_ → (fun k_ => (w.heap.size ≤ k_)) k_ from fun k_ hk => (Nat.le_trans (bZ HB) hk)) _ (Nat.le_refl _)) (Below.refl _ _) (Nat.le_refl _) (by simp) ?_; (case hd | hg => rfl); (case hr => go_simp <;> rfl); (case hp => exact (Reps.one (show Kd.FK (Kd.slice 3 (Kd.int .i64)) _ _ y398 [.slice Ao6 y398.length co6] from (Kd.FK_slice_mk (Kd.R_reads' (Kd.R_mono (ok' := (fun k_ => (w.heap.size ≤ k_))) (HO400.out) (fun k_ hk => hk.1))).2.1 (Kd.R_F (Kd.R_mono (ok' := (fun k_ => (w.heap.size ≤ k_))) (HO400.out) (fun k_ hk => hk.1))))) (Reps.none _ _))); intro v402 w7 ho8 hb hg_ hnew_; clear hg_ hnew_; (first | rw [← Ny401.out] at ho8 | (simp only [Int.reduceToNat] at ho8; rw [← Ny401.out] at ho8)); have HO403 := am (Kd.N_lower ho8 (bZ HB)); replace HB := bS HB hb; clear HO400; clear hb ho8)); go_loopg [7, 8] k (fun kq v7 v8 w' => ∃ (x7_1 : List (List Int)) (x8_1 : Int), v8 = .int .i64 x8_1 ∧ Aside0 (spec_l29Words.l0 kq a0 a1 a2 x7_1 x8_1 = some r) ∧ Aside0 (kq ≤ k) ∧ Aside0 (Kd.N (Kd.slice 3 (Kd.int .i64)) 36 w' w.heap.size (fun k_ => (w.heap.size ≤ k_)) v7 x7_1) ∧ Aside0 (Below w.heap.size w w'))
 case atStart => exact ⟨(y401), (0), (by first | rfl | (simp; done) | (simp [*]; done)), H', ⟨Nat.le_refl _⟩, ⟨by exact rN HO403⟩, ⟨by exact rB HB⟩⟩
 case round =>
  clear H'
  try clear c1
  try clear p2
  obtain ⟨x7_1, x8_1, rfl, HA, HK1, HO_7, HB⟩ := hrel; cases gk with
  | zero => exact absurd HA.out (by simp [spec_l29Words.l0])
  | succ k1 =>
   have H := HA.out; clear HA; simp only [spec_l29Words.l0] at H; by_cases c9 : x8_1 < a1
   ·rw [if_pos c9] at H; have c9b0 : decide (x8_1 < a1) = true := decide_eq_true c9; clear c9; obtain ⟨y404, hy404⟩ : ∃ y_ : List (List Int), y_ = (([] : List (List Int))) := ⟨_, rfl⟩; replace H : (spec_l29Words.l1 k1 a0 a1 a2 x7_1 x8_1 y404 0) = some r := by rw [hy404]; first | exact H | exact (Option.bind_some _ _).symm.trans H
    have Ny404 := am hy404; clear hy404; have H' := am H; clear H; go_wp2_with (first | ((with_reducible refine gate_dst (N := 20) rfl ?_); refine Kd.N_lit (Kd.slice 3 (Kd.int .i64)) _ 36 ?hg (N' := 20) ?hd (xs := ([] : List (List Int))) (inner := []) (ok := (fun k_ => (w.heap.size ≤ k_) ∧ some k_ ≠ (u7 : Value).ownBlock)) (okp := (fun k_ => (w.heap.size ≤ k_) ∧ some k_ ≠ (u7 : Value).ownBlock)) ?hr ?hp (fun _ hk => hk) ((show ∀ k_, wr.heap.size ≤ k_ → (fun k_ => (w.heap.size ≤ k_) ∧ some k_ ≠ (u7 : Value).ownBlock) k_ from fun k_ hk => ⟨(Nat.le_trans (bZ HB) hk), Kd.fresh' (Kd.N_lt (by exact rN HO_7)) k_ hk⟩) _ (Nat.le_refl _)) (Below.refl _ _) (Nat.le_refl _) (by simp) ?_; (case hd | hg => rfl); (case hr => go_simp <;> rfl); (case hp => exact (Reps.none _ _)); intro v405 w10 ho11 hb hg_ hnew_; clear hg_ hnew_; (first | rw [← Ny404.out] at ho11 | (simp only [Int.reduceToNat] at ho11; rw [← Ny404.out] at ho11)); replace HO_7 := am (Kd.N_elder' (by exact rN HO_7) (Kd.N_base ho11) hb); have HO406 := am (Kd.N_lower ho11 (bZ HB)); replace HB := bS HB hb; clear hb ho11)); go_loopg [9, 10] k1 (fun kq v9 v10 w' => ∃ (x9_2 : List (List Int)) (x10_2 : Int), v10 = .int .i64 x10_2 ∧ Aside0 (spec_l29Words.l1 kq a0 a1 a2 x7_1 x8_1 x9_2 x10_2 = some r) ∧ Aside0 (kq ≤ k1) ∧ Aside0 (Kd.N (Kd.slice 3 (Kd.int .i64)) 36 w' w.heap.size (fun k_ => (w.heap.size ≤ k_) ∧ some k_ ≠ (v9 : Value).ownBlock) u7 x7_1) ∧ Aside0 (Kd.N (Kd.slice 3 (Kd.int .i64)) 36 w' w.heap.size (fun k_ => (w.heap.size ≤ k_) ∧ some k_ ≠ (u7 : Value).ownBlock) v9 x9_2) ∧ Aside0 (Below w.heap.size w w'))
    case atStart => exact ⟨(y404), (0), (by first | rfl | (simp; done) | (simp [*]; done)), H', ⟨Nat.le_refl _⟩, ⟨by exact rN HO_7⟩, ⟨by exact rN HO406⟩, ⟨by exact rB HB⟩⟩
    case round =>
     clear H'
     try clear c1
     try clear p2
     try clear c9
     try clear c9b0
     try clear c11
     try clear p2
     obtain ⟨x9_2, x10_2, rfl, HA, HK2, HO_7, HO_9, HB⟩ := hrel; cases gk with
     | zero => exact absurd HA.out (by simp [spec_l29Words.l1])
     | succ k2 =>
      have H := HA.out; clear HA; simp only [spec_l29Words.l1] at H; by_cases c12 : x10_2 < (x7_1.length : Int)
      ·rw [if_pos c12] at H; have c12b0 : decide (x10_2 < (x7_1.length : Int)) = true := decide_eq_true c12; clear c12; have H' := am H; clear H; obtain ⟨Ao13, co13, eo13⟩ := Kd.N_slice HO_7.out; subst eo13; go_wp2; go_loopg [9, 11] k2 (fun kq v9 v11 w' => ∃ (x9_3 : List (List Int)) (x11_3 : Int), v11 = .int .i64 x11_3 ∧ Aside0 (spec_l29Words.l2 kq a0 a1 a2 x7_1 x8_1 x9_3 x10_2 x11_3 = some r) ∧ Aside0 (kq ≤ k2) ∧ Aside0 (Kd.N (Kd.slice 3 (Kd.int .i64)) 36 w' w.heap.size (fun k_ => (w.heap.size ≤ k_) ∧ some k_ ≠ (v9 : Value).ownBlock) (.slice Ao13 x7_1.length co13) x7_1) ∧ Aside0 (Kd.N (Kd.slice 3 (Kd.int .i64)) 36 w' w.heap.size (fun k_ => (w.heap.size ≤ k_) ∧ some k_ ≠ ((.slice Ao13 x7_1.length co13) : Value).ownBlock) v9 x9_3) ∧ Aside0 (Below w.heap.size w w'))
       case atStart => exact ⟨(x9_2), (0), (by first | rfl | (simp; done) | (simp [*]; done)), H', ⟨Nat.le_refl _⟩, ⟨by exact rN HO_7⟩, ⟨by exact rN HO_9⟩, ⟨by exact rB HB⟩⟩
       case round =>
        clear H'
        try clear c1
        try clear p2
        try clear c9
        try clear c9b0
        try clear c11
        try clear c12
        try clear c12b0
        try clear p2
        obtain ⟨x9_3, x11_3, rfl, HA, HK3, HO_7, HO_9, HB⟩ := hrel; cases gk with
        | zero => exact absurd HA.out (by simp [spec_l29Words.l2])
        | succ k3 =>
         have H := HA.out; clear HA; simp only [spec_l29Words.l2] at H; by_cases c14 : x11_3 < a0
         ·rw [if_pos c14] at H; have c14b0 : decide (x11_3 < a0) = true := decide_eq_true c14; clear c14; obtain ⟨y407, hy407⟩ : ∃ y_ : List Int, y_ = (([] : List Int)) := ⟨_, rfl⟩; replace H : (if 0 ≤ x10_2 then (if x10_2 < (x7_1.length : Int) then (if y407.length + (rd_L1 x7_1 x10_2).length < 17592186044416 then ((some (y407 ++ (rd_L1 x7_1 x10_2) : List Int)).bind fun y411 => (if y411.length < 17592186044416 then ((some (y411 ++ [x11_3] : List Int)).bind fun y414 => (if a2 = true then ((spec_HasOverlap.f k3 y414).bind fun t417 => (if t417 = true then (spec_l29Words.l2 k3 a0 a1 a2 x7_1 x8_1 x9_3 x10_2 (wrap64 (x11_3 + 1))) else (if x9_3.length < 5864062014805 then (spec_l29Words.l2 k3 a0 a1 a2 x7_1 x8_1 (x9_3 ++ [y414]) x10_2 (wrap64 (x11_3 + 1))) else (none)))) else ((spec_HasSquare.f k3 y414).bind fun t421 => (if t421 = true then (spec_l29Words.l2 k3 a0 a1 a2 x7_1 x8_1 x9_3 x10_2 (wrap64 (x11_3 + 1))) else (if x9_3.length < 5864062014805 then (spec_l29Words.l2 k3 a0 a1 a2 x7_1 x8_1 (x9_3 ++ [y414]) x10_2 (wrap64 (x11_3 + 1))) else (none)))))) else (none))) else (none)) else (none)) else (none)) = some r := by rw [hy407]; first | exact H | exact (Option.bind_some _ _).symm.trans H
          have Ny407 := am hy407; clear hy407; by_cases c15 : 0 ≤ x10_2
          ·rw [if_pos c15] at H; have c15b0 : decide (0 ≤ x10_2) = true := decide_eq_true c15; clear c15; by_cases c16 : x10_2 < (x7_1.length : Int)
           ·rw [if_pos c16] at H; have c16b0 : decide (x10_2 < (x7_1.length : Int)) = true := decide_eq_true c16; clear c16; by_cases c17 : y407.length + (rd_L1 x7_1 x10_2).length < 17592186044416
            ·rw [if_pos c17] at H; have LMc17 := am c17; clear c17; obtain ⟨y411, hy411⟩ : ∃ y_ : List Int, y_ = (y407 ++ (rd_L1 x7_1 x10_2)) := ⟨_, rfl⟩; replace H : (if y411.length < 17592186044416 then ((some (y411 ++ [x11_3] : List Int)).bind fun y414 => (if a2 = true then ((spec_HasOverlap.f k3 y414).bind fun t417 => (if t417 = true then (spec_l29Words.l2 k3 a0 a1 a2 x7_1 x8_1 x9_3 x10_2 (wrap64 (x11_3 + 1))) else (if x9_3.length < 5864062014805 then (spec_l29Words.l2 k3 a0 a1 a2 x7_1 x8_1 (x9_3 ++ [y414]) x10_2 (wrap64 (x11_3 + 1))) else (none)))) else ((spec_HasSquare.f k3 y414).bind fun t421 => (if t421 = true then (spec_l29Words.l2 k3 a0 a1 a2 x7_1 x8_1 x9_3 x10_2 (wrap64 (x11_3 + 1))) else (if x9_3.length < 5864062014805 then (spec_l29Words.l2 k3 a0 a1 a2 x7_1 x8_1 (x9_3 ++ [y414]) x10_2 (wrap64 (x11_3 + 1))) else (none)))))) else (none)) = some r := by rw [hy411]; first | exact H | exact (Option.bind_some _ _).symm.trans H
             have Ny411 := am hy411; clear hy411; by_cases c18 : y411.length < 17592186044416
             ·rw [if_pos c18] at H; have LMc18 := am c18; clear c18; obtain ⟨y414, hy414⟩ : ∃ y_ : List Int, y_ = (y411 ++ [x11_3]) := ⟨_, rfl⟩; replace H : (if a2 = true then ((spec_HasOverlap.f k3 y414).bind fun t417 => (if t417 = true then (spec_l29Words.l2 k3 a0 a1 a2 x7_1 x8_1 x9_3 x10_2 (wrap64 (x11_3 + 1))) else (if x9_3.length < 5864062014805 then (spec_l29Words.l2 k3 a0 a1 a2 x7_1 x8_1 (x9_3 ++ [y414]) x10_2 (wrap64 (x11_3 + 1))) else (none)))) else ((spec_HasSquare.f k3 y414).bind fun t421 => (if t421 = true then (spec_l29Words.l2 k3 a0 a1 a2 x7_1 x8_1 x9_3 x10_2 (wrap64 (x11_3 + 1))) else (if x9_3.length < 5864062014805 then (spec_l29Words.l2 k3 a0 a1 a2 x7_1 x8_1 (x9_3 ++ [y414]) x10_2 (wrap64 (x11_3 + 1))) else (none))))) = some r := by rw [hy414]; first | exact H | exact (Option.bind_some _ _).symm.trans H
              have Ny414 := am hy414; clear hy414; by_cases c19 : a2 = true
              ·subst c19; have H1 : ((spec_HasOverlap.f k3 y414).bind fun t417 => (if t417 = true then (spec_l29Words.l2 k3 a0 a1 true x7_1 x8_1 x9_3 x10_2 (wrap64 (x11_3 + 1))) else (if x9_3.length < 5864062014805 then (spec_l29Words.l2 k3 a0 a1 true x7_1 x8_1 (x9_3 ++ [y414]) x10_2 (wrap64 (x11_3 + 1))) else (none)))) = some r := by rw [if_pos rfl] at H; exact H
               clear H; have H := H1; clear H1; replace H := bE H; obtain ⟨t417, A200, H⟩ := H; replace H : (if t417 = true then (spec_l29Words.l2 k3 a0 a1 true x7_1 x8_1 x9_3 x10_2 (wrap64 (x11_3 + 1))) else (if x9_3.length < 5864062014805 then (spec_l29Words.l2 k3 a0 a1 true x7_1 x8_1 (x9_3 ++ [y414]) x10_2 (wrap64 (x11_3 + 1))) else (none))) = some r := H; have A20 := am A200; clear A200; by_cases c21 : t417 = true
               ·subst c21; have H1 : (spec_l29Words.l2 k3 a0 a1 true x7_1 x8_1 x9_3 x10_2 (wrap64 (x11_3 + 1))) = some r := by rw [if_pos rfl] at H; exact H
                clear H; have H := H1; clear H1; have H' := am H; clear H; go_wp2_with (first | ((with_reducible refine gate_dst (N := 32) rfl ?_); refine Kd.R_lit (Kd.int .i64) _ 3 ?hg (N := 32) ?hd (xs := ([] : List Int)) (inner := []) (ok := fun _ => True) (okp := fun _ => True) ?hr ?hp (fun _ hk => hk) trivial (Below.refl _ _) (Nat.le_refl _) (by simp) ?_; (case hd | hg => rfl); (case hr => go_simp <;> rfl); (case hp => exact (Reps.none _ _)); intro v408 w22 ho23 hb hg_ hnew_; clear hg_ hnew_; (first | rw [← Ny407.out] at ho23 | (simp only [Int.reduceToNat] at ho23; rw [← Ny407.out] at ho23)); replace HO_7 := am (Kd.N_elder' (by exact rN HO_7) (Kd.R_base ho23) hb); replace HO_9 := am (Kd.N_elder' (by exact rN HO_9) (Kd.R_base ho23) hb); have HO409 := am (Kd.R_lower (Kd.R_newM (M := fun k_ => (w.heap.size ≤ k_)) ho23 (bZ HB) (fun k_ h_ => h_)) (bZ HB)); replace HB := bS HB hb; clear hb ho23; have p410 : 0 ≤ (x10_2 : Int) := oD; have q410 : x10_2 < (x7_1.length : Int) := oD; obtain ⟨ad410, A410_0, c410_0, e410, hx410_0, hl410_0, hi410_0⟩ := at_L1 (Kd.N_reads' HO_7.out).2.2 x10_2 p410 q410; cases e410; obtain ⟨ce410, hce410, hMe410, hcc410⟩ := Kd.N_get HO_7.out [] x10_2 p410 (by first | exact q410 | exact oD | (have e_ := (Kd.N_reads' HO_7.out).1; omega)); obtain ⟨ua410_0, uc410_0, rfl, ul410_0, ge410_0⟩ := Kd.FK_slice_open hMe410; have hv410_0 := hcc410 0 _ rfl; rw [Nat.add_zero, show ((Kd.slice 3 (Kd.int .i64))).sz = 1 from rfl, Nat.mul_one] at hv410_0; replace hv410_0 := Option.some.inj (hv410_0.symm.trans hx410_0); injection hv410_0 with hva_ hvn_ hvc_; rw [hva_] at ge410_0; rw [hvc_] at ul410_0; have HL410_0 := am (show Kd.V (Kd.int .i64) 3 _ w.heap.size _ _ (rd_L1 x7_1 x10_2) from Kd.V_mk ul410_0 ge410_0); clear hva_ hvn_ hvc_ ge410_0 ul410_0; clear hcc410 hce410; have HR410_0 := am hi410_0; have HC410_0 := am hl410_0; clear hi410_0 hl410_0; replace p410 := eq_true p410; replace q410 := eq_true q410) | ((with_reducible refine gate_builtin (b := .append) (xs := #[.tmp 32, .tmp 36]) rfl ?_); at_builtin; refine Kd.R_append_rows (Kd.int .i64) (w0 := w) w.heap.size rfl (.tmp 32) (.tmp 36) 36 3 (.int .i64 0) 8 rfl Try.underlying36 info3 rfl (by decide) (by omega) v408 y407 (rd_L1 x7_1 x10_2) _ _ _ (fun k_ => (w.heap.size ≤ k_)) (fun _ => False) rfl rfl ?aO ?aR (fun _ _ h => h) (fun _ h => h.elim) ?aF ?aB ?aS ?aL ?_; (case aR => repeat (first | exact (by repeat (first | (with_reducible exact HR410_0.out) | (with_reducible refine Kd.C_alloc ?_ _) | (with_reducible refine Kd.C_drewN ?_ _) | (with_reducible refine Kd.C_drew ?_) | exact HR410_0.out)) | (with_reducible refine Kd.C_alloc ?_ _) | (with_reducible refine Kd.C_drewN ?_ _) | (with_reducible refine Kd.C_drew ?_))); (case aB => exact (by exact rB HB)); (case aF => exact (fun k_ hk => (Nat.le_trans (bZ HB) hk))); (case aO => exact (by exact xR (Kd.R_mono HO409.out (fun _ hk => hk.1)))); (case aS => exact (bZ HB)); (case aL => have := LMc17.out; omega); intro v412 w24 ho hb hg hat; rw [← Ny411.out] at ho; replace HO_7 := am (Kd.N_afterv (ok := (fun k_ => (w.heap.size ≤ k_) ∧ some k_ ≠ (u9 : Value).ownBlock)) (by exact rN HO_7) hg hat); replace HO_9 := am (Kd.N_afterv (ok := (fun k_ => (w.heap.size ≤ k_) ∧ some k_ ≠ (.slice (some ad410) x7_1.length co13 : Value).ownBlock)) (by exact rN HO_9) hg hat); replace HL410_0 := am (Kd.V_afterv (ok := (fun k_ => (w.heap.size ≤ k_) ∧ some k_ ≠ (.slice (some ad410) x7_1.length co13 : Value).ownBlock ∧ some k_ ≠ (u9 : Value).ownBlock)) (by exact xV (Kd.V_mono HL410_0.out (fun _ hk => ⟨⟨hk.1.1.1, ⟨hk.2, hk.1.1.2⟩⟩, hk.1.2⟩))) hg hat); replace HB := am (hb); have HO413 := am (ho); clear HO409; clear ho hb hg hat) | ((with_reducible refine gate_builtin (b := .append) (xs := #[.tmp 37, .tmp 39]) rfl ?_); at_builtin; refine Kd.R_append (Kd.int .i64) (w0 := w) w.heap.size rfl (.tmp 37) (.tmp 39) 36 3 (.int .i64 0) 8 rfl Try.underlying36 info3 rfl (by decide) (by omega) v412 y411 x11_3 [.int .i64 x11_3] (fun k_ => (w.heap.size ≤ k_)) (fun _ => False) rfl rfl ?aP (fun _ hk => hk.elim) ?aF ?aO ?aB ?aS ?aL ?_; (case aP => exact rfl); (case aB => exact (by exact rB HB)); (case aF => exact (fun k_ hk => (Nat.le_trans (bZ HB) hk))); (case aO => exact (by exact rR HO413)); (case aS => exact (bZ HB)); (case aL => have := LMc18.out; omega); intro v415 w25 ho hb hg hat; rw [← Ny414.out] at ho; replace HO_7 := am (Kd.N_afterv (ok := (fun k_ => (w.heap.size ≤ k_) ∧ some k_ ≠ (u9 : Value).ownBlock)) (by exact rN HO_7) hg hat); replace HO_9 := am (Kd.N_afterv (ok := (fun k_ => (w.heap.size ≤ k_) ∧ some k_ ≠ (.slice (some ad410) x7_1.length co13 : Value).ownBlock)) (by exact rN HO_9) hg hat); replace HL410_0 := am (Kd.V_afterv (ok := (fun k_ => (w.heap.size ≤ k_) ∧ some k_ ≠ (.slice (some ad410) x7_1.length co13 : Value).ownBlock ∧ some k_ ≠ (u9 : Value).ownBlock)) (by exact rV HL410_0) hg hat); replace HB := am (hb); have HO416 := am (ho); clear HO413; clear ho hb hg hat; obtain ⟨Ao26, co26, eo26⟩ := Kd.R_slice HO416.out; subst eo26) | (go_at_call 117; (with_reducible refine (spec_HasOverlap.calls k3 _ _ y414 true _ ?side1 ?side2 A20.out).mono ?_); (case side1 => exact xC ((Kd.R_reads' HO416.out).2.2)); (case side2 => exact (Kd.R_reads' HO416.out).2.1); rintro e w27 ⟨rfl, hb⟩; replace HO_7 := am (Kd.N_below (by exact rN HO_7) hb); replace HO_9 := am (Kd.N_below (by exact rN HO_9) hb); replace HL410_0 := am (Kd.V_below (by exact rV HL410_0) hb); replace HO416 := am (Kd.R_below (by exact rR HO416) hb); replace HB := bS HB hb; clear hb)); go_roundg k3
                case measure => have := HK1.out; have := HK2.out; have := HK3.out; omega
                case rel => exact ⟨(x9_3), (wrap64 (x11_3 + 1)), (by first | rfl | (simp; done) | (simp [*]; done)), H', ⟨by have := HK1.out; have := HK2.out; have := HK3.out; omega⟩, ⟨by exact xN (Kd.N_mono HO_7.out (fun _ hk => ⟨hk.1.1, hk.1.2⟩))⟩, ⟨by exact xN (Kd.N_mono HO_9.out (fun _ hk => ⟨hk.1.1, hk.1.2⟩))⟩, ⟨by exact rB HB⟩⟩
               ·replace c21 := Bool.eq_false_iff.mpr c21; subst c21; have H1 : (if x9_3.length < 5864062014805 then (spec_l29Words.l2 k3 a0 a1 true x7_1 x8_1 (x9_3 ++ [y414]) x10_2 (wrap64 (x11_3 + 1))) else (none)) = some r := by rw [if_neg (show ¬ (false = true) by decide)] at H; exact H
                clear H; have H := H1; clear H1; by_cases c28 : x9_3.length < 5864062014805
                ·rw [if_pos c28] at H; have LMc28 := am c28; clear c28; obtain ⟨y418, hy418⟩ : ∃ y_ : List (List Int), y_ = (x9_3 ++ [y414]) := ⟨_, rfl⟩; replace H : (spec_l29Words.l2 k3 a0 a1 true x7_1 x8_1 y418 x10_2 (wrap64 (x11_3 + 1))) = some r := by rw [hy418]; first | exact H | exact (Option.bind_some _ _).symm.trans H
                 have Ny418 := am hy418; clear hy418; have H' := am H; clear H; go_wp2_with (first | ((with_reducible refine gate_dst (N := 32) rfl ?_); refine Kd.R_lit (Kd.int .i64) _ 3 ?hg (N := 32) ?hd (xs := ([] : List Int)) (inner := []) (ok := fun _ => True) (okp := fun _ => True) ?hr ?hp (fun _ hk => hk) trivial (Below.refl _ _) (Nat.le_refl _) (by simp) ?_; (case hd | hg => rfl); (case hr => go_simp <;> rfl); (case hp => exact (Reps.none _ _)); intro v408 w29 ho30 hb hg_ hnew_; clear hg_ hnew_; (first | rw [← Ny407.out] at ho30 | (simp only [Int.reduceToNat] at ho30; rw [← Ny407.out] at ho30)); replace HO_7 := am (Kd.N_elder' (by exact rN HO_7) (Kd.R_base ho30) hb); replace HO_9 := am (Kd.N_elder' (by exact rN HO_9) (Kd.R_base ho30) hb); have HO409 := am (Kd.R_lower (Kd.R_newM (M := fun k_ => (w.heap.size ≤ k_)) ho30 (bZ HB) (fun k_ h_ => h_)) (bZ HB)); replace HB := bS HB hb; clear hb ho30; have p410 : 0 ≤ (x10_2 : Int) := oD; have q410 : x10_2 < (x7_1.length : Int) := oD; obtain ⟨ad410, A410_0, c410_0, e410, hx410_0, hl410_0, hi410_0⟩ := at_L1 (Kd.N_reads' HO_7.out).2.2 x10_2 p410 q410; cases e410; obtain ⟨ce410, hce410, hMe410, hcc410⟩ := Kd.N_get HO_7.out [] x10_2 p410 (by first | exact q410 | exact oD | (have e_ := (Kd.N_reads' HO_7.out).1; omega)); obtain ⟨ua410_0, uc410_0, rfl, ul410_0, ge410_0⟩ := Kd.FK_slice_open hMe410; have hv410_0 := hcc410 0 _ rfl; rw [Nat.add_zero, show ((Kd.slice 3 (Kd.int .i64))).sz = 1 from rfl, Nat.mul_one] at hv410_0; replace hv410_0 := Option.some.inj (hv410_0.symm.trans hx410_0); injection hv410_0 with hva_ hvn_ hvc_; rw [hva_] at ge410_0; rw [hvc_] at ul410_0; have HL410_0 := am (show Kd.V (Kd.int .i64) 3 _ w.heap.size _ _ (rd_L1 x7_1 x10_2) from Kd.V_mk ul410_0 ge410_0); clear hva_ hvn_ hvc_ ge410_0 ul410_0; clear hcc410 hce410; have HR410_0 := am hi410_0; have HC410_0 := am hl410_0; clear hi410_0 hl410_0; replace p410 := eq_true p410; replace q410 := eq_true q410) | ((with_reducible refine gate_builtin (b := .append) (xs := #[.tmp 32, .tmp 36]) rfl ?_); at_builtin; refine Kd.R_append_rows (Kd.int .i64) (w0 := w) w.heap.size rfl (.tmp 32) (.tmp 36) 36 3 (.int .i64 0) 8 rfl Try.underlying36 info3 rfl (by decide) (by omega) v408 y407 (rd_L1 x7_1 x10_2) _ _ _ (fun k_ => (w.heap.size ≤ k_)) (fun _ => False) rfl rfl ?aO ?aR (fun _ _ h => h) (fun _ h => h.elim) ?aF ?aB ?aS ?aL ?_; (case aR => repeat (first | exact (by repeat (first | (with_reducible exact HR410_0.out) | (with_reducible refine Kd.C_alloc ?_ _) | (with_reducible refine Kd.C_drewN ?_ _) | (with_reducible refine Kd.C_drew ?_) | exact HR410_0.out)) | (with_reducible refine Kd.C_alloc ?_ _) | (with_reducible refine Kd.C_drewN ?_ _) | (with_reducible refine Kd.C_drew ?_))); (case aB => exact (by exact rB HB)); (case aF => exact (fun k_ hk => (Nat.le_trans (bZ HB) hk))); (case aO => exact (by exact xR (Kd.R_mono HO409.out (fun _ hk => hk.1)))); (case aS => exact (bZ HB)); (case aL => have := LMc17.out; omega); intro v412 w31 ho hb hg hat; rw [← Ny411.out] at ho; replace HO_7 := am (Kd.N_afterv (ok := (fun k_ => (w.heap.size ≤ k_) ∧ some k_ ≠ (u9 : Value).ownBlock)) (by exact rN HO_7) hg hat); replace HO_9 := am (Kd.N_afterv (ok := (fun k_ => (w.heap.size ≤ k_) ∧ some k_ ≠ (.slice (some ad410) x7_1.length co13 : Value).ownBlock)) (by exact rN HO_9) hg hat); replace HL410_0 := am (Kd.V_afterv (ok := (fun k_ => (w.heap.size ≤ k_) ∧ some k_ ≠ (.slice (some ad410) x7_1.length co13 : Value).ownBlock ∧ some k_ ≠ (u9 : Value).ownBlock)) (by exact xV (Kd.V_mono HL410_0.out (fun _ hk => ⟨⟨hk.1.1.1, ⟨hk.2, hk.1.1.2⟩⟩, hk.1.2⟩))) hg hat); replace HB := am (hb); have HO413 := am (ho); clear HO409; clear ho hb hg hat) | ((with_reducible refine gate_builtin (b := .append) (xs := #[.tmp 37, .tmp 39]) rfl ?_); at_builtin; refine Kd.R_append (Kd.int .i64) (w0 := w) w.heap.size rfl (.tmp 37) (.tmp 39) 36 3 (.int .i64 0) 8 rfl Try.underlying36 info3 rfl (by decide) (by omega) v412 y411 x11_3 [.int .i64 x11_3] (fun k_ => (w.heap.size ≤ k_)) (fun _ => False) rfl rfl ?aP (fun _ hk => hk.elim) ?aF ?aO ?aB ?aS ?aL ?_; (case aP => exact rfl); (case aB => exact (by exact rB HB)); (case aF => exact (fun k_ hk => (Nat.le_trans (bZ HB) hk))); (case aO => exact (by exact rR HO413)); (case aS => exact (bZ HB)); (case aL => have := LMc18.out; omega); intro v415 w32 ho hb hg hat; rw [← Ny414.out] at ho; replace HO_7 := am (Kd.N_afterv (ok := (fun k_ => (w.heap.size ≤ k_) ∧ some k_ ≠ (u9 : Value).ownBlock)) (by exact rN HO_7) hg hat); replace HO_9 := am (Kd.N_afterv (ok := (fun k_ => (w.heap.size ≤ k_) ∧ some k_ ≠ (.slice (some ad410) x7_1.length co13 : Value).ownBlock)) (by exact rN HO_9) hg hat); replace HL410_0 := am (Kd.V_afterv (ok := (fun k_ => (w.heap.size ≤ k_) ∧ some k_ ≠ (.slice (some ad410) x7_1.length co13 : Value).ownBlock ∧ some k_ ≠ (u9 : Value).ownBlock)) (by exact rV HL410_0) hg hat); replace HB := am (hb); have HO416 := am (ho); clear HO413; clear ho hb hg hat; obtain ⟨Ao33, co33, eo33⟩ := Kd.R_slice HO416.out; subst eo33) | (go_at_call 117; (with_reducible refine (spec_HasOverlap.calls k3 _ _ y414 false _ ?side1 ?side2 A20.out).mono ?_); (case side1 => exact xC ((Kd.R_reads' HO416.out).2.2)); (case side2 => exact (Kd.R_reads' HO416.out).2.1); rintro e w34 ⟨rfl, hb⟩; replace HO_7 := am (Kd.N_below (by exact rN HO_7) hb); replace HO_9 := am (Kd.N_below (by exact rN HO_9) hb); replace HL410_0 := am (Kd.V_below (by exact rV HL410_0) hb); replace HO416 := am (Kd.R_below (by exact rR HO416) hb); replace HB := bS HB hb; clear hb) | ((with_reducible refine gate_builtin (b := .append) (xs := #[.tmp 56, .tmp 58]) rfl ?_); at_builtin; refine Kd.N_append (Kd.slice 3 (Kd.int .i64)) (w0 := w) w.heap.size rfl (.tmp 56) (.tmp 58) 22 36 (.slice none 0 0) 24 rfl Try.underlying22 info36 rfl (by decide) (by omega) u9 x9_3 y414 [.slice Ao33 y414.length co33] (fun k_ => (w.heap.size ≤ k_) ∧ some k_ ≠ (.slice (some ad410) x7_1.length co13 : Value).ownBlock) (fun k_ => ((fun k_ => (w.heap.size ≤ k_) ∧ some k_ ≠ (.slice (some ad410) x7_1.length co13 : Value).ownBlock)) k_ ∧ some k_ ≠ (u9 : Value).ownBlock) rfl rfl ?aP (fun _ hk => hk) ?aF ?aO ?aB ?aS ?aL ?_; (case aP => exact (Kd.FK_slice_mk (Kd.R_reads' (Kd.R_mono (ok' := (fun k_ => ((fun k_ => (w.heap.size ≤ k_) ∧ some k_ ≠ (.slice (some ad410) x7_1.length co13 : Value).ownBlock)) k_ ∧ some k_ ≠ (u9 : Value).ownBlock)) (Kd.R_apart' (Kd.R_apart' (HO416.out) (Kd.N_typed HO_7.out) (by decide)) (Kd.N_typed HO_9.out) (by decide)) (fun k_ hk => ⟨⟨hk.1.1, hk.1.2⟩, hk.2⟩))).2.1 (Kd.R_F (Kd.R_mono (ok' := (fun k_ => ((fun k_ => (w.heap.size ≤ k_) ∧ some k_ ≠ (.slice (some ad410) x7_1.length co13 : Value).ownBlock)) k_ ∧ some k_ ≠ (u9 : Value).ownBlock)) (Kd.R_apart' (Kd.R_apart' (HO416.out) (Kd.N_typed HO_7.out) (by decide)) (Kd.N_typed HO_9.out) (by decide)) (fun k_ hk => ⟨⟨hk.1.1, hk.1.2⟩, hk.2⟩))))); (case aB => exact (by exact rB HB)); (case aF => exact (fun k_ hk => ⟨(Nat.le_trans (bZ HB) hk), Kd.fresh' (Kd.N_lt (by exact rN HO_7)) k_ hk⟩)); (case aO => exact (by exact xN (Kd.N_mono HO_9.out (fun _ hk => ⟨hk.1.1, hk.1.2⟩)))); (case aS => exact (bZ HB)); (case aL => have := LMc28.out; omega); intro v419 w35 ho hb hg hat; rw [← Ny418.out] at ho; replace HO_7 := am (Kd.N_afterv (ok := (fun k_ => (w.heap.size ≤ k_) ∧ some k_ ≠ (.slice Ao33 y414.length co33 : Value).ownBlock)) (by exact xN (Kd.N_mono HO_7.out (fun _ hk => ⟨⟨hk.1.1, hk.2⟩, hk.1.2⟩))) hg hat); replace HL410_0 := am (Kd.V_afterv (ok := (fun k_ => (w.heap.size ≤ k_) ∧ some k_ ≠ (.slice (some ad410) x7_1.length co13 : Value).ownBlock ∧ some k_ ≠ (.slice Ao33 y414.length co33 : Value).ownBlock)) (by exact xV (Kd.V_mono HL410_0.out (fun _ hk => ⟨⟨hk.1.1, ⟨hk.1.2.1, hk.2⟩⟩, hk.1.2.2⟩))) hg hat); replace HB := am (hb); have HO420 := am (ho); clear HO_9 HO416; clear ho hb hg hat)); go_roundg k3
                 case measure => have := HK1.out; have := HK2.out; have := HK3.out; omega
                 case rel => exact ⟨(y418), (wrap64 (x11_3 + 1)), (by first | rfl | (simp; done) | (simp [*]; done)), H', ⟨by have := HK1.out; have := HK2.out; have := HK3.out; omega⟩, ⟨by exact xN (Kd.N_mono HO_7.out (fun _ hk => ⟨hk.1.1, hk.2⟩))⟩, ⟨by exact rN HO420⟩, ⟨by exact rB HB⟩⟩
                ·rw [if_neg c28] at H; exact absurd H (by simp)
              ·replace c19 := Bool.eq_false_iff.mpr c19; subst c19; have H1 : ((spec_HasSquare.f k3 y414).bind fun t421 => (if t421 = true then (spec_l29Words.l2 k3 a0 a1 false x7_1 x8_1 x9_3 x10_2 (wrap64 (x11_3 + 1))) else (if x9_3.length < 5864062014805 then (spec_l29Words.l2 k3 a0 a1 false x7_1 x8_1 (x9_3 ++ [y414]) x10_2 (wrap64 (x11_3 + 1))) else (none)))) = some r := by rw [if_neg (show ¬ (false = true) by decide)] at H; exact H
               clear H; have H := H1; clear H1; replace H := bE H; obtain ⟨t421, A360, H⟩ := H; replace H : (if t421 = true then (spec_l29Words.l2 k3 a0 a1 false x7_1 x8_1 x9_3 x10_2 (wrap64 (x11_3 + 1))) else (if x9_3.length < 5864062014805 then (spec_l29Words.l2 k3 a0 a1 false x7_1 x8_1 (x9_3 ++ [y414]) x10_2 (wrap64 (x11_3 + 1))) else (none))) = some r := H; have A36 := am A360; clear A360; by_cases c37 : t421 = true
               ·subst c37; have H1 : (spec_l29Words.l2 k3 a0 a1 false x7_1 x8_1 x9_3 x10_2 (wrap64 (x11_3 + 1))) = some r := by rw [if_pos rfl] at H; exact H
                clear H; have H := H1; clear H1; have H' := am H; clear H; go_wp2_with (first | ((with_reducible refine gate_dst (N := 32) rfl ?_); refine Kd.R_lit (Kd.int .i64) _ 3 ?hg (N := 32) ?hd (xs := ([] : List Int)) (inner := []) (ok := fun _ => True) (okp := fun _ => True) ?hr ?hp (fun _ hk => hk) trivial (Below.refl _ _) (Nat.le_refl _) (by simp) ?_; (case hd | hg => rfl); (case hr => go_simp <;> rfl); (case hp => exact (Reps.none _ _)); intro v408 w38 ho39 hb hg_ hnew_; clear hg_ hnew_; (first | rw [← Ny407.out] at ho39 | (simp only [Int.reduceToNat] at ho39; rw [← Ny407.out] at ho39)); replace HO_7 := am (Kd.N_elder' (by exact rN HO_7) (Kd.R_base ho39) hb); replace HO_9 := am (Kd.N_elder' (by exact rN HO_9) (Kd.R_base ho39) hb); have HO409 := am (Kd.R_lower (Kd.R_newM (M := fun k_ => (w.heap.size ≤ k_)) ho39 (bZ HB) (fun k_ h_ => h_)) (bZ HB)); replace HB := bS HB hb; clear hb ho39; have p410 : 0 ≤ (x10_2 : Int) := oD; have q410 : x10_2 < (x7_1.length : Int) := oD; obtain ⟨ad410, A410_0, c410_0, e410, hx410_0, hl410_0, hi410_0⟩ := at_L1 (Kd.N_reads' HO_7.out).2.2 x10_2 p410 q410; cases e410; obtain ⟨ce410, hce410, hMe410, hcc410⟩ := Kd.N_get HO_7.out [] x10_2 p410 (by first | exact q410 | exact oD | (have e_ := (Kd.N_reads' HO_7.out).1; omega)); obtain ⟨ua410_0, uc410_0, rfl, ul410_0, ge410_0⟩ := Kd.FK_slice_open hMe410; have hv410_0 := hcc410 0 _ rfl; rw [Nat.add_zero, show ((Kd.slice 3 (Kd.int .i64))).sz = 1 from rfl, Nat.mul_one] at hv410_0; replace hv410_0 := Option.some.inj (hv410_0.symm.trans hx410_0); injection hv410_0 with hva_ hvn_ hvc_; rw [hva_] at ge410_0; rw [hvc_] at ul410_0; have HL410_0 := am (show Kd.V (Kd.int .i64) 3 _ w.heap.size _ _ (rd_L1 x7_1 x10_2) from Kd.V_mk ul410_0 ge410_0); clear hva_ hvn_ hvc_ ge410_0 ul410_0; clear hcc410 hce410; have HR410_0 := am hi410_0; have HC410_0 := am hl410_0; clear hi410_0 hl410_0; replace p410 := eq_true p410; replace q410 := eq_true q410) | ((with_reducible refine gate_builtin (b := .append) (xs := #[.tmp 32, .tmp 36]) rfl ?_); at_builtin; refine Kd.R_append_rows (Kd.int .i64) (w0 := w) w.heap.size rfl (.tmp 32) (.tmp 36) 36 3 (.int .i64 0) 8 rfl Try.underlying36 info3 rfl (by decide) (by omega) v408 y407 (rd_L1 x7_1 x10_2) _ _ _ (fun k_ => (w.heap.size ≤ k_)) (fun _ => False) rfl rfl ?aO ?aR (fun _ _ h => h) (fun _ h => h.elim) ?aF ?aB ?aS ?aL ?_; (case aR => repeat (first | exact (by repeat (first | (with_reducible exact HR410_0.out) | (with_reducible refine Kd.C_alloc ?_ _) | (with_reducible refine Kd.C_drewN ?_ _) | (with_reducible refine Kd.C_drew ?_) | exact HR410_0.out)) | (with_reducible refine Kd.C_alloc ?_ _) | (with_reducible refine Kd.C_drewN ?_ _) | (with_reducible refine Kd.C_drew ?_))); (case aB => exact (by exact rB HB)); (case aF => exact (fun k_ hk => (Nat.le_trans (bZ HB) hk))); (case aO => exact (by exact xR (Kd.R_mono HO409.out (fun _ hk => hk.1)))); (case aS => exact (bZ HB)); (case aL => have := LMc17.out; omega); intro v412 w40 ho hb hg hat; rw [← Ny411.out] at ho; replace HO_7 := am (Kd.N_afterv (ok := (fun k_ => (w.heap.size ≤ k_) ∧ some k_ ≠ (u9 : Value).ownBlock)) (by exact rN HO_7) hg hat); replace HO_9 := am (Kd.N_afterv (ok := (fun k_ => (w.heap.size ≤ k_) ∧ some k_ ≠ (.slice (some ad410) x7_1.length co13 : Value).ownBlock)) (by exact rN HO_9) hg hat); replace HL410_0 := am (Kd.V_afterv (ok := (fun k_ => (w.heap.size ≤ k_) ∧ some k_ ≠ (.slice (some ad410) x7_1.length co13 : Value).ownBlock ∧ some k_ ≠ (u9 : Value).ownBlock)) (by exact xV (Kd.V_mono HL410_0.out (fun _ hk => ⟨⟨hk.1.1.1, ⟨hk.2, hk.1.1.2⟩⟩, hk.1.2⟩))) hg hat); replace HB := am (hb); have HO413 := am (ho); clear HO409; clear ho hb hg hat) | ((with_reducible refine gate_builtin (b := .append) (xs := #[.tmp 37, .tmp 39]) rfl ?_); at_builtin; refine Kd.R_append (Kd.int .i64) (w0 := w) w.heap.size rfl (.tmp 37) (.tmp 39) 36 3 (.int .i64 0) 8 rfl Try.underlying36 info3 rfl (by decide) (by omega) v412 y411 x11_3 [.int .i64 x11_3] (fun k_ => (w.heap.size ≤ k_)) (fun _ => False) rfl rfl ?aP (fun _ hk => hk.elim) ?aF ?aO ?aB ?aS ?aL ?_; (case aP => exact rfl); (case aB => exact (by exact rB HB)); (case aF => exact (fun k_ hk => (Nat.le_trans (bZ HB) hk))); (case aO => exact (by exact rR HO413)); (case aS => exact (bZ HB)); (case aL => have := LMc18.out; omega); intro v415 w41 ho hb hg hat; rw [← Ny414.out] at ho; replace HO_7 := am (Kd.N_afterv (ok := (fun k_ => (w.heap.size ≤ k_) ∧ some k_ ≠ (u9 : Value).ownBlock)) (by exact rN HO_7) hg hat); replace HO_9 := am (Kd.N_afterv (ok := (fun k_ => (w.heap.size ≤ k_) ∧ some k_ ≠ (.slice (some ad410) x7_1.length co13 : Value).ownBlock)) (by exact rN HO_9) hg hat); replace HL410_0 := am (Kd.V_afterv (ok := (fun k_ => (w.heap.size ≤ k_) ∧ some k_ ≠ (.slice (some ad410) x7_1.length co13 : Value).ownBlock ∧ some k_ ≠ (u9 : Value).ownBlock)) (by exact rV HL410_0) hg hat); replace HB := am (hb); have HO416 := am (ho); clear HO413; clear ho hb hg hat; obtain ⟨Ao42, co42, eo42⟩ := Kd.R_slice HO416.out; subst eo42) | (go_at_call 44; (with_reducible refine (spec_HasSquare.calls k3 _ _ y414 true _ ?side1 ?side2 A36.out).mono ?_); (case side1 => exact xC ((Kd.R_reads' HO416.out).2.2)); (case side2 => exact (Kd.R_reads' HO416.out).2.1); rintro e w43 ⟨rfl, hb⟩; replace HO_7 := am (Kd.N_below (by exact rN HO_7) hb); replace HO_9 := am (Kd.N_below (by exact rN HO_9) hb); replace HL410_0 := am (Kd.V_below (by exact rV HL410_0) hb); replace HO416 := am (Kd.R_below (by exact rR HO416) hb); replace HB := bS HB hb; clear hb)); go_roundg k3
                case measure => have := HK1.out; have := HK2.out; have := HK3.out; omega
                case rel => exact ⟨(x9_3), (wrap64 (x11_3 + 1)), (by first | rfl | (simp; done) | (simp [*]; done)), H', ⟨by have := HK1.out; have := HK2.out; have := HK3.out; omega⟩, ⟨by exact xN (Kd.N_mono HO_7.out (fun _ hk => ⟨hk.1.1, hk.1.2⟩))⟩, ⟨by exact xN (Kd.N_mono HO_9.out (fun _ hk => ⟨hk.1.1, hk.1.2⟩))⟩, ⟨by exact rB HB⟩⟩
               ·replace c37 := Bool.eq_false_iff.mpr c37; subst c37; have H1 : (if x9_3.length < 5864062014805 then (spec_l29Words.l2 k3 a0 a1 false x7_1 x8_1 (x9_3 ++ [y414]) x10_2 (wrap64 (x11_3 + 1))) else (none)) = some r := by rw [if_neg (show ¬ (false = true) by decide)] at H; exact H
                clear H; have H := H1; clear H1; by_cases c44 : x9_3.length < 5864062014805
                ·rw [if_pos c44] at H; have LMc44 := am c44; clear c44; obtain ⟨y422, hy422⟩ : ∃ y_ : List (List Int), y_ = (x9_3 ++ [y414]) := ⟨_, rfl⟩; replace H : (spec_l29Words.l2 k3 a0 a1 false x7_1 x8_1 y422 x10_2 (wrap64 (x11_3 + 1))) = some r := by rw [hy422]; first | exact H | exact (Option.bind_some _ _).symm.trans H
                 have Ny422 := am hy422; clear hy422; have H' := am H; clear H; go_wp2_with (first | ((with_reducible refine gate_dst (N := 32) rfl ?_); refine Kd.R_lit (Kd.int .i64) _ 3 ?hg (N := 32) ?hd (xs := ([] : List Int)) (inner := []) (ok := fun _ => True) (okp := fun _ => True) ?hr ?hp (fun _ hk => hk) trivial (Below.refl _ _) (Nat.le_refl _) (by simp) ?_; (case hd | hg => rfl); (case hr => go_simp <;> rfl); (case hp => exact (Reps.none _ _)); intro v408 w45 ho46 hb hg_ hnew_; clear hg_ hnew_; (first | rw [← Ny407.out] at ho46 | (simp only [Int.reduceToNat] at ho46; rw [← Ny407.out] at ho46)); replace HO_7 := am (Kd.N_elder' (by exact rN HO_7) (Kd.R_base ho46) hb); replace HO_9 := am (Kd.N_elder' (by exact rN HO_9) (Kd.R_base ho46) hb); have HO409 := am (Kd.R_lower (Kd.R_newM (M := fun k_ => (w.heap.size ≤ k_)) ho46 (bZ HB) (fun k_ h_ => h_)) (bZ HB)); replace HB := bS HB hb; clear hb ho46; have p410 : 0 ≤ (x10_2 : Int) := oD; have q410 : x10_2 < (x7_1.length : Int) := oD; obtain ⟨ad410, A410_0, c410_0, e410, hx410_0, hl410_0, hi410_0⟩ := at_L1 (Kd.N_reads' HO_7.out).2.2 x10_2 p410 q410; cases e410; obtain ⟨ce410, hce410, hMe410, hcc410⟩ := Kd.N_get HO_7.out [] x10_2 p410 (by first | exact q410 | exact oD | (have e_ := (Kd.N_reads' HO_7.out).1; omega)); obtain ⟨ua410_0, uc410_0, rfl, ul410_0, ge410_0⟩ := Kd.FK_slice_open hMe410; have hv410_0 := hcc410 0 _ rfl; rw [Nat.add_zero, show ((Kd.slice 3 (Kd.int .i64))).sz = 1 from rfl, Nat.mul_one] at hv410_0; replace hv410_0 := Option.some.inj (hv410_0.symm.trans hx410_0); injection hv410_0 with hva_ hvn_ hvc_; rw [hva_] at ge410_0; rw [hvc_] at ul410_0; have HL410_0 := am (show Kd.V (Kd.int .i64) 3 _ w.heap.size _ _ (rd_L1 x7_1 x10_2) from Kd.V_mk ul410_0 ge410_0); clear hva_ hvn_ hvc_ ge410_0 ul410_0; clear hcc410 hce410; have HR410_0 := am hi410_0; have HC410_0 := am hl410_0; clear hi410_0 hl410_0; replace p410 := eq_true p410; replace q410 := eq_true q410) | ((with_reducible refine gate_builtin (b := .append) (xs := #[.tmp 32, .tmp 36]) rfl ?_); at_builtin; refine Kd.R_append_rows (Kd.int .i64) (w0 := w) w.heap.size rfl (.tmp 32) (.tmp 36) 36 3 (.int .i64 0) 8 rfl Try.underlying36 info3 rfl (by decide) (by omega) v408 y407 (rd_L1 x7_1 x10_2) _ _ _ (fun k_ => (w.heap.size ≤ k_)) (fun _ => False) rfl rfl ?aO ?aR (fun _ _ h => h) (fun _ h => h.elim) ?aF ?aB ?aS ?aL ?_; (case aR => repeat (first | exact (by repeat (first | (with_reducible exact HR410_0.out) | (with_reducible refine Kd.C_alloc ?_ _) | (with_reducible refine Kd.C_drewN ?_ _) | (with_reducible refine Kd.C_drew ?_) | exact HR410_0.out)) | (with_reducible refine Kd.C_alloc ?_ _) | (with_reducible refine Kd.C_drewN ?_ _) | (with_reducible refine Kd.C_drew ?_))); (case aB => exact (by exact rB HB)); (case aF => exact (fun k_ hk => (Nat.le_trans (bZ HB) hk))); (case aO => exact (by exact xR (Kd.R_mono HO409.out (fun _ hk => hk.1)))); (case aS => exact (bZ HB)); (case aL => have := LMc17.out; omega); intro v412 w47 ho hb hg hat; rw [← Ny411.out] at ho; replace HO_7 := am (Kd.N_afterv (ok := (fun k_ => (w.heap.size ≤ k_) ∧ some k_ ≠ (u9 : Value).ownBlock)) (by exact rN HO_7) hg hat); replace HO_9 := am (Kd.N_afterv (ok := (fun k_ => (w.heap.size ≤ k_) ∧ some k_ ≠ (.slice (some ad410) x7_1.length co13 : Value).ownBlock)) (by exact rN HO_9) hg hat); replace HL410_0 := am (Kd.V_afterv (ok := (fun k_ => (w.heap.size ≤ k_) ∧ some k_ ≠ (.slice (some ad410) x7_1.length co13 : Value).ownBlock ∧ some k_ ≠ (u9 : Value).ownBlock)) (by exact xV (Kd.V_mono HL410_0.out (fun _ hk => ⟨⟨hk.1.1.1, ⟨hk.2, hk.1.1.2⟩⟩, hk.1.2⟩))) hg hat); replace HB := am (hb); have HO413 := am (ho); clear HO409; clear ho hb hg hat) | ((with_reducible refine gate_builtin (b := .append) (xs := #[.tmp 37, .tmp 39]) rfl ?_); at_builtin; refine Kd.R_append (Kd.int .i64) (w0 := w) w.heap.size rfl (.tmp 37) (.tmp 39) 36 3 (.int .i64 0) 8 rfl Try.underlying36 info3 rfl (by decide) (by omega) v412 y411 x11_3 [.int .i64 x11_3] (fun k_ => (w.heap.size ≤ k_)) (fun _ => False) rfl rfl ?aP (fun _ hk => hk.elim) ?aF ?aO ?aB ?aS ?aL ?_; (case aP => exact rfl); (case aB => exact (by exact rB HB)); (case aF => exact (fun k_ hk => (Nat.le_trans (bZ HB) hk))); (case aO => exact (by exact rR HO413)); (case aS => exact (bZ HB)); (case aL => have := LMc18.out; omega); intro v415 w48 ho hb hg hat; rw [← Ny414.out] at ho; replace HO_7 := am (Kd.N_afterv (ok := (fun k_ => (w.heap.size ≤ k_) ∧ some k_ ≠ (u9 : Value).ownBlock)) (by exact rN HO_7) hg hat); replace HO_9 := am (Kd.N_afterv (ok := (fun k_ => (w.heap.size ≤ k_) ∧ some k_ ≠ (.slice (some ad410) x7_1.length co13 : Value).ownBlock)) (by exact rN HO_9) hg hat); replace HL410_0 := am (Kd.V_afterv (ok := (fun k_ => (w.heap.size ≤ k_) ∧ some k_ ≠ (.slice (some ad410) x7_1.length co13 : Value).ownBlock ∧ some k_ ≠ (u9 : Value).ownBlock)) (by exact rV HL410_0) hg hat); replace HB := am (hb); have HO416 := am (ho); clear HO413; clear ho hb hg hat; obtain ⟨Ao49, co49, eo49⟩ := Kd.R_slice HO416.out; subst eo49) | (go_at_call 44; (with_reducible refine (spec_HasSquare.calls k3 _ _ y414 false _ ?side1 ?side2 A36.out).mono ?_); (case side1 => exact xC ((Kd.R_reads' HO416.out).2.2)); (case side2 => exact (Kd.R_reads' HO416.out).2.1); rintro e w50 ⟨rfl, hb⟩; replace HO_7 := am (Kd.N_below (by exact rN HO_7) hb); replace HO_9 := am (Kd.N_below (by exact rN HO_9) hb); replace HL410_0 := am (Kd.V_below (by exact rV HL410_0) hb); replace HO416 := am (Kd.R_below (by exact rR HO416) hb); replace HB := bS HB hb; clear hb) | ((with_reducible refine gate_builtin (b := .append) (xs := #[.tmp 56, .tmp 58]) rfl ?_); at_builtin; refine Kd.N_append (Kd.slice 3 (Kd.int .i64)) (w0 := w) w.heap.size rfl (.tmp 56) (.tmp 58) 22 36 (.slice none 0 0) 24 rfl Try.underlying22 info36 rfl (by decide) (by omega) u9 x9_3 y414 [.slice Ao49 y414.length co49] (fun k_ => (w.heap.size ≤ k_) ∧ some k_ ≠ (.slice (some ad410) x7_1.length co13 : Value).ownBlock) (fun k_ => ((fun k_ => (w.heap.size ≤ k_) ∧ some k_ ≠ (.slice (some ad410) x7_1.length co13 : Value).ownBlock)) k_ ∧ some k_ ≠ (u9 : Value).ownBlock) rfl rfl ?aP (fun _ hk => hk) ?aF ?aO ?aB ?aS ?aL ?_; (case aP => exact (Kd.FK_slice_mk (Kd.R_reads' (Kd.R_mono (ok' := (fun k_ => ((fun k_ => (w.heap.size ≤ k_) ∧ some k_ ≠ (.slice (some ad410) x7_1.length co13 : Value).ownBlock)) k_ ∧ some k_ ≠ (u9 : Value).ownBlock)) (Kd.R_apart' (Kd.R_apart' (HO416.out) (Kd.N_typed HO_7.out) (by decide)) (Kd.N_typed HO_9.out) (by decide)) (fun k_ hk => ⟨⟨hk.1.1, hk.1.2⟩, hk.2⟩))).2.1 (Kd.R_F (Kd.R_mono (ok' := (fun k_ => ((fun k_ => (w.heap.size ≤ k_) ∧ some k_ ≠ (.slice (some ad410) x7_1.length co13 : Value).ownBlock)) k_ ∧ some k_ ≠ (u9 : Value).ownBlock)) (Kd.R_apart' (Kd.R_apart' (HO416.out) (Kd.N_typed HO_7.out) (by decide)) (Kd.N_typed HO_9.out) (by decide)) (fun k_ hk => ⟨⟨hk.1.1, hk.1.2⟩, hk.2⟩))))); (case aB => exact (by exact rB HB)); (case aF => exact (fun k_ hk => ⟨(Nat.le_trans (bZ HB) hk), Kd.fresh' (Kd.N_lt (by exact rN HO_7)) k_ hk⟩)); (case aO => exact (by exact xN (Kd.N_mono HO_9.out (fun _ hk => ⟨hk.1.1, hk.1.2⟩)))); (case aS => exact (bZ HB)); (case aL => have := LMc44.out; omega); intro v423 w51 ho hb hg hat; rw [← Ny422.out] at ho; replace HO_7 := am (Kd.N_afterv (ok := (fun k_ => (w.heap.size ≤ k_) ∧ some k_ ≠ (.slice Ao49 y414.length co49 : Value).ownBlock)) (by exact xN (Kd.N_mono HO_7.out (fun _ hk => ⟨⟨hk.1.1, hk.2⟩, hk.1.2⟩))) hg hat); replace HL410_0 := am (Kd.V_afterv (ok := (fun k_ => (w.heap.size ≤ k_) ∧ some k_ ≠ (.slice (some ad410) x7_1.length co13 : Value).ownBlock ∧ some k_ ≠ (.slice Ao49 y414.length co49 : Value).ownBlock)) (by exact xV (Kd.V_mono HL410_0.out (fun _ hk => ⟨⟨hk.1.1, ⟨hk.1.2.1, hk.2⟩⟩, hk.1.2.2⟩))) hg hat); replace HB := am (hb); have HO424 := am (ho); clear HO_9 HO416; clear ho hb hg hat)); go_roundg k3
                 case measure => have := HK1.out; have := HK2.out; have := HK3.out; omega
                 case rel => exact ⟨(y422), (wrap64 (x11_3 + 1)), (by first | rfl | (simp; done) | (simp [*]; done)), H', ⟨by have := HK1.out; have := HK2.out; have := HK3.out; omega⟩, ⟨by exact xN (Kd.N_mono HO_7.out (fun _ hk => ⟨hk.1.1, hk.2⟩))⟩, ⟨by exact rN HO424⟩, ⟨by exact rB HB⟩⟩
                ·rw [if_neg c44] at H; exact absurd H (by simp)
             ·rw [if_neg c18] at H; exact absurd H (by simp)
            ·rw [if_neg c17] at H; exact absurd H (by simp)
           ·rw [if_neg c16] at H; exact absurd H (by simp)
          ·rw [if_neg c15] at H; exact absurd H (by simp)
         ·rw [if_neg c14] at H; have c14b0 : decide (x11_3 < a0) = false := decide_eq_false c14; clear c14; have H' := am H; clear H; go_wp2; go_roundg k3
          case measure => have := HK1.out; have := HK2.out; have := HK3.out; omega
          case rel => exact ⟨(x9_3), (wrap64 (x10_2 + 1)), (by first | rfl | (simp; done) | (simp [*]; done)), H', ⟨by have := HK1.out; have := HK2.out; have := HK3.out; omega⟩, ⟨by exact rN HO_7⟩, ⟨by exact rN HO_9⟩, ⟨by exact rB HB⟩⟩
      ·rw [if_neg c12] at H; have c12b0 : decide (x10_2 < (x7_1.length : Int)) = false := decide_eq_false c12; clear c12; have H' := am H; clear H; obtain ⟨Ao52, co52, eo52⟩ := Kd.N_slice HO_7.out; subst eo52; go_wp2; go_roundg k2
       case measure => have := HK1.out; have := HK2.out; omega
       case rel => exact ⟨(x9_2), (wrap64 (x8_1 + 1)), (by first | rfl | (simp; done) | (simp [*]; done)), H', ⟨by have := HK1.out; have := HK2.out; omega⟩, ⟨by exact xN (Kd.N_mono HO_9.out (fun _ hk => hk.1))⟩, ⟨by exact rB HB⟩⟩
   ·rw [if_neg c9] at H; have c9b0 : decide (x8_1 < a1) = false := decide_eq_false c9; clear c9; obtain rfl := Option.some.inj H; go_wp2; go_ret; exact ⟨_, by first | rfl | (simp [errW_none, errW_some] <;> rfl) | (simp [*, errW_none, errW_some] <;> rfl), by exact rN HO_7, by exact rB HB⟩
end Go.Proofs.Ytooamcjgejajeaa.M
/- The words of a length without squares, or without overlaps: the reference's words are those of fw. No condition but that there is room. -/
namespace Go.Proofs.Ytooamcjgejajeaa.M
open Go.RowKit Go.Proofs.YtooamcjgejajeaaW.PrintWords Go.Proofs.YtooamcjgejajeaaW.PrintMore Go.Proofs.Ytooamcjgejajeaa.K
noncomputable def tst (ov : Bool) (w : List Int) : Bool := if ov = true then !hasOverlap w else !hasPower w 2 1
theorem l29_ev (m n : Nat) (ov : Bool) (hm : m ≤ 1000) (hn : n ≤ 1000) (hroom : ∀ i, i ≤ n → m ^ i ≤ 1000000000000) : Ev (fun k => spec_l29Words.f k (m : Int) (n : Int) ov) (fw m (tst ov) n) := by
 have l2 : ∀ (ws : List (List Int)) (i q : Nat) (acc : List (List Int)) (r : List (List Int)) (hq : q < ws.length), ws.length ≤ 1000000000000 → ws[q].length ≤ 1000 → acc.length + m ≤ 1000000000000 →
   Ev (fun k => spec_l29Words.l1 k (m : Int) (n : Int) ov ws (i : Int) (acc ++ ext (tst ov) ws[q] m) ((q + 1 : Nat) : Int)) r → ∀ a, a ≤ m →
   Ev (fun k => spec_l29Words.l2 k (m : Int) (n : Int) ov ws (i : Int) (acc ++ ext (tst ov) ws[q] a) (q : Int) (a : Int)) r := by
  intro ws i q acc r hq hwl hwq hacc hr; refine down m ?_ ?_
  ·exact Ev.step (fun k => by simp only [spec_l29Words.l2]; rw [_root_.if_neg (by omega), wsucc (by omega)]) hr
  ·intro a ha ih; have hel := ext_le (tst ov) ws[q] a; refine Ev.step (fun k => by simp only [spec_l29Words.l2]; rw [_root_.if_pos (by omega)]) ?_; refine Ev.congr (fun k => Option.bind_some _ _) ?_; refine Ev.if_pos (by omega) (Ev.if_pos (by omega) ?_); rw [rdLL ws q hq, List.nil_append]; refine Ev.if_pos (by simp only [List.length_nil]; omega) ?_; refine Ev.congr (fun k => Option.bind_some _ _) ?_; refine Ev.if_pos (by omega) ?_; refine Ev.congr (fun k => Option.bind_some _ _) ?_; rw [ext_succ] at ih; have hl : (ws[q] ++ [(a : Int)]).length ≤ 1048576 := by rw [List.length_append]; simp; omega
   have fin : ∀ t : Bool, tst ov (ws[q] ++ [(a : Int)]) = !t → Ev (fun k => if t = true then spec_l29Words.l2 k (m : Int) (n : Int) ov ws (i : Int) (acc ++ ext (tst ov) ws[q] a) (q : Int) (wrap64 ((a : Int) + 1)) else if (acc ++ ext (tst ov) ws[q] a).length < 5864062014805 then spec_l29Words.l2 k (m : Int) (n : Int) ov ws (i : Int) ((acc ++ ext (tst ov) ws[q] a) ++ [ws[q] ++ [(a : Int)]]) (q : Int) (wrap64 ((a : Int) + 1)) else none) r := by
    intro t ht; refine Ev.ite (fun c => ?_) (fun c => ?_)
    ·rw [ht, c] at ih; refine Ev.congr (fun k => by rw [wsucc (by omega)]) ?_; simpa using ih
    ·rw [ht, Bool.eq_false_iff.2 c] at ih; refine Ev.if_pos (by rw [List.length_append]; omega) ?_; refine Ev.congr (fun k => by rw [wsucc (by omega), List.append_assoc]) ?_; simpa using ih
   refine Ev.ite (fun c => ?_) (fun c => ?_)
   ·refine Ev.bind (specOverlap_ev _ hl) (fin _ ?_); unfold tst; rw [_root_.if_pos c]
   ·refine Ev.bind (specSquare_ev _ hl) (fin _ ?_); unfold tst; rw [_root_.if_neg c]
 have l1 : ∀ (i : Nat) (ws : List (List Int)) (r : List (List Int)), i < n → ws.length ≤ 1000000000000 → m * ws.length ≤ 1000000000000 → (∀ u ∈ ws, u.length ≤ 1000) →
   Ev (fun k => spec_l29Words.l0 k (m : Int) (n : Int) ov (fwStep m (tst ov) ws) ((i + 1 : Nat) : Int)) r → ∀ q, q ≤ ws.length →
   Ev (fun k => spec_l29Words.l1 k (m : Int) (n : Int) ov ws (i : Int) (fwStep m (tst ov) (ws.take q)) (q : Int)) r := by
  intro i ws r hi hwl hml hu hr; refine down ws.length ?_ ?_
  ·refine Ev.step (fun k => by simp only [spec_l29Words.l1]; rw [_root_.if_neg (by omega), wsucc (by omega), List.take_length]) hr
  ·intro q hq ih; refine Ev.step (fun k => by simp only [spec_l29Words.l1]; rw [_root_.if_pos (by omega)]) ?_; rw [fwStep_take m (tst ov) ws q hq] at ih; have h1 : (fwStep m (tst ov) (ws.take q)).length ≤ m * q := by have := fwStep_le m (tst ov) (ws.take q); rwa [List.length_take, Nat.min_eq_left (by omega)] at this
   have h2 : m * q + m ≤ m * ws.length := by have := Nat.mul_le_mul_left m (show q + 1 ≤ ws.length from hq); rwa [Nat.mul_add, Nat.mul_one] at this
   have := l2 ws i q _ r hq hwl (hu _ (List.getElem_mem hq)) (by omega) ih 0 (by omega); simpa [ext] using this
 have l0 : ∀ i, i ≤ n → Ev (fun k => spec_l29Words.l0 k (m : Int) (n : Int) ov (fw m (tst ov) i) (i : Int)) (fw m (tst ov) n) := by
  refine down n ?_ ?_
  ·exact Ev.step (fun k => by simp only [spec_l29Words.l0]; rw [_root_.if_neg (by omega)]) (Ev.some _)
  ·intro i hi ih; refine Ev.step (fun k => by simp only [spec_l29Words.l0]; rw [_root_.if_pos (by omega)]) ?_; have h1 := fw_le m (tst ov) i; have h2 := hroom i (by omega); have h3 := hroom (i + 1) (by omega); have := l1 i (fw m (tst ov) i) _ hi (by omega) (Nat.le_trans (Nat.mul_le_mul_left m h1) (by rwa [Nat.pow_succ, Nat.mul_comm] at h3)) (fun u hu => by rw [fw_len m (tst ov) i u hu]; omega) ih 0 (by omega); simpa [fwStep] using this
 unfold spec_l29Words.f; exact l0 0 (by omega)
theorem small_pow (m n : Nat) (hm : m ≤ 4) (hn : n ≤ 10) : ∀ i, i ≤ n → m ^ i ≤ 1000000000000 := by
 intro i hi; refine Nat.le_trans (Nat.pow_le_pow_left hm i) (Nat.le_trans (Nat.pow_le_pow_right (by omega) (show i ≤ 10 by omega)) (by decide))
end Go.Proofs.Ytooamcjgejajeaa.M
namespace Go.Proofs.Ytooamcjgejajeaa.M
open Go.RowKit Go.Proofs.Ytooamcjgejajeaa.KW Go.Proofs.YtooamcjgejajeaaW.PrintWords Go.Proofs.YtooamcjgejajeaaW.PrintLast Go.Proofs.YtooamcjgejajeaaW.PrintMore
attribute [local go_sem] max2_int min2_int max_two min_two max_three min_three max_four min_four
set_option linter.unusedVariables false
set_option linter.unusedSimpArgs false
def impl_isOverlapFree.f (k : Nat) (l0 : List Int) : Option (Bool) := (impl_HasOverlap.f k l0).bind fun t458 => (some (!t458))
set_option maxHeartbeats 8000000 in
set_option maxRecDepth 100000 in
theorem impl_isOverlapFree.calls (k : Nat) (A0 : Option Addr) (c0 : Nat) (l0 : List Int) (r : Bool) (w : World) (hr0 : Kd.C (Kd.int .i64) w A0 l0.length l0) (hc0 : l0.length ≤ c0) (h : impl_isOverlapFree.f k l0 = some r) :
  Calls Try.prog 119 #[.slice A0 l0.length c0] w fun e w' => e = .returned (.bool r) ∧ Below w.heap.size w w' := by
 have HR0 := am hr0; have HC0 := am hc0; clear hr0 hc0; have HB := am (Below.refl w.heap.size w); have H : ((impl_HasOverlap.f k l0).bind fun t458 => (some (!t458))) = some r := h; clear h; replace H := bE H; obtain ⟨t458, A20, H⟩ := H; replace H : (some (!t458)) = some r := H; have A2 := am A20; clear A20; obtain rfl := Option.some.inj H; go_enter Try.func119, Try.ntmps119; go_wp2_with (first | ((with_reducible refine gate_callee (f := 52) rfl ?_); refine goesL_ (some 4) rfl rfl Try.func52 (by kernel_rfl) rfl #[.slice A0 l0.length c0] rfl (by (try simp only [mT, mC, mN]); first | done | rfl) ?_; (with_reducible refine (impl_HasOverlap.calls k _ _ l0 t458 _ ?side1 ?side2 A2.out).mono ?_); (case side1 => exact xC (HR0.out)); (case side2 => exact HC0.out); rintro e w3 ⟨rfl, hb⟩; refine ⟨_, rfl, ?_⟩; replace HB := bS HB hb; clear hb)); go_ret; exact ⟨by first | rfl | (simp [errW_none, errW_some] <;> rfl) | (simp [*, errW_none, errW_some] <;> rfl), by exact rB HB⟩
def impl_isSquareFree.f (k : Nat) (l0 : List Int) : Option (Bool) := (impl_HasSquare.f k l0).bind fun t562 => (some (!t562))
set_option maxHeartbeats 8000000 in
set_option maxRecDepth 100000 in
theorem impl_isSquareFree.calls (k : Nat) (A0 : Option Addr) (c0 : Nat) (l0 : List Int) (r : Bool) (w : World) (hr0 : Kd.C (Kd.int .i64) w A0 l0.length l0) (hc0 : l0.length ≤ c0) (h : impl_isSquareFree.f k l0 = some r) :
  Calls Try.prog 121 #[.slice A0 l0.length c0] w fun e w' => e = .returned (.bool r) ∧ Below w.heap.size w w' := by
 have HR0 := am hr0; have HC0 := am hc0; clear hr0 hc0; have HB := am (Below.refl w.heap.size w); have H : ((impl_HasSquare.f k l0).bind fun t562 => (some (!t562))) = some r := h; clear h; replace H := bE H; obtain ⟨t562, A20, H⟩ := H; replace H : (some (!t562)) = some r := H; have A2 := am A20; clear A20; obtain rfl := Option.some.inj H; go_enter Try.func121, Try.ntmps121; go_wp2_with (first | ((with_reducible refine gate_callee (f := 53) rfl ?_); refine goesL_ (some 4) rfl rfl Try.func53 (by kernel_rfl) rfl #[.slice A0 l0.length c0] rfl (by (try simp only [mT, mC, mN]); first | done | rfl) ?_; (with_reducible refine (impl_HasSquare.calls k _ _ l0 t562 _ ?side1 ?side2 A2.out).mono ?_); (case side1 => exact xC (HR0.out)); (case side2 => exact HC0.out); rintro e w3 ⟨rfl, hb⟩; refine ⟨_, rfl, ?_⟩; replace HB := bS HB hb; clear hb)); go_ret; exact ⟨by first | rfl | (simp [errW_none, errW_some] <;> rfl) | (simp [*, errW_none, errW_some] <;> rfl), by exact rB HB⟩
end Go.Proofs.Ytooamcjgejajeaa.M
/- The program's counts and lists of words without squares or overlaps, walked. No condition. -/
namespace Go.Proofs.Ytooamcjgejajeaa.M
open Go.RowKit Go.Proofs.YtooamcjgejajeaaW.PrintWords Go.Proofs.YtooamcjgejajeaaW.PrintLast Go.Proofs.YtooamcjgejajeaaW.PrintMore Go.Proofs.Ytooamcjgejajeaa.K Go.Proofs.Ytooamcjgejajeaa.KW
set_option linter.unusedVariables false
set_option linter.unusedSimpArgs false
theorem isOV_ev (w : List Int) (hw : w.length ≤ 1048576) : Ev (fun k => impl_isOverlapFree.f k w) (tst true w) := by
 unfold impl_isOverlapFree.f; exact Ev.bind (implOverlap_ev w hw) (Ev.some _)
theorem isSQ_ev (w : List Int) (hw : w.length ≤ 1048576) : Ev (fun k => impl_isSquareFree.f k w) (tst false w) := by
 unfold impl_isSquareFree.f; exact Ev.bind (implSquare_ev w hw) (Ev.some _)
theorem freeOV (m n : Nat) (w : World) (hm : m ≤ 4) (hn : n ≤ 10) :
  Calls Try.prog 118 #[.int .i64 m, .int .i64 n, .func (.func 119) #[] #[]] w fun e w' => ∃ v0_ : Value, e = .returned v0_ ∧ Kd.S (Kd.slice 3 (Kd.int .i64)) 36 w' w.heap.size (fun _ => True) v0_ (fw m (tst true) n) ∧ Below w.heap.size w w' := by
 refine freeWords_calls 119 _ #[] (tst true) m n w Try.func119 (by kernel_rfl) rfl (by omega) (by omega) (small_pow m n hm hn) ?_; intro W A c xs hB hC hc hl; obtain ⟨k, hk⟩ := (isOV_ev xs (by omega)).rounds; rw [Array.append_empty]; exact impl_isOverlapFree.calls k A c xs _ W hC hc hk
theorem freeSQ (m n : Nat) (w : World) (hm : m ≤ 4) (hn : n ≤ 10) :
  Calls Try.prog 118 #[.int .i64 m, .int .i64 n, .func (.func 121) #[] #[]] w fun e w' => ∃ v0_ : Value, e = .returned v0_ ∧ Kd.S (Kd.slice 3 (Kd.int .i64)) 36 w' w.heap.size (fun _ => True) v0_ (fw m (tst false) n) ∧ Below w.heap.size w w' := by
 refine freeWords_calls 121 _ #[] (tst false) m n w Try.func121 (by kernel_rfl) rfl (by omega) (by omega) (small_pow m n hm hn) ?_; intro W A c xs hB hC hc hl; obtain ⟨k, hk⟩ := (isSQ_ev xs (by omega)).rounds; rw [Array.append_empty]; exact impl_isSquareFree.calls k A c xs _ W hC hc hk
end Go.Proofs.Ytooamcjgejajeaa.M
/- The program's list of words that pass a test, for one test: in the form of the printed walks. No condition. -/
namespace Go.Proofs.Ytooamcjgejajeaa.M
open Go.RowKit Go.Proofs.YtooamcjgejajeaaW.PrintWords Go.Proofs.YtooamcjgejajeaaW.PrintLast Go.Proofs.YtooamcjgejajeaaW.PrintMore Go.Proofs.Ytooamcjgejajeaa.K
set_option linter.unusedVariables false
noncomputable def impl_freeWords_of121.f (k : Nat) (a0 : Int) (a1 : Int) : Option ((List (List Int))) := if (0 ≤ a0 ∧ a0 ≤ 4) ∧ 0 ≤ a1 ∧ a1 ≤ 10 then some (fw a0.toNat (tst false) a1.toNat) else none
theorem impl_freeWords_of121.ev (m n : Nat) (hm : m ≤ 4) (hn : n ≤ 10) : Ev (fun k => impl_freeWords_of121.f k (m : Int) (n : Int)) (fw m (tst false) n) := by
 unfold impl_freeWords_of121.f; exact Ev.if_pos (by omega) (Ev.same (Ev.some _) (by simp))
theorem impl_freeWords_of121.calls (k : Nat) (a0 : Int) (a1 : Int) (r : List (List Int)) (w : World) (h : impl_freeWords_of121.f k a0 a1 = some r) :
  Calls Try.prog 118 #[.int .i64 a0, .int .i64 a1, .func (.func 121) #[] #[]] w fun e w' => ∃ v0_ : Value, e = .returned (v0_) ∧ Kd.N (Kd.slice 3 (Kd.int .i64)) 36 w' w.heap.size (fun k_ => (w.heap.size ≤ k_)) v0_ r ∧ Below w.heap.size w w' := by
 unfold impl_freeWords_of121.f at h; split at h
 ·rename_i q; obtain ⟨m, rfl⟩ : ∃ m : Nat, a0 = (m : Int) := ⟨a0.toNat, by omega⟩; obtain ⟨n, rfl⟩ : ∃ n : Nat, a1 = (n : Int) := ⟨a1.toNat, by omega⟩; rw [Int.toNat_natCast, Int.toNat_natCast] at h; obtain rfl := Option.some.inj h; refine (freeSQ m n w (by omega) (by omega)).mono ?_; rintro e w1 ⟨v, rfl, hS, hB⟩; exact ⟨v, rfl, Kd.S_N (Kd.S_mono (Kd.S_bound hS) (fun _ hk => hk.2.1)), hB⟩
 ·exact absurd h (by simp)
end Go.Proofs.Ytooamcjgejajeaa.M
namespace Go.Proofs.Ytooamcjgejajeaa.M
noncomputable section
open Go.RowKit Go.Proofs.Ytooamcjgejajeaa.KW Go.Proofs.YtooamcjgejajeaaW.PrintWords Go.Proofs.YtooamcjgejajeaaW.PrintLast Go.Proofs.YtooamcjgejajeaaW.PrintMore
attribute [local go_sem] max2_int min2_int max_two min_two max_three min_three max_four min_four
set_option linter.unusedVariables false
set_option linter.unusedSimpArgs false
def impl_CountSquareFree.f (k : Nat) (a0 : Int) (a1 : Int) : Option (Int) := if a0 < 1 then (some (-1)) else (if a0 > 3 then (some (-1)) else (if a1 < 0 then (some (-1)) else (if a1 > 8 then (some (-1)) else ((impl_freeWords_of121.f k a0 a1).bind fun t1068 => (some (t1068.length : Int))))))
set_option maxHeartbeats 8000000 in
set_option maxRecDepth 100000 in
theorem impl_CountSquareFree.calls (k : Nat) (a0 : Int) (a1 : Int) (r : Int) (w : World) (h : impl_CountSquareFree.f k a0 a1 = some r) :
  Calls Try.prog 62 #[.int .i64 a0, .int .i64 a1] w fun e w' => e = .returned (.int .i64 r) ∧ Below w.heap.size w w' := by
 have HB := am (Below.refl w.heap.size w); have H : (if a0 < 1 then (some (-1)) else (if a0 > 3 then (some (-1)) else (if a1 < 0 then (some (-1)) else (if a1 > 8 then (some (-1)) else ((impl_freeWords_of121.f k a0 a1).bind fun t1068 => (some (t1068.length : Int))))))) = some r := h; clear h; by_cases c3 : a0 < 1
 ·rw [if_pos c3] at H; have c3b0 : decide (a0 < 1) = true := decide_eq_true c3; clear c3; obtain rfl := Option.some.inj H; go_enter Try.func62, Try.ntmps62; go_wp2; go_ret; exact ⟨by first | rfl | (simp [errW_none, errW_some] <;> rfl) | (simp [*, errW_none, errW_some] <;> rfl), by exact rB HB⟩
 ·rw [if_neg c3] at H; have c3b0 : decide (a0 < 1) = false := decide_eq_false c3; clear c3; by_cases c4 : a0 > 3
  ·rw [if_pos c4] at H; have c4b0 : decide (3 < a0) = true := decide_eq_true c4; clear c4; obtain rfl := Option.some.inj H; go_enter Try.func62, Try.ntmps62; go_wp2; go_ret; exact ⟨by first | rfl | (simp [errW_none, errW_some] <;> rfl) | (simp [*, errW_none, errW_some] <;> rfl), by exact rB HB⟩
  ·rw [if_neg c4] at H; have c4b0 : decide (3 < a0) = false := decide_eq_false c4; clear c4; by_cases c5 : a1 < 0
   ·rw [if_pos c5] at H; have c5b0 : decide (a1 < 0) = true := decide_eq_true c5; clear c5; obtain rfl := Option.some.inj H; go_enter Try.func62, Try.ntmps62; go_wp2; go_ret; exact ⟨by first | rfl | (simp [errW_none, errW_some] <;> rfl) | (simp [*, errW_none, errW_some] <;> rfl), by exact rB HB⟩
   ·rw [if_neg c5] at H; have c5b0 : decide (a1 < 0) = false := decide_eq_false c5; clear c5; by_cases c6 : a1 > 8
    ·rw [if_pos c6] at H; have c6b0 : decide (8 < a1) = true := decide_eq_true c6; clear c6; obtain rfl := Option.some.inj H; go_enter Try.func62, Try.ntmps62; go_wp2; go_ret; exact ⟨by first | rfl | (simp [errW_none, errW_some] <;> rfl) | (simp [*, errW_none, errW_some] <;> rfl), by exact rB HB⟩
    ·rw [if_neg c6] at H; have c6b0 : decide (8 < a1) = false := decide_eq_false c6; clear c6; replace H := bE H; obtain ⟨t1068, A70, H⟩ := H; replace H : (some (t1068.length : Int)) = some r := H; have A7 := am A70; clear A70; obtain rfl := Option.some.inj H; go_enter Try.func62, Try.ntmps62; go_wp2_with (first | ((with_reducible refine gate_callee (f := 118) rfl ?_); refine goesL_ (some 21) rfl rfl Try.func118 (by kernel_rfl) rfl #[.int .i64 a0, .int .i64 a1, .func (.func 121) #[] #[]] rfl (by (try simp only [mT, mC, mN]); first | done | rfl) ?_; (with_reducible refine (impl_freeWords_of121.calls k a0 a1 t1068 _ A7.out).mono ?_); rintro e w8 ⟨v1069, rfl, ho0, hb⟩; refine ⟨_, rfl, ?_⟩; have HO1070 := am (Kd.N_lower (Kd.N_mono (ok' := fun k_ => True) ho0 (fun k_ hk_ => trivial)) (bZ HB)); replace HB := bS HB hb; clear hb ho0; obtain ⟨Ao9, co9, eo9⟩ := Kd.N_slice HO1070.out; subst eo9)); go_ret; exact ⟨by first | rfl | (simp [errW_none, errW_some] <;> rfl) | (simp [*, errW_none, errW_some] <;> rfl), by exact rB HB⟩
end
end Go.Proofs.Ytooamcjgejajeaa.M
namespace Go.Proofs.Ytooamcjgejajeaa.M
open Go.RowKit Go.Proofs.Ytooamcjgejajeaa.KW Go.Proofs.YtooamcjgejajeaaW.PrintWords Go.Proofs.YtooamcjgejajeaaW.PrintLast Go.Proofs.YtooamcjgejajeaaW.PrintMore
attribute [local go_sem] max2_int min2_int max_two min_two max_three min_three max_four min_four
set_option linter.unusedVariables false
set_option linter.unusedSimpArgs false
def spec_DrawCountOverlapFree.f (k : Nat) (l0 : List Int) : Option (Int) := (spec_l1New.f k l0).bind fun bt1071 => ((spec_l1Below.f bt1071.1 bt1071.2.1 bt1071.2.2 11).bind fun bt1075 => (some (wrap64 (bt1075.1 - 1))))
set_option maxHeartbeats 8000000 in
set_option maxRecDepth 100000 in
theorem spec_DrawCountOverlapFree.calls (k : Nat) (A0 : Option Addr) (c0 : Nat) (l0 : List Int) (r : Int) (w : World) (hr0 : Kd.C (Kd.int .u8) w A0 l0.length l0) (hc0 : l0.length ≤ c0) (h : spec_DrawCountOverlapFree.f k l0 = some r) :
  Calls Try.prog 63 #[.slice A0 l0.length c0] w fun e w' => e = .returned (.int .i64 r) ∧ Below w.heap.size w w' := by
 have HR0 := am hr0; have HC0 := am hc0; clear hr0 hc0; have HB := am (Below.refl w.heap.size w); have H : ((spec_l1New.f k l0).bind fun bt1071 => ((spec_l1Below.f bt1071.1 bt1071.2.1 bt1071.2.2 11).bind fun bt1075 => (some (wrap64 (bt1075.1 - 1))))) = some r := h; clear h; replace H := bE H; obtain ⟨⟨t1071, t1072, t1073⟩, A20, H⟩ := H; replace H : ((spec_l1Below.f t1071 t1072 t1073 11).bind fun bt1075 => (some (wrap64 (bt1075.1 - 1)))) = some r := H; have A2 := am A20; clear A20; replace H := bE H; obtain ⟨⟨t1075, t1076, t1077⟩, A30, H⟩ := H; replace H : (some (wrap64 (t1075 - 1))) = some r := H; have A3 := am A30; clear A30; obtain rfl := Option.some.inj H; go_enter Try.func63, Try.ntmps63; go_wp2_with (first | ((with_reducible refine gate_callee (f := 126) rfl ?_); refine goesL_ (some 4) rfl rfl Try.func126 (by kernel_rfl) rfl #[.slice A0 l0.length c0] rfl (by (try simp only [mT, mC, mN]); first | done | rfl) ?_; (with_reducible refine (spec_l1New.calls k _ _ l0 t1071 t1072 t1073 w _ ?side1 ?side2 ?side3 A2.out).mono ?_); (case side1 => exact rB HB); (case side2 => exact HR0.out); (case side3 => exact HC0.out); rintro e w4 ⟨g1074, rfl, hi, hb, hb2⟩; refine ⟨_, rfl, ?_⟩; replace HB := am (hb); have HI1074 := am (hi); clear hb hb2 hi) | ((with_reducible refine gate_callee (f := 127) rfl ?_); refine goesL_ (some 5) rfl rfl Try.func127 (by kernel_rfl) rfl #[.pointer (some ⟨g1074, 0, none⟩), .int .i64 11] rfl (by (try simp only [mT, mC, mN]); first | done | rfl) ?_; (with_reducible refine (spec_l1Below.calls g1074 t1071 t1072 t1073 11 t1075 t1076 t1077 w _ ?side1 ?side2 A3.out).mono ?_); (case side1 => exact IsS114.m HI1074); (case side2 => exact rB HB); rintro e w5 ⟨rfl, hi, hb, hk⟩; refine ⟨_, rfl, ?_⟩; replace HB := am (hb); replace HI1074 := am (hi); clear hb hk hi)); go_ret; exact ⟨by first | rfl | (simp [errW_none, errW_some] <;> rfl) | (simp [*, errW_none, errW_some] <;> rfl), by exact rB HB⟩
end Go.Proofs.Ytooamcjgejajeaa.M
/- The program's list of words that pass a test, for one test: in the form of the printed walks. No condition. -/
namespace Go.Proofs.Ytooamcjgejajeaa.M
open Go.RowKit Go.Proofs.YtooamcjgejajeaaW.PrintWords Go.Proofs.YtooamcjgejajeaaW.PrintLast Go.Proofs.YtooamcjgejajeaaW.PrintMore Go.Proofs.Ytooamcjgejajeaa.K
set_option linter.unusedVariables false
noncomputable def impl_freeWords_of119.f (k : Nat) (a0 : Int) (a1 : Int) : Option ((List (List Int))) := if (0 ≤ a0 ∧ a0 ≤ 4) ∧ 0 ≤ a1 ∧ a1 ≤ 10 then some (fw a0.toNat (tst true) a1.toNat) else none
theorem impl_freeWords_of119.ev (m n : Nat) (hm : m ≤ 4) (hn : n ≤ 10) : Ev (fun k => impl_freeWords_of119.f k (m : Int) (n : Int)) (fw m (tst true) n) := by
 unfold impl_freeWords_of119.f; exact Ev.if_pos (by omega) (Ev.same (Ev.some _) (by simp))
theorem impl_freeWords_of119.calls (k : Nat) (a0 : Int) (a1 : Int) (r : List (List Int)) (w : World) (h : impl_freeWords_of119.f k a0 a1 = some r) :
  Calls Try.prog 118 #[.int .i64 a0, .int .i64 a1, .func (.func 119) #[] #[]] w fun e w' => ∃ v0_ : Value, e = .returned (v0_) ∧ Kd.N (Kd.slice 3 (Kd.int .i64)) 36 w' w.heap.size (fun k_ => (w.heap.size ≤ k_)) v0_ r ∧ Below w.heap.size w w' := by
 unfold impl_freeWords_of119.f at h; split at h
 ·rename_i q; obtain ⟨m, rfl⟩ : ∃ m : Nat, a0 = (m : Int) := ⟨a0.toNat, by omega⟩; obtain ⟨n, rfl⟩ : ∃ n : Nat, a1 = (n : Int) := ⟨a1.toNat, by omega⟩; rw [Int.toNat_natCast, Int.toNat_natCast] at h; obtain rfl := Option.some.inj h; refine (freeOV m n w (by omega) (by omega)).mono ?_; rintro e w1 ⟨v, rfl, hS, hB⟩; exact ⟨v, rfl, Kd.S_N (Kd.S_mono (Kd.S_bound hS) (fun _ hk => hk.2.1)), hB⟩
 ·exact absurd h (by simp)
end Go.Proofs.Ytooamcjgejajeaa.M
namespace Go.Proofs.Ytooamcjgejajeaa.M
noncomputable section
open Go.RowKit Go.Proofs.Ytooamcjgejajeaa.KW Go.Proofs.YtooamcjgejajeaaW.PrintWords Go.Proofs.YtooamcjgejajeaaW.PrintLast Go.Proofs.YtooamcjgejajeaaW.PrintMore
attribute [local go_sem] max2_int min2_int max_two min_two max_three min_three max_four min_four
set_option linter.unusedVariables false
set_option linter.unusedSimpArgs false
def impl_CountOverlapFree.f (k : Nat) (a0 : Int) : Option (Int) := if a0 < 0 then (some (-1)) else (if a0 > 10 then (some (-1)) else ((impl_freeWords_of119.f k 2 a0).bind fun t1078 => (some (t1078.length : Int))))
set_option maxHeartbeats 8000000 in
set_option maxRecDepth 100000 in
theorem impl_CountOverlapFree.calls (k : Nat) (a0 : Int) (r : Int) (w : World) (h : impl_CountOverlapFree.f k a0 = some r) :
  Calls Try.prog 64 #[.int .i64 a0] w fun e w' => e = .returned (.int .i64 r) ∧ Below w.heap.size w w' := by
 have HB := am (Below.refl w.heap.size w); have H : (if a0 < 0 then (some (-1)) else (if a0 > 10 then (some (-1)) else ((impl_freeWords_of119.f k 2 a0).bind fun t1078 => (some (t1078.length : Int))))) = some r := h; clear h; by_cases c2 : a0 < 0
 ·rw [if_pos c2] at H; have c2b0 : decide (a0 < 0) = true := decide_eq_true c2; clear c2; obtain rfl := Option.some.inj H; go_enter Try.func64, Try.ntmps64; go_wp2; go_ret; exact ⟨by first | rfl | (simp [errW_none, errW_some] <;> rfl) | (simp [*, errW_none, errW_some] <;> rfl), by exact rB HB⟩
 ·rw [if_neg c2] at H; have c2b0 : decide (a0 < 0) = false := decide_eq_false c2; clear c2; by_cases c3 : a0 > 10
  ·rw [if_pos c3] at H; have c3b0 : decide (10 < a0) = true := decide_eq_true c3; clear c3; obtain rfl := Option.some.inj H; go_enter Try.func64, Try.ntmps64; go_wp2; go_ret; exact ⟨by first | rfl | (simp [errW_none, errW_some] <;> rfl) | (simp [*, errW_none, errW_some] <;> rfl), by exact rB HB⟩
  ·rw [if_neg c3] at H; have c3b0 : decide (10 < a0) = false := decide_eq_false c3; clear c3; replace H := bE H; obtain ⟨t1078, A40, H⟩ := H; replace H : (some (t1078.length : Int)) = some r := H; have A4 := am A40; clear A40; obtain rfl := Option.some.inj H; go_enter Try.func64, Try.ntmps64; go_wp2_with (first | ((with_reducible refine gate_callee (f := 118) rfl ?_); refine goesL_ (some 10) rfl rfl Try.func118 (by kernel_rfl) rfl #[.int .i64 2, .int .i64 a0, .func (.func 119) #[] #[]] rfl (by (try simp only [mT, mC, mN]); first | done | rfl) ?_; (with_reducible refine (impl_freeWords_of119.calls k 2 a0 t1078 _ A4.out).mono ?_); rintro e w5 ⟨v1079, rfl, ho0, hb⟩; refine ⟨_, rfl, ?_⟩; have HO1080 := am (Kd.N_lower (Kd.N_mono (ok' := fun k_ => True) ho0 (fun k_ hk_ => trivial)) (bZ HB)); replace HB := bS HB hb; clear hb ho0; obtain ⟨Ao6, co6, eo6⟩ := Kd.N_slice HO1080.out; subst eo6)); go_ret; exact ⟨by first | rfl | (simp [errW_none, errW_some] <;> rfl) | (simp [*, errW_none, errW_some] <;> rfl), by exact rB HB⟩
end
end Go.Proofs.Ytooamcjgejajeaa.M
namespace Go.Proofs.Ytooamcjgejajeaa.M
open Go.RowKit Go.Proofs.Ytooamcjgejajeaa.KW Go.Proofs.YtooamcjgejajeaaW.PrintWords Go.Proofs.YtooamcjgejajeaaW.PrintLast Go.Proofs.YtooamcjgejajeaaW.PrintMore
attribute [local go_sem] max2_int min2_int max_two min_two max_three min_three max_four min_four
set_option linter.unusedVariables false
set_option linter.unusedSimpArgs false
def spec_CountSquareFree.f (k : Nat) (a0 : Int) (a1 : Int) : Option (Int) := (spec_l1In.f a0 1 3).bind fun t1081 => (if t1081 = true then ((spec_l1In.f a1 0 8).bind fun t1082 => (if t1082 = true then ((spec_l29Words.f k a0 a1 false).bind fun t1083 => (some (t1083.length : Int))) else (some (-1)))) else (some (-1)))
set_option maxHeartbeats 8000000 in
set_option maxRecDepth 100000 in
theorem spec_CountSquareFree.calls (k : Nat) (a0 : Int) (a1 : Int) (r : Int) (w : World) (h : spec_CountSquareFree.f k a0 a1 = some r) :
  Calls Try.prog 65 #[.int .i64 a0, .int .i64 a1] w fun e w' => e = .returned (.int .i64 r) ∧ Below w.heap.size w w' := by
 have HB := am (Below.refl w.heap.size w); have H : ((spec_l1In.f a0 1 3).bind fun t1081 => (if t1081 = true then ((spec_l1In.f a1 0 8).bind fun t1082 => (if t1082 = true then ((spec_l29Words.f k a0 a1 false).bind fun t1083 => (some (t1083.length : Int))) else (some (-1)))) else (some (-1)))) = some r := h; clear h; replace H := bE H; obtain ⟨t1081, A30, H⟩ := H; replace H : (if t1081 = true then ((spec_l1In.f a1 0 8).bind fun t1082 => (if t1082 = true then ((spec_l29Words.f k a0 a1 false).bind fun t1083 => (some (t1083.length : Int))) else (some (-1)))) else (some (-1))) = some r := H; have A3 := am A30; clear A30; by_cases c4 : t1081 = true
 ·subst c4; have H1 : ((spec_l1In.f a1 0 8).bind fun t1082 => (if t1082 = true then ((spec_l29Words.f k a0 a1 false).bind fun t1083 => (some (t1083.length : Int))) else (some (-1)))) = some r := by rw [if_pos rfl] at H; exact H
  clear H; have H := H1; clear H1; replace H := bE H; obtain ⟨t1082, A50, H⟩ := H; replace H : (if t1082 = true then ((spec_l29Words.f k a0 a1 false).bind fun t1083 => (some (t1083.length : Int))) else (some (-1))) = some r := H; have A5 := am A50; clear A50; by_cases c6 : t1082 = true
  ·subst c6; have H1 : ((spec_l29Words.f k a0 a1 false).bind fun t1083 => (some (t1083.length : Int))) = some r := by rw [if_pos rfl] at H; exact H
   clear H; have H := H1; clear H1; replace H := bE H; obtain ⟨t1083, A70, H⟩ := H; replace H : (some (t1083.length : Int)) = some r := H; have A7 := am A70; clear A70; obtain rfl := Option.some.inj H; go_enter Try.func65, Try.ntmps65; go_wp2_with (first | ((with_reducible refine gate_callee (f := 115) rfl ?_); refine goesL_ (some 6) rfl rfl Try.func115 (by kernel_rfl) rfl #[.int .i64 a0, .int .i64 1, .int .i64 3] rfl (by (try simp only [mT, mC, mN]); first | done | rfl) ?_; (with_reducible refine (spec_l1In.calls a0 1 3 true _ A3.out).mono ?_); rintro e w' ⟨rfl, ⟨nd, rfl⟩⟩; refine ⟨_, rfl, ?_⟩) | (go_at_call 115; (with_reducible refine (spec_l1In.calls a1 0 8 true _ A5.out).mono ?_); rintro e w' ⟨rfl, ⟨nd, rfl⟩⟩) | ((with_reducible refine gate_callee (f := 116) rfl ?_); refine goesL_ (some 15) rfl rfl Try.func116 (by kernel_rfl) rfl #[.int .i64 a0, .int .i64 a1, .bool false] rfl (by (try simp only [mT, mC, mN]); first | done | rfl) ?_; (with_reducible refine (spec_l29Words.calls k a0 a1 false t1083 _ A7.out).mono ?_); rintro e w8 ⟨v1084, rfl, ho0, hb⟩; refine ⟨_, rfl, ?_⟩; have HO1085 := am (Kd.N_lower (Kd.N_mono (ok' := fun k_ => True) ho0 (fun k_ hk_ => trivial)) (bZ HB)); replace HB := bS HB hb; clear hb ho0; obtain ⟨Ao9, co9, eo9⟩ := Kd.N_slice HO1085.out; subst eo9)); go_ret; exact ⟨by first | rfl | (simp [errW_none, errW_some] <;> rfl) | (simp [*, errW_none, errW_some] <;> rfl), by exact rB HB⟩
  ·replace c6 := Bool.eq_false_iff.mpr c6; subst c6; have H1 : (some (-1)) = some r := by rw [if_neg (show ¬ (false = true) by decide)] at H; exact H
   clear H; have H := H1; clear H1; obtain rfl := Option.some.inj H; go_enter Try.func65, Try.ntmps65; go_wp2_with (first | ((with_reducible refine gate_callee (f := 115) rfl ?_); refine goesL_ (some 6) rfl rfl Try.func115 (by kernel_rfl) rfl #[.int .i64 a0, .int .i64 1, .int .i64 3] rfl (by (try simp only [mT, mC, mN]); first | done | rfl) ?_; (with_reducible refine (spec_l1In.calls a0 1 3 true _ A3.out).mono ?_); rintro e w' ⟨rfl, ⟨nd, rfl⟩⟩; refine ⟨_, rfl, ?_⟩) | (go_at_call 115; (with_reducible refine (spec_l1In.calls a1 0 8 false _ A5.out).mono ?_); rintro e w' ⟨rfl, ⟨nd, rfl⟩⟩)); go_ret; exact ⟨by first | rfl | (simp [errW_none, errW_some] <;> rfl) | (simp [*, errW_none, errW_some] <;> rfl), by exact rB HB⟩
 ·replace c4 := Bool.eq_false_iff.mpr c4; subst c4; have H1 : (some (-1)) = some r := by rw [if_neg (show ¬ (false = true) by decide)] at H; exact H
  clear H; have H := H1; clear H1; obtain rfl := Option.some.inj H; go_enter Try.func65, Try.ntmps65; go_wp2_with (first | ((with_reducible refine gate_callee (f := 115) rfl ?_); refine goesL_ (some 6) rfl rfl Try.func115 (by kernel_rfl) rfl #[.int .i64 a0, .int .i64 1, .int .i64 3] rfl (by (try simp only [mT, mC, mN]); first | done | rfl) ?_; (with_reducible refine (spec_l1In.calls a0 1 3 false _ A3.out).mono ?_); rintro e w' ⟨rfl, ⟨nd, rfl⟩⟩; refine ⟨_, rfl, ?_⟩)); go_ret; exact ⟨by first | rfl | (simp [errW_none, errW_some] <;> rfl) | (simp [*, errW_none, errW_some] <;> rfl), by exact rB HB⟩
def spec_CountOverlapFree.f (k : Nat) (a0 : Int) : Option (Int) := (spec_l1In.f a0 0 10).bind fun t1086 => (if t1086 = true then ((spec_l29Words.f k 2 a0 true).bind fun t1087 => (some (t1087.length : Int))) else (some (-1)))
set_option maxHeartbeats 8000000 in
set_option maxRecDepth 100000 in
theorem spec_CountOverlapFree.calls (k : Nat) (a0 : Int) (r : Int) (w : World) (h : spec_CountOverlapFree.f k a0 = some r) :
  Calls Try.prog 66 #[.int .i64 a0] w fun e w' => e = .returned (.int .i64 r) ∧ Below w.heap.size w w' := by
 have HB := am (Below.refl w.heap.size w); have H : ((spec_l1In.f a0 0 10).bind fun t1086 => (if t1086 = true then ((spec_l29Words.f k 2 a0 true).bind fun t1087 => (some (t1087.length : Int))) else (some (-1)))) = some r := h; clear h; replace H := bE H; obtain ⟨t1086, A20, H⟩ := H; replace H : (if t1086 = true then ((spec_l29Words.f k 2 a0 true).bind fun t1087 => (some (t1087.length : Int))) else (some (-1))) = some r := H; have A2 := am A20; clear A20; by_cases c3 : t1086 = true
 ·subst c3; have H1 : ((spec_l29Words.f k 2 a0 true).bind fun t1087 => (some (t1087.length : Int))) = some r := by rw [if_pos rfl] at H; exact H
  clear H; have H := H1; clear H1; replace H := bE H; obtain ⟨t1087, A40, H⟩ := H; replace H : (some (t1087.length : Int)) = some r := H; have A4 := am A40; clear A40; obtain rfl := Option.some.inj H; go_enter Try.func66, Try.ntmps66; go_wp2_with (first | ((with_reducible refine gate_callee (f := 115) rfl ?_); refine goesL_ (some 4) rfl rfl Try.func115 (by kernel_rfl) rfl #[.int .i64 a0, .int .i64 0, .int .i64 10] rfl (by (try simp only [mT, mC, mN]); first | done | rfl) ?_; (with_reducible refine (spec_l1In.calls a0 0 10 true _ A2.out).mono ?_); rintro e w' ⟨rfl, ⟨nd, rfl⟩⟩; refine ⟨_, rfl, ?_⟩) | ((with_reducible refine gate_callee (f := 116) rfl ?_); refine goesL_ (some 7) rfl rfl Try.func116 (by kernel_rfl) rfl #[.int .i64 2, .int .i64 a0, .bool true] rfl (by (try simp only [mT, mC, mN]); first | done | rfl) ?_; (with_reducible refine (spec_l29Words.calls k 2 a0 true t1087 _ A4.out).mono ?_); rintro e w5 ⟨v1088, rfl, ho0, hb⟩; refine ⟨_, rfl, ?_⟩; have HO1089 := am (Kd.N_lower (Kd.N_mono (ok' := fun k_ => True) ho0 (fun k_ hk_ => trivial)) (bZ HB)); replace HB := bS HB hb; clear hb ho0; obtain ⟨Ao6, co6, eo6⟩ := Kd.N_slice HO1089.out; subst eo6)); go_ret; exact ⟨by first | rfl | (simp [errW_none, errW_some] <;> rfl) | (simp [*, errW_none, errW_some] <;> rfl), by exact rB HB⟩
 ·replace c3 := Bool.eq_false_iff.mpr c3; subst c3; have H1 : (some (-1)) = some r := by rw [if_neg (show ¬ (false = true) by decide)] at H; exact H
  clear H; have H := H1; clear H1; obtain rfl := Option.some.inj H; go_enter Try.func66, Try.ntmps66; go_wp2_with (first | ((with_reducible refine gate_callee (f := 115) rfl ?_); refine goesL_ (some 4) rfl rfl Try.func115 (by kernel_rfl) rfl #[.int .i64 a0, .int .i64 0, .int .i64 10] rfl (by (try simp only [mT, mC, mN]); first | done | rfl) ?_; (with_reducible refine (spec_l1In.calls a0 0 10 false _ A2.out).mono ?_); rintro e w' ⟨rfl, ⟨nd, rfl⟩⟩; refine ⟨_, rfl, ?_⟩)); go_ret; exact ⟨by first | rfl | (simp [errW_none, errW_some] <;> rfl) | (simp [*, errW_none, errW_some] <;> rfl), by exact rB HB⟩
def spec_DrawLettersAfter.f (k : Nat) (l0 : List Int) : Option ((List (List Int)) × Int × Int) := (spec_l1New.f k l0).bind fun bt1091 => ((spec_l7Morphism.f k bt1091.1 bt1091.2.1 bt1091.2.2).bind fun bt1095 => ((spec_l1Below.f bt1091.1 bt1095.2.1 bt1095.2.2 5).bind fun bt1101 => ((spec_l1Below.f bt1091.1 bt1101.2.1 bt1101.2.2 15).bind fun bt1104 => (some (bt1095.1, wrap64 (bt1101.1 - 1), wrap64 (bt1104.1 - 1))))))
def spec_DrawLettersAfter.T4 : Bool × List (List Nat × List Nat) := (true, [([], []), ([], []), ([], []), ([2], [2]), ([3], [3]), ([0, 3, 0], [0]), ([1, 5, 0, 1, 5], [1]), ([4, 6, 0, 1, 2, 3, 4, 5, 6], [4])])
def spec_DrawLettersAfter.B4 : List Nat := [0, 0, 0, 4, 12, 13, 47, 127]
theorem spec_DrawLettersAfter.tab4 : rtab .any (opsOf Try.f67 4) = spec_DrawLettersAfter.T4 := by kernel_rfl
theorem spec_DrawLettersAfter.bits4 : waitsOk spec_DrawLettersAfter.T4.2 spec_DrawLettersAfter.B4 = true := by kernel_rfl
set_option maxHeartbeats 8000000 in
set_option maxRecDepth 100000 in
theorem spec_DrawLettersAfter.calls (k : Nat) (A0 : Option Addr) (c0 : Nat) (l0 : List Int) (r1 : List (List Int)) (r2 : Int) (r3 : Int) (w : World) (hr0 : Kd.C (Kd.int .u8) w A0 l0.length l0) (hc0 : l0.length ≤ c0) (h : spec_DrawLettersAfter.f k l0 = some (r1, r2, r3)) :
  Calls Try.prog 67 #[.slice A0 l0.length c0] w fun e w' => ∃ v0_ : Value, e = .returned (.tuple #[.agg #[v0_], .int .i64 r2, .int .i64 r3]) ∧ Kd.N (Kd.slice 3 (Kd.int .i64)) 36 w' w.heap.size (fun k_ => (w.heap.size ≤ k_)) v0_ r1 ∧ Below w.heap.size w w' := by
 have hu28 := Try.underlying28; have HR0 := am hr0; have HC0 := am hc0; clear hr0 hc0; have HB := am (Below.refl w.heap.size w); have H : ((spec_l1New.f k l0).bind fun bt1091 => ((spec_l7Morphism.f k bt1091.1 bt1091.2.1 bt1091.2.2).bind fun bt1095 => ((spec_l1Below.f bt1091.1 bt1095.2.1 bt1095.2.2 5).bind fun bt1101 => ((spec_l1Below.f bt1091.1 bt1101.2.1 bt1101.2.2 15).bind fun bt1104 => (some (bt1095.1, wrap64 (bt1101.1 - 1), wrap64 (bt1104.1 - 1))))))) = some (r1, r2, r3) := h; clear h; replace H := bE H; obtain ⟨⟨t1091, t1092, t1093⟩, A20, H⟩ := H; replace H : ((spec_l7Morphism.f k t1091 t1092 t1093).bind fun bt1095 => ((spec_l1Below.f t1091 bt1095.2.1 bt1095.2.2 5).bind fun bt1101 => ((spec_l1Below.f t1091 bt1101.2.1 bt1101.2.2 15).bind fun bt1104 => (some (bt1095.1, wrap64 (bt1101.1 - 1), wrap64 (bt1104.1 - 1)))))) = some (r1, r2, r3) := H; have A2 := am A20; clear A20; replace H := bE H; obtain ⟨⟨t1095, t1098, t1099⟩, A30, H⟩ := H; replace H : ((spec_l1Below.f t1091 t1098 t1099 5).bind fun bt1101 => ((spec_l1Below.f t1091 bt1101.2.1 bt1101.2.2 15).bind fun bt1104 => (some (t1095, wrap64 (bt1101.1 - 1), wrap64 (bt1104.1 - 1))))) = some (r1, r2, r3) := H; have A3 := am A30; clear A30; replace H := bE H; obtain ⟨⟨t1101, t1102, t1103⟩, A40, H⟩ := H; replace H : ((spec_l1Below.f t1091 t1102 t1103 15).bind fun bt1104 => (some (t1095, wrap64 (t1101 - 1), wrap64 (bt1104.1 - 1)))) = some (r1, r2, r3) := H; have A4 := am A40; clear A40; replace H := bE H; obtain ⟨⟨t1104, t1105, t1106⟩, A50, H⟩ := H; replace H : (some (t1095, wrap64 (t1101 - 1), wrap64 (t1104 - 1))) = some (r1, r2, r3) := H; have A5 := am A50; clear A50; simp only [Option.some.injEq, Prod.mk.injEq] at H; obtain ⟨rfl, rfl, rfl⟩ := H; go_enter Try.func67, Try.ntmps67
 try go_wp2_with (first | ((with_reducible refine gate_dst (N := 2) rfl ?_); refine box_event ?hg (N := 2) ?hd (cs := #[.slice none 0 0]) (t := 28) ?hr ?_; (case hd => rfl); (case hg => rfl); (case hr => first | (go_simp; done) | (go_simp; rfl)); intro gb1090 hg w6 hbox hb; have n0_ := Aside0.mk (below_step (by repeat (first | (with_reducible first | exact HB.out | apply below_alloc | apply pw_below_drewN | apply below_drew1) | exact HB.out)) hb); have n1_ := Aside0.mk (hbox); have n2_ := Aside0.mk ((by rw [hg]; exact (below_size (by repeat (first | (with_reducible first | exact HB.out | apply below_alloc | apply pw_below_drewN | apply below_drew1) | exact HB.out))) : w.heap.size ≤ gb1090)); have n3_ := Aside0.mk ((by rw [hg]; exact (below_size (by repeat (first | (with_reducible first | exact HB.out | apply below_alloc | apply pw_below_drewN | apply below_drew1) | exact HB.out))) : w.heap.size ≤ gb1090)); clear HB; have HB := n0_; have BK1090 := n1_; have GW1090 := n2_; have GE1090 := n3_; clear n0_ n1_ n2_ n3_; clear hb hbox hg) | ((with_reducible refine gate_callee (f := 126) rfl ?_); refine goesL_ (some 9) rfl rfl Try.func126 (by kernel_rfl) rfl #[.slice A0 l0.length c0] rfl (by (try simp only [List.map_toArray, List.map_cons, List.map_nil]); first | done | rfl | (simp only [List.length_drop, List.length_take]; rfl)) ?_; (with_reducible refine (spec_l1New.calls k _ _ l0 t1091 t1092 t1093 w _ ?side1 ?side2 ?side3 A2.out).mono ?_); (case side1 => repeat (first | (with_reducible first | exact HB.out | apply below_alloc | apply pw_below_drewN | apply below_drew1 | refine below_set ?_ GE1090.out) | exact HB.out)); (case side2 => exact HR0.out); (case side3 => exact HC0.out); rintro e w7 ⟨g1094, rfl, hi, hb, hb2⟩; refine ⟨_, rfl, ?_⟩; have n0_ := Aside0.mk (blk_below (g := gb1090) (o := .cells #[.slice none 0 0] 28 (0, 0)) (by (with_reducible repeat (first | refine blk_drewN ?_ _ | refine blk_drew ?_ | refine blk_alloc ?_ _)); exact BK1090.out) hb2); have n1_ := Aside0.mk (hb); have n2_ := Aside0.mk (hi); have n3_ := Aside0.mk (IsS114.ne_blk hi (blk_below (g := gb1090) (o := .cells #[.slice none 0 0] 28 (0, 0)) (by (with_reducible repeat (first | refine blk_drewN ?_ _ | refine blk_drew ?_ | refine blk_alloc ?_ _)); exact BK1090.out) hb2) (by decide)); have n4_ := Aside0.mk (Ne.symm (IsS114.ne_blk hi (blk_below (g := gb1090) (o := .cells #[.slice none 0 0] 28 (0, 0)) (by (with_reducible repeat (first | refine blk_drewN ?_ _ | refine blk_drew ?_ | refine blk_alloc ?_ _)); exact BK1090.out) hb2) (by decide))); clear BK1090; clear HB; have BK1090 := n0_; have HB := n1_; have HI1094 := n2_; have NB1094_1090 := n3_; have NB1090_1094 := n4_; clear n0_ n1_ n2_ n3_ n4_; (try clear hb); (try clear hb2); (try clear hk); (try clear hi)) | ((with_reducible refine gate_callee (f := 128) rfl ?_); refine goesL_ (some 11) rfl rfl Try.func128 (by kernel_rfl) rfl #[.pointer (some ⟨g1094, 0, none⟩)] rfl (by (try simp only [List.map_toArray, List.map_cons, List.map_nil]); first | done | rfl | (simp only [List.length_drop, List.length_take]; rfl)) ?_; (with_reducible refine (spec_l7Morphism.calls k g1094 t1091 t1092 t1093 t1095 t1098 t1099 w _ ?side1 ?side2 A3.out).mono ?_); (case side1 => repeat (first | (with_reducible first | exact HI1094.out | apply IsS114.alloc | apply IsS114.drewN | apply IsS114.drew | apply IsS114.set_1 | apply IsS114.set_2 | refine IsS114.far ?_ NB1094_1090.out _) | exact HI1094.out)); (case side2 => repeat (first | (with_reducible first | exact HB.out | apply below_alloc | apply pw_below_drewN | apply below_drew1 | refine below_set ?_ (IsS114.ge HI1094.out) | refine below_set ?_ GE1090.out) | exact HB.out)); rintro e w8 ⟨v1096, rfl, ho0, hi, hb, hk⟩; refine ⟨_, rfl, ?_⟩; have n0_ := Aside0.mk (KeepBut.blk hk (g' := gb1090) (o := .cells #[.slice none 0 0] 28 (0, 0)) (by (with_reducible repeat (first | refine blk_drewN ?_ _ | refine blk_drew ?_ | refine blk_alloc ?_ _)); exact BK1090.out) NB1090_1094.out (by simp)); have n1_ := Aside0.mk (Kd.N_lower (Kd.N_mono (ok' := fun k_ => (w.heap.size ≤ k_) ∧ k_ ≠ gb1090 ∧ k_ ≠ g1094) ho0 (fun k_ hk_ => ⟨(Nat.le_trans (below_size (by repeat (first | (with_reducible first | exact HB.out | apply below_alloc | apply pw_below_drewN | apply below_drew1 | refine below_set ?_ (IsS114.ge HI1094.out) | refine below_set ?_ GE1090.out) | exact HB.out))) hk_), (Kd.freshB (g := gb1090) (o := .cells #[.slice none 0 0] 28 (0, 0)) (by (with_reducible repeat (first | refine blk_drewN ?_ _ | refine blk_drew ?_ | refine blk_alloc ?_ _)); exact BK1090.out) k_ hk_), (IsS114.fresh (by repeat (first | (with_reducible first | exact HI1094.out | apply IsS114.alloc | apply IsS114.drewN | apply IsS114.drew | apply IsS114.set_1 | apply IsS114.set_2 | refine IsS114.far ?_ NB1094_1090.out _) | exact HI1094.out)) k_ hk_)⟩)) (below_size (by repeat (first | (with_reducible first | exact HB.out | apply below_alloc | apply pw_below_drewN | apply below_drew1 | refine below_set ?_ (IsS114.ge HI1094.out) | refine below_set ?_ GE1090.out) | exact HB.out)))); have n2_ := Aside0.mk (hb); have n3_ := Aside0.mk (hi); clear BK1090; clear HB; clear HI1094; have BK1090 := n0_; have HO1097 := n1_; have HB := n2_; have HI1094 := n3_; clear n0_ n1_ n2_ n3_; (try clear hb); (try clear hb2); (try clear hk); (try clear hi); (try clear ho0)) | ((with_reducible refine gate_dst (N := 6) rfl ?_); refine box_event ?hg (N := 6) ?hd (cs := #[.slice none 0 0]) (t := 28) ?hr ?_; (case hd => rfl); (case hg => rfl); (case hr => first | (go_simp; done) | (go_simp; rfl)); intro gb1100 hg w9 hbox hb; have n0_ := Aside0.mk (Kd.N_below (Kd.N_elderB (by (with_reducible repeat (first | apply Kd.N_alloc | apply Kd.N_drewN | apply Kd.N_drew)); exact HO1097.out) gb1100 (Nat.le_of_eq hg.symm)) hb); have n1_ := Aside0.mk (blk_below (g := gb1090) (o := .cells #[.slice none 0 0] 28 (0, 0)) (by (with_reducible repeat (first | refine blk_drewN ?_ _ | refine blk_drew ?_ | refine blk_alloc ?_ _)); exact BK1090.out) hb); have n2_ := Aside0.mk (IsS114.below (by repeat (first | (with_reducible first | exact HI1094.out | apply IsS114.alloc | apply IsS114.drewN | apply IsS114.drew | apply IsS114.set_1 | apply IsS114.set_2 | refine IsS114.far ?_ NB1094_1090.out _) | exact HI1094.out)) hb); have n3_ := Aside0.mk (below_step (by repeat (first | (with_reducible first | exact HB.out | apply below_alloc | apply pw_below_drewN | apply below_drew1 | refine below_set ?_ (IsS114.ge HI1094.out) | refine below_set ?_ GE1090.out) | exact HB.out)) hb); have n4_ := Aside0.mk (hbox); have n5_ := Aside0.mk ((by rw [hg]; exact (below_size (by repeat (first | (with_reducible first | exact HB.out | apply below_alloc | apply pw_below_drewN | apply below_drew1 | refine below_set ?_ (IsS114.ge HI1094.out) | refine below_set ?_ GE1090.out) | exact HB.out))) : w.heap.size ≤ gb1100)); have n6_ := Aside0.mk ((by rw [hg]; exact (below_size (by repeat (first | (with_reducible first | exact HB.out | apply below_alloc | apply pw_below_drewN | apply below_drew1 | refine below_set ?_ (IsS114.ge HI1094.out) | refine below_set ?_ GE1090.out) | exact HB.out))) : w.heap.size ≤ gb1100)); have n7_ := Aside0.mk ((by rw [hg]; exact Nat.ne_of_lt (blk_lt (g := gb1090) (o := .cells #[.slice none 0 0] 28 (0, 0)) (by (with_reducible repeat (first | refine blk_drewN ?_ _ | refine blk_drew ?_ | refine blk_alloc ?_ _)); exact BK1090.out)) : gb1090 ≠ gb1100)); have n8_ := Aside0.mk ((by rw [hg]; exact Nat.ne_of_gt (blk_lt (g := gb1090) (o := .cells #[.slice none 0 0] 28 (0, 0)) (by (with_reducible repeat (first | refine blk_drewN ?_ _ | refine blk_drew ?_ | refine blk_alloc ?_ _)); exact BK1090.out)) : gb1100 ≠ gb1090)); have n9_ := Aside0.mk ((by rw [hg]; exact Nat.ne_of_lt (IsS114.lt (show IsS114 w _ g1094 t1091 t1098 t1099 from by repeat (first | (with_reducible first | exact HI1094.out | apply IsS114.alloc | apply IsS114.drewN | apply IsS114.drew | apply IsS114.set_1 | apply IsS114.set_2 | refine IsS114.far ?_ NB1094_1090.out _) | exact HI1094.out))) : g1094 ≠ gb1100)); have n10_ := Aside0.mk ((by rw [hg]; exact Nat.ne_of_gt (IsS114.lt (show IsS114 w _ g1094 t1091 t1098 t1099 from by repeat (first | (with_reducible first | exact HI1094.out | apply IsS114.alloc | apply IsS114.drewN | apply IsS114.drew | apply IsS114.set_1 | apply IsS114.set_2 | refine IsS114.far ?_ NB1094_1090.out _) | exact HI1094.out))) : gb1100 ≠ g1094)); clear HO1097; clear BK1090; clear HI1094; clear HB; have HO1097 := n0_; have BK1090 := n1_; have HI1094 := n2_; have HB := n3_; have BK1100 := n4_; have GW1100 := n5_; have GE1100 := n6_; have NB1090_1100 := n7_; have NB1100_1090 := n8_; have NB1094_1100 := n9_; have NB1100_1094 := n10_; clear n0_ n1_ n2_ n3_ n4_ n5_ n6_ n7_ n8_ n9_ n10_; clear hb hbox hg; obtain ⟨Ao10, co10, eo10⟩ := Kd.N_slice HO1097.out; subst eo10; have hnb11 := NB1100_1090.out; have hnc11 := NB1090_1100.out; have hnb12 := NB1100_1094.out; have hnc12 := NB1094_1100.out; have hcz13_0 : w9.cell? ⟨gb1100, 0, none⟩ = some (.slice none 0 0) := (blk_cell BK1100.out 0).trans rfl; have hfz13_0 := blk_frozen BK1100.out 0) | ((with_reducible refine gate_callee (f := 127) rfl ?_); refine goesL_ (some 13) rfl rfl Try.func127 (by kernel_rfl) rfl #[.pointer (some ⟨g1094, 0, none⟩), .int .i64 5] rfl (by (try simp only [List.map_toArray, List.map_cons, List.map_nil]); first | done | rfl | (simp only [List.length_drop, List.length_take]; rfl)) ?_; (with_reducible refine (spec_l1Below.calls g1094 t1091 t1098 t1099 5 t1101 t1102 t1103 w _ ?side1 ?side2 A4.out).mono ?_); (case side1 => repeat (first | (with_reducible first | exact HI1094.out | apply IsS114.alloc | apply IsS114.drewN | apply IsS114.drew | apply IsS114.set_1 | apply IsS114.set_2 | refine IsS114.far ?_ NB1094_1090.out _ | refine IsS114.far ?_ NB1094_1100.out _) | exact HI1094.out)); (case side2 => repeat (first | (with_reducible first | exact HB.out | apply below_alloc | apply pw_below_drewN | apply below_drew1 | refine below_set ?_ (IsS114.ge HI1094.out) | refine below_set ?_ GE1090.out | refine below_set ?_ GE1100.out) | exact HB.out)); rintro e w14 ⟨rfl, hi, hb, hk⟩; refine ⟨_, rfl, ?_⟩; have n0_ := Aside0.mk (KeepBut.blk hk (g' := gb1090) (o := .cells #[.slice none 0 0] 28 (0, 0)) (by (with_reducible repeat (first | refine blk_drewN ?_ _ | refine blk_drew ?_ | refine blk_alloc ?_ _)); refine blk_far ?_ NB1090_1100.out _; (with_reducible repeat (first | refine blk_drewN ?_ _ | refine blk_drew ?_ | refine blk_alloc ?_ _)); exact BK1090.out) NB1090_1094.out (by simp)); have n1_ := Aside0.mk (Kd.N_mono (Kd.N_keep (Kd.N_mono (ok := fun k_ => ((((w.heap.size ≤ k_)) ∧ (k_ ≠ gb1090 ∧ k_ ≠ g1094)) ∧ k_ ≠ gb1100)) (by (with_reducible repeat (first | apply Kd.N_alloc | apply Kd.N_drewN | apply Kd.N_drew)); exact (Kd.N_mono (Kd.N_far (p := ⟨gb1100, 0, none⟩) (Kd.N_mono HO1097.out (fun k_ hk => (⟨hk, hk.2⟩ : _ ∧ k_ ≠ gb1100))) (fun _ hk => hk.2) (.slice Ao10 t1095.length co10)) (fun _ h_ => h_.1))) (fun k_ hk_ => (⟨hk_, hk_.1.2.2⟩ : _ ∧ k_ ≠ g1094))) hk (fun _ h => h.2)) (fun _ h => h.1)); have n2_ := Aside0.mk (KeepBut.blk hk (g' := gb1100) (o := .cells #[.slice Ao10 t1095.length co10] 28 (0, 0)) (by (with_reducible repeat (first | refine blk_drewN ?_ _ | refine blk_drew ?_ | refine blk_alloc ?_ _)); refine blk_put (cs := #[.slice none 0 0]) ?_ 0 _ rfl; (with_reducible repeat (first | refine blk_drewN ?_ _ | refine blk_drew ?_ | refine blk_alloc ?_ _)); exact BK1100.out) NB1100_1094.out (by simp)); have n3_ := Aside0.mk (hb); have n4_ := Aside0.mk (hi); clear BK1090; clear HO1097; clear BK1100; clear HB; clear HI1094; have BK1090 := n0_; have HO1097 := n1_; have BK1100 := n2_; have HB := n3_; have HI1094 := n4_; clear n0_ n1_ n2_ n3_ n4_; (try clear hb); (try clear hb2); (try clear hk); (try clear hi)))
 have n0_ := Aside0.mk (Kd.N_drew HO1097.out); have n1_ := Aside0.mk (blk_drew BK1090.out); have n2_ := Aside0.mk (blk_drew BK1100.out); have n3_ := Aside0.mk (IsS114.drew HI1094.out); have n4_ := Aside0.mk (below_drew1 HB.out); clear HO1097; clear BK1090; clear BK1100; clear HI1094; clear HB; have HO1097 := n0_; have BK1090 := n1_; have BK1100 := n2_; have HI1094 := n3_; have HB := n4_; clear n0_ n1_ n2_ n3_ n4_; refine start_ (n := 8) (S := fun w' => w'.cell? ⟨gb1100, 0, none⟩ = some (.slice Ao10 t1095.length co10)) (ds := []) #[false, false, false, false, false, false, false, false] (by kernel_rfl) rfl rfl ((blk_cell BK1100.out 0).trans rfl) (fun hHeld => ?_); refine with_tabW spec_DrawLettersAfter.tab4 spec_DrawLettersAfter.bits4 (fun HT_ HW_ => ?_); generalize w14.drew = w15 at HO1097 BK1090 BK1100 HI1094 HB hHeld ⊢; refine pure_ (i := 1) (N := some 16) (v := ?_) (a' := ?_) (bA 8 2) rfl rfl (any_of HT_.out (by kernel_rfl)) (fun _ _ _ h => h) (Or.inl ⟨by rfl, ?_⟩) ?_ ?_; rotate_left; (intro w'; go_simp; (with_reducible rfl)); rotate_left; (simp only [Act.put, qa, qz, qs, i64_w, i32_w]; rfl); refine pure_ (i := 2) (N := some 17) (v := ?_) (a' := ?_) (bA 8 6) rfl rfl (any_of HT_.out (by kernel_rfl)) (fun _ _ _ h => h) (Or.inl ⟨by rfl, ?_⟩) ?_ ?_; rotate_left
 ·intro w'; go_simp; (with_reducible rfl)
 rotate_left; (simp only [Act.put, qa, qz, qs, i64_w, i32_w]; rfl); refine take_ (i := 0) (N := some 15) (v := ?_) (a' := ?_) (bA 8 7) rfl rfl (take_ofW HT_.out HW_.out (by kernel_rfl)) (fun _ _ _ h => h) (Or.inl ⟨by rfl, ?_⟩) hHeld ?_ ?_; rotate_left
 ·intro w' s0; go_simp; (with_reducible rfl)
 rotate_left; (simp only [Act.put, qa, qz, qs, i64_w, i32_w]; rfl); refine one_ (i := 3) (N := some 18) (bA 8 15) rfl rfl (one_of HT_.out (by kernel_rfl)) (by decide) (fun K hK => ?_); refine goes_ Try.func127 (by kernel_rfl) rfl #[.pointer (some ⟨g1094, 0, none⟩), .int .i64 15] (by rfl) rfl rfl (by (try simp only [mT, mC, mN]); first | done | rfl) ?_; (with_reducible refine (spec_l1Below.calls g1094 t1091 t1102 t1103 15 t1104 t1105 t1106 w _ ?side1 ?side2 A5.out).mono ?_); (case side1 => exact IsS114.m HI1094); (case side2 => exact rB HB); rintro e w16 ⟨rfl, hi, hb, hk⟩; refine ⟨_, rfl, ?_⟩; replace BK1090 := am (KeepBut.blk hk (g' := gb1090) (o := .cells #[.slice none 0 0] 28 (0, 0)) (by exact rX BK1090) NB1090_1094.out (by simp)); replace HO1097 := am (Kd.N_mono (Kd.N_keep (Kd.N_mono (ok := fun k_ => ((((w.heap.size ≤ k_)) ∧ (k_ ≠ gb1090 ∧ k_ ≠ g1094)) ∧ k_ ≠ gb1100)) (by exact rN HO1097) (fun k_ hk_ => (⟨hk_, hk_.1.2.2⟩ : _ ∧ k_ ≠ g1094))) hk (fun _ h => h.2)) (fun _ h => h.1)); replace BK1100 := am (KeepBut.blk hk (g' := gb1100) (o := .cells #[.slice Ao10 t1095.length co10] 28 (0, 0)) (by exact rX BK1100) NB1100_1094.out (by simp)); replace HB := am (hb); replace HI1094 := am (hi)
 (try clear hb); (try clear hb2); (try clear hk); (try clear hi); refine hK.out _ _ ((blk_cell BK1100.out 0).trans rfl) (fun hHeld => ?_); clear hK K; refine norm_ (a' := ?_) ?_ ?_; rotate_left; (show Act.put _ (some 18) _ = _; simp only [Act.put, qa, qz, qs, i64_w, i32_w]; rfl); refine pure_ (i := 4) (N := some 19) (v := ?_) (a' := ?_) (bA 8 31) rfl rfl (any_of HT_.out (by kernel_rfl)) (fun _ _ _ h => h) (Or.inl ⟨by rfl, ?_⟩) ?_ ?_; rotate_left
 ·intro w'; go_simp; (with_reducible rfl)
 rotate_left; (simp only [Act.put, qa, qz, qs, i64_w, i32_w]; rfl); refine one_ (i := 5) (N := none) (bA 8 63) rfl rfl (one_of HT_.out (by kernel_rfl)) (by decide) (fun K hK => ?_); have hs17 : w16.cell? ⟨gb1090, 0, none⟩ = some (.slice none 0 0) := (blk_cell BK1090.out 0).trans rfl; have hfs17 := blk_frozen BK1090.out 0; have hns17_1 := NB1100_1090.out; have hms17_1 := NB1090_1100.out; refine skip_ (w1 := ?_) (by rfl) rfl ?_ ?_; rotate_left
 ·go_simp; rfl
 refine hK.out _ _ (((cell_far (p := ⟨gb1090, _, none⟩) NB1100_1090.out _).trans (hHeld))) (fun hHeld => ?_); clear hK K; refine pure_ (i := 6) (N := some 3) (v := ?_) (a' := ?_) (bA 8 127) rfl rfl (any_of HT_.out (by kernel_rfl)) (fun _ _ _ h => h) (Or.inl ⟨by rfl, ?_⟩) ?_ ?_; rotate_left; (intro w'; go_simp; (with_reducible rfl)); rotate_left; (simp only [Act.put, qa, qz, qs, i64_w, i32_w]; rfl); refine pure_ (i := 7) (N := some 4) (v := ?_) (a' := ?_) (bA 8 255) rfl rfl (any_of HT_.out (by kernel_rfl)) (fun _ _ _ h => h) (Or.inl ⟨by rfl, ?_⟩) ?_ ?_; rotate_left
 ·intro w'; go_simp; (with_reducible rfl)
 rotate_left; (simp only [Act.put, qa, qz, qs, i64_w, i32_w]; rfl); refine done_ (done_of HT_.out (by kernel_rfl)) ?_
 try go_wp2
 refine bodyPost_ret (results_ctt rfl _ _ gb1090 28 #[.slice Ao10 t1095.length co10] (0, 0) _ rfl (by (with_reducible repeat (first | refine blk_drewN ?_ _ | refine blk_drew ?_ | refine blk_alloc ?_ _)); refine blk_put (cs := #[.slice none 0 0]) ?_ 0 _ rfl; exact rX BK1090) Try.underlying28 rfl (by kernel_rfl)) rfl ?_; exact ⟨_, by first | rfl | (simp [errW_none, errW_some] <;> rfl) | (simp [*, errW_none, errW_some] <;> rfl), by (with_reducible repeat (first | apply Kd.N_alloc | apply Kd.N_drewN | apply Kd.N_drew)); exact Kd.N_mono (Kd.N_far (p := ⟨gb1090, 0, none⟩) (Kd.N_mono HO1097.out (fun k_ hk => (⟨hk, hk.1.2.1⟩ : _ ∧ k_ ≠ gb1090))) (fun _ hk => hk.2) (.slice Ao10 t1095.length co10)) (fun _ hk => hk.1.1.1), by repeat (first | (with_reducible first | exact HB.out | apply below_alloc | apply pw_below_drewN | apply below_drew1 | refine below_set ?_ (IsS114.ge HI1094.out) | refine below_set ?_ GE1090.out | refine below_set ?_ GE1100.out) | exact HB.out)⟩
end Go.Proofs.Ytooamcjgejajeaa.M
