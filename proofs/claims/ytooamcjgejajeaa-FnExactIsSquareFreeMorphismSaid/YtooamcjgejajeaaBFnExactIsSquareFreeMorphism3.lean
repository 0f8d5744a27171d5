/- Texts of the claim on FnExactIsSquareFreeMorphism, joined (part 3 of 5): walks of the functions, what they come to, and in the last part the row. No condition of mine. -/
import Derived.Test.YtooamcjgejajeaaBFnExactIsSquareFreeMorphism1
import Derived.Test.YtooamcjgejajeaaBFnExactIsSquareFreeMorphism2
import Derived.Test.YtooamcjgejajeaaWWords
import Derived.Test.YtooamcjgejajeaaWMore
/- Walks for this claim, written by a program of mine over the kit's print. No condition of mine. -/
namespace Go.Proofs.Ytooamcjgejajeaa.M
open Go.RowKit Go.Proofs.Ytooamcjgejajeaa.KW Go.Proofs.YtooamcjgejajeaaW.PrintWords Go.Proofs.YtooamcjgejajeaaW.PrintLast Go.Proofs.YtooamcjgejajeaaW.PrintMore
attribute [local go_sem] max2_int min2_int max_two min_two max_three min_three max_four min_four   -- for this text's walks alone
set_option linter.unusedVariables false
set_option linter.unusedSimpArgs false

/-! ### spec_IsSquareFreeMorphism: function 39 -/
def spec_IsSquareFreeMorphism.f (k : Nat) (l0_0 : List (List Int)) : Option (Bool) := if (l0_0.length : Int) = 3 then (if 0 < (l0_0.length : Int) then (if ((rd_L1 l0_0 0).length : Int) > 0 then ((spec_IsUniform.f k l0_0 ((rd_L1 l0_0 0).length : Int)).bind fun t644 => (if t644 = true then ((spec_KeepsSquareFree.f k l0_0 3).bind fun t645 => (some t645)) else (some false))) else (some false)) else (none)) else (some false)
theorem spec_IsSquareFreeMorphism.mono : ∀ a0 k, LeO (spec_IsSquareFreeMorphism.f k a0) (spec_IsSquareFreeMorphism.f (k + 1) a0) := by
 intro a0 k
 unfold spec_IsSquareFreeMorphism.f
 repeat' first
   | (with_reducible exact spec_IsUniform.mono _ _ _)
   | (with_reducible exact spec_KeepsSquareFree.mono _ _ _)
   | (with_reducible exact LeO.refl _)
   | (with_reducible exact LeO.none _)
   | (with_reducible refine LeO.ite ?_ ?_)
   | (with_reducible refine LeO.bind ?_ (fun _ => ?_))
   | exact spec_IsUniform.mono _ _ _
   | exact spec_KeepsSquareFree.mono _ _ _
   | exact LeO.none _
   | refine LeO.ite ?_ ?_
   | refine LeO.bind ?_ (fun _ => ?_)
def spec_IsSquareFreeMorphism.T1 : Bool × List (List Nat × List Nat) := (true, [([], []), ([0], [0]), ([1], [1]), ([2], [2]), ([3], [3]), ([4], [4]), ([5, 4], [4, 5]), ([6, 4], [4, 6]), ([7, 4], [4, 7]), ([8, 4], [4, 8]), ([9, 4], [4, 9]), ([4, 10], [4, 10]), ([11, 4], [11]), ([12], [12]), ([12], [12]), ([14, 12], [12, 14]), ([15, 12], [12, 15]), ([16, 12], [12, 16]), ([17, 12], [12, 17]), ([13, 18, 12, 12], [12, 13, 18]), ([12, 19], [12, 19]), ([20, 19], [20]), ([21], [21]), ([22, 21, 21], [21, 22]), ([21, 23], [21, 23]), ([24, 23, 0, 1, 2, 3, 4, 5, 6, 7, 8, 9, 10, 11, 12, 13, 14, 15, 16, 17, 18, 19, 20, 21, 22, 23, 24], [24])])
def spec_IsSquareFreeMorphism.B1 : List Nat := [0, 1, 3, 7, 15, 31, 63, 127, 255, 511, 1023, 2047, 4095, 8191, 8191, 24575, 57343, 122879, 253951, 524287, 1048575, 2097151, 4194303, 8388607, 16777215, 33554431]
theorem spec_IsSquareFreeMorphism.tab1 : rtab .any (opsOf Try.f39 1) = spec_IsSquareFreeMorphism.T1 := by kernel_rfl
theorem spec_IsSquareFreeMorphism.bits1 : waitsOk spec_IsSquareFreeMorphism.T1.2 spec_IsSquareFreeMorphism.B1 = true := by kernel_rfl
set_option maxHeartbeats 8000000 in
set_option maxRecDepth 100000 in
theorem spec_IsSquareFreeMorphism.calls (k : Nat) (A0_0 : Option Addr) (c0_0 : Nat) (l0_0 : List (List Int)) (r : Bool) (w : World) (hr0_0 : Kd.C (Kd.slice 3 (Kd.int .i64)) w A0_0 l0_0.length l0_0) (hc0_0 : l0_0.length ≤ c0_0) (h : spec_IsSquareFreeMorphism.f k l0_0 = some r) :
  Calls Try.prog 39 #[.agg #[.slice A0_0 l0_0.length c0_0]] w fun e w' => e = .returned (.bool r) ∧ Below w.heap.size w w' := by
 have hu28 := Try.underlying28
 have HR0_0 := Aside0.mk hr0_0
 have HC0_0 := Aside0.mk hc0_0
 clear hr0_0 hc0_0
 have HB := Aside0.mk (Below.refl w.heap.size w)
 have H : (if (l0_0.length : Int) = 3 then (if 0 < (l0_0.length : Int) then (if ((rd_L1 l0_0 0).length : Int) > 0 then ((spec_IsUniform.f k l0_0 ((rd_L1 l0_0 0).length : Int)).bind fun t644 => (if t644 = true then ((spec_KeepsSquareFree.f k l0_0 3).bind fun t645 => (some t645)) else (some false))) else (some false)) else (none)) else (some false)) = some r := h
 clear h
 by_cases c2 : (l0_0.length : Int) = 3
 ·rw [if_pos c2] at H
  have c2b0 : ((l0_0.length : Int) == 3) = true := beq_iff_eq.mpr c2
  have c2b1 : ((l0_0.length : Int) != 3) = false := bne_eq_false_iff_eq.mpr c2
  clear c2
  by_cases c3 : 0 < (l0_0.length : Int)
  ·rw [if_pos c3] at H
   have c3b0 : decide (0 < (l0_0.length : Int)) = true := decide_eq_true c3
   have c3b1 : decide (0 < l0_0.length) = true := decide_eq_true (by omega)
   clear c3
   by_cases c4 : ((rd_L1 l0_0 0).length : Int) > 0
   ·rw [if_pos c4] at H
    have c4b0 : decide (0 < ((rd_L1 l0_0 0).length : Int)) = true := decide_eq_true c4
    have c4b1 : decide (0 < (rd_L1 l0_0 0).length) = true := decide_eq_true (by omega)
    clear c4
    replace H := Option.bind_eq_some_iff.mp H
    obtain ⟨t644, A50, H⟩ := H
    replace H : (if t644 = true then ((spec_KeepsSquareFree.f k l0_0 3).bind fun t645 => (some t645)) else (some false)) = some r := H
    have A5 := Aside0.mk A50
    clear A50
    by_cases c6 : t644 = true
    ·subst c6
     have H1 : ((spec_KeepsSquareFree.f k l0_0 3).bind fun t645 => (some t645)) = some r := by rw [if_pos rfl] at H; exact H
     clear H
     have H := H1
     clear H1
     replace H := Option.bind_eq_some_iff.mp H
     obtain ⟨t645, A70, H⟩ := H
     replace H : (some t645) = some r := H
     have A7 := Aside0.mk A70
     clear A70
     obtain rfl := Option.some.inj H
     go_enter Try.func39, Try.ntmps39
     try go_wp2_with (first | ((with_reducible refine gate_dst (N := 1) rfl ?_); (try (refine gate_guard (by rfl) ?_; dsimp only)); refine box_event ?hg (N := 1) ?hd (cs := #[.slice A0_0 l0_0.length c0_0]) (t := 28) ?hr ?_; (case hd => rfl); (case hg => rfl); (case hr => first | (go_simp; done) | (go_simp; rfl)); intro gb641 hg w8 hbox hb; have n0_ := Aside0.mk (below_step (by repeat (first | (with_reducible first | exact HB.out | apply below_alloc | apply pw_below_drewN | apply below_drew1) | exact HB.out)) hb); have n1_ := Aside0.mk (hbox); have n2_ := Aside0.mk ((by rw [hg]; exact (below_size (by repeat (first | (with_reducible first | exact HB.out | apply below_alloc | apply pw_below_drewN | apply below_drew1) | exact HB.out))) : w.heap.size ≤ gb641)); have n3_ := Aside0.mk ((by rw [hg]; exact (below_size (by repeat (first | (with_reducible first | exact HB.out | apply below_alloc | apply pw_below_drewN | apply below_drew1) | exact HB.out))) : w.heap.size ≤ gb641)); clear HB; have HB := n0_; have BK641 := n1_; have GW641 := n2_; have GE641 := n3_; clear n0_ n1_ n2_ n3_; clear hb hbox hg))
     have n0_ := Aside0.mk (blk_drew BK641.out)
     have n1_ := Aside0.mk (below_drew1 HB.out)
     clear BK641
     clear HB
     have BK641 := n0_
     have HB := n1_
     clear n0_ n1_
     have p642 : 0 ≤ (0 : Int) := (by omega)
     have q642 : 0 < (l0_0.length : Int) := of_decide_eq_true (by first | (with_reducible assumption) | assumption)
     obtain ⟨ad642, A642_0, c642_0, e642, hx642_0, hl642_0, hi642_0⟩ := at_L1 HR0_0.out 0 p642 q642
     have hw642_0 := hx642_0
     (try rw [show ((0 : Int)).toNat = 0 from rfl] at hw642_0)
     (try rw [show 0 * 1 = 0 from rfl] at hw642_0)
     (try rw [Addr.add_zero'] at hw642_0)
     cases e642
     have qi642 : (0 < l0_0.length) = True := eq_true (by omega)
     (try rw [show ((0 : Int)).toNat = 0 from rfl] at hx642_0)
     (try rw [Addr.add_zero'] at hx642_0)
     replace hx642_0 := (HB.out.cell (World.block_lt_of_cell? w _ hx642_0)).trans hx642_0
     have HR642_0 := Aside0.mk hi642_0
     have HC642_0 := Aside0.mk hl642_0
     clear hi642_0 hl642_0
     replace p642 := eq_true p642
     replace q642 := eq_true q642
     have p643 : 0 ≤ (0 : Int) := (by omega)
     have q643 : 0 < (l0_0.length : Int) := of_decide_eq_true (by first | (with_reducible assumption) | assumption)
     obtain ⟨ad643, A643_0, c643_0, e643, hx643_0, hl643_0, hi643_0⟩ := at_L1 HR0_0.out 0 p643 q643
     have hw643_0 := hx643_0
     (try rw [show ((0 : Int)).toNat = 0 from rfl] at hw643_0)
     (try rw [show 0 * 1 = 0 from rfl] at hw643_0)
     (try rw [Addr.add_zero'] at hw643_0)
     obtain rfl : ad642 = ad643 := (by injection e643)
     have qi643 : (0 < l0_0.length) = True := eq_true (by omega)
     (try rw [show ((0 : Int)).toNat = 0 from rfl] at hx643_0)
     (try rw [Addr.add_zero'] at hx643_0)
     replace hx643_0 := (HB.out.cell (World.block_lt_of_cell? w _ hx643_0)).trans hx643_0
     have HR643_0 := Aside0.mk hi643_0
     have HC643_0 := Aside0.mk hl643_0
     clear hi643_0 hl643_0
     replace p643 := eq_true p643
     replace q643 := eq_true q643
     have ea_ := Option.some.inj (hx642_0.symm.trans hx643_0)
     injection ea_ with ea_ en_ ec_
     subst ea_
     subst ec_
     clear en_
     refine start_ (n := 26) (S := fun w' => w'.cell? ⟨gb641, 0, none⟩ = some (.slice (some ad642) l0_0.length c0_0) ∧ w'.cell? ad642 = some (.slice A642_0 (rd_L1 l0_0 0).length c642_0) ∧ w'.cell? ad642 = some (.slice A642_0 (rd_L1 l0_0 0).length c642_0)) (ds := []) #[false, false, false, false, false, false, false, false, false, false, false, false, false, false, false, false, false, false, false, false, false, false, false, false, false, false] (by kernel_rfl) rfl rfl ⟨(blk_cell BK641.out 0).trans rfl, ((HB.out.cell (World.block_lt_of_cell? w _ hw642_0)).trans hw642_0), ((HB.out.cell (World.block_lt_of_cell? w _ hw643_0)).trans hw643_0)⟩ (fun hHeld => ?_); refine with_tabW spec_IsSquareFreeMorphism.tab1 spec_IsSquareFreeMorphism.bits1 (fun HT_ HW_ => ?_)
     generalize w8.drew = w9 at BK641 HB HR642_0 HR643_0 hx642_0 hx643_0 hHeld ⊢
     refine pure_ (i := 0) (N := some 3) (v := ?_) (a' := ?_) #[true, false, false, false, false, false, false, false, false, false, false, false, false, false, false, false, false, false, false, false, false, false, false, false, false, false] rfl rfl (any_of HT_.out (by kernel_rfl)) (fun _ _ _ h => h) (Or.inl ⟨by rfl, ?_⟩) ?_ ?_
     rotate_left
     ·intro w'
      go_simp
      with_reducible rfl
     rotate_left
     ·simp only [Act.put, List.setIfInBounds_toArray, List.set_cons_zero, List.set_cons_succ, i64_w, i32_w]
      rfl
     refine take_ (i := 1) (N := some 4) (v := ?_) (a' := ?_) #[true, true, false, false, false, false, false, false, false, false, false, false, false, false, false, false, false, false, false, false, false, false, false, false, false, false] rfl rfl (take_ofW HT_.out HW_.out (by kernel_rfl)) (fun _ _ _ h => h) (Or.inl ⟨by rfl, ?_⟩) hHeld ?_ ?_
     rotate_left
     ·rintro w' ⟨s0, s1, s2⟩
      go_simp
      with_reducible rfl
     rotate_left
     ·simp only [Act.put, List.setIfInBounds_toArray, List.set_cons_zero, List.set_cons_succ, i64_w, i32_w]
      rfl
     refine pure_ (i := 2) (N := some 5) (v := ?_) (a' := ?_) #[true, true, true, false, false, false, false, false, false, false, false, false, false, false, false, false, false, false, false, false, false, false, false, false, false, false] rfl rfl (any_of HT_.out (by kernel_rfl)) (fun _ _ _ h => h) (Or.inl ⟨by rfl, ?_⟩) ?_ ?_
     rotate_left
     ·intro w'
      go_simp
      with_reducible rfl
     rotate_left
     ·simp only [Act.put, List.setIfInBounds_toArray, List.set_cons_zero, List.set_cons_succ, i64_w, i32_w]
      rfl
     refine pure_ (i := 3) (N := some 6) (v := ?_) (a' := ?_) #[true, true, true, true, false, false, false, false, false, false, false, false, false, false, false, false, false, false, false, false, false, false, false, false, false, false] rfl rfl (any_of HT_.out (by kernel_rfl)) (fun _ _ _ h => h) (Or.inl ⟨by rfl, ?_⟩) ?_ ?_
     rotate_left
     ·intro w'
      go_simp
      with_reducible rfl
     rotate_left
     ·simp only [Act.put, List.setIfInBounds_toArray, List.set_cons_zero, List.set_cons_succ, i64_w, i32_w]
      rfl
     refine pure_ (i := 4) (N := some 7) (v := ?_) (a' := ?_) #[true, true, true, true, true, false, false, false, false, false, false, false, false, false, false, false, false, false, false, false, false, false, false, false, false, false] rfl rfl (any_of HT_.out (by kernel_rfl)) (fun _ _ _ h => h) (Or.inl ⟨by rfl, ?_⟩) ?_ ?_
     rotate_left
     ·intro w'
      go_simp
      with_reducible rfl
     rotate_left
     ·simp only [Act.put, List.setIfInBounds_toArray, List.set_cons_zero, List.set_cons_succ, i64_w, i32_w]
      rfl
     refine pure_ (i := 5) (N := some 8) (v := ?_) (a' := ?_) #[true, true, true, true, true, true, false, false, false, false, false, false, false, false, false, false, false, false, false, false, false, false, false, false, false, false] rfl rfl (any_of HT_.out (by kernel_rfl)) (fun _ _ _ h => h) (Or.inl ⟨by rfl, ?_⟩) ?_ ?_
     rotate_left
     ·intro w'
      go_simp
      with_reducible rfl
     rotate_left
     ·simp only [Act.put, List.setIfInBounds_toArray, List.set_cons_zero, List.set_cons_succ, i64_w, i32_w]
      rfl
     refine take_ (i := 6) (N := some 9) (v := ?_) (a' := ?_) #[true, true, true, true, true, true, true, false, false, false, false, false, false, false, false, false, false, false, false, false, false, false, false, false, false, false] rfl rfl (take_ofW HT_.out HW_.out (by kernel_rfl)) (fun _ _ _ h => h) (Or.inl ⟨by rfl, ?_⟩) hHeld ?_ ?_
     rotate_left
     ·rintro w' ⟨s0, s1, s2⟩
      go_simp
      with_reducible rfl
     rotate_left
     ·simp only [Act.put, List.setIfInBounds_toArray, List.set_cons_zero, List.set_cons_succ, i64_w, i32_w]
      rfl
     refine pure_ (i := 7) (N := some 10) (v := ?_) (a' := ?_) #[true, true, true, true, true, true, true, true, false, false, false, false, false, false, false, false, false, false, false, false, false, false, false, false, false, false] rfl rfl (any_of HT_.out (by kernel_rfl)) (fun _ _ _ h => h) (Or.inl ⟨by rfl, ?_⟩) ?_ ?_
     rotate_left
     ·intro w'
      go_simp
      with_reducible rfl
     rotate_left
     ·simp only [Act.put, List.setIfInBounds_toArray, List.set_cons_zero, List.set_cons_succ, i64_w, i32_w]
      rfl
     refine take_ (i := 8) (N := some 11) (v := ?_) (a' := ?_) #[true, true, true, true, true, true, true, true, true, false, false, false, false, false, false, false, false, false, false, false, false, false, false, false, false, false] rfl rfl (take_ofW HT_.out HW_.out (by kernel_rfl)) (fun _ _ _ h => h) (Or.inl ⟨by rfl, ?_⟩) hHeld ?_ ?_
     rotate_left
     ·rintro w' ⟨s0, s1, s2⟩
      go_simp
      with_reducible rfl
     rotate_left
     ·simp only [Act.put, List.setIfInBounds_toArray, List.set_cons_zero, List.set_cons_succ, i64_w, i32_w]
      rfl
     refine pure_ (i := 9) (N := some 12) (v := ?_) (a' := ?_) #[true, true, true, true, true, true, true, true, true, true, false, false, false, false, false, false, false, false, false, false, false, false, false, false, false, false] rfl rfl (any_of HT_.out (by kernel_rfl)) (fun _ _ _ h => h) (Or.inl ⟨by rfl, ?_⟩) ?_ ?_
     rotate_left
     ·intro w'
      go_simp
      with_reducible rfl
     rotate_left
     ·simp only [Act.put, List.setIfInBounds_toArray, List.set_cons_zero, List.set_cons_succ, i64_w, i32_w]
      rfl
     refine pure_ (i := 10) (N := some 13) (v := ?_) (a' := ?_) #[true, true, true, true, true, true, true, true, true, true, true, false, false, false, false, false, false, false, false, false, false, false, false, false, false, false] rfl rfl (any_of HT_.out (by kernel_rfl)) (fun _ _ _ h => h) (Or.inl ⟨by rfl, ?_⟩) ?_ ?_
     rotate_left
     ·intro w'
      go_simp
      with_reducible rfl
     rotate_left
     ·simp only [Act.put, List.setIfInBounds_toArray, List.set_cons_zero, List.set_cons_succ, i64_w, i32_w]
      rfl
     refine pure_ (i := 11) (N := some 14) (v := ?_) (a' := ?_) #[true, true, true, true, true, true, true, true, true, true, true, true, false, false, false, false, false, false, false, false, false, false, false, false, false, false] rfl rfl (any_of HT_.out (by kernel_rfl)) (fun _ _ _ h => h) (Or.inl ⟨by rfl, ?_⟩) ?_ ?_
     rotate_left
     ·intro w'
      go_simp
      with_reducible rfl
     rotate_left
     ·simp only [Act.put, List.setIfInBounds_toArray, List.set_cons_zero, List.set_cons_succ, i64_w, i32_w]
      rfl
     refine pure_ (i := 12) (N := some 15) (v := ?_) (a' := ?_) #[true, true, true, true, true, true, true, true, true, true, true, true, true, false, false, false, false, false, false, false, false, false, false, false, false, false] rfl rfl (any_of HT_.out (by kernel_rfl)) (fun _ _ _ h => h) (Or.inl ⟨by rfl, ?_⟩) ?_ ?_
     rotate_left
     ·intro w'
      go_simp
      with_reducible rfl
     rotate_left
     ·simp only [Act.put, List.setIfInBounds_toArray, List.set_cons_zero, List.set_cons_succ, i64_w, i32_w]
      rfl
     refine pure_ (i := 14) (N := some 17) (v := ?_) (a' := ?_) #[true, true, true, true, true, true, true, true, true, true, true, true, true, false, true, false, false, false, false, false, false, false, false, false, false, false] rfl rfl (any_of HT_.out (by kernel_rfl)) (fun _ _ _ h => h) (Or.inl ⟨by rfl, ?_⟩) ?_ ?_
     rotate_left
     ·intro w'
      go_simp
      with_reducible rfl
     rotate_left
     ·simp only [Act.put, List.setIfInBounds_toArray, List.set_cons_zero, List.set_cons_succ, i64_w, i32_w]
      rfl
     refine take_ (i := 13) (N := some 16) (v := ?_) (a' := ?_) #[true, true, true, true, true, true, true, true, true, true, true, true, true, true, true, false, false, false, false, false, false, false, false, false, false, false] rfl rfl (take_ofW HT_.out HW_.out (by kernel_rfl)) (fun _ _ _ h => h) (Or.inl ⟨by rfl, ?_⟩) hHeld ?_ ?_
     rotate_left
     ·rintro w' ⟨s0, s1, s2⟩
      go_simp
      with_reducible rfl
     rotate_left
     ·simp only [Act.put, List.setIfInBounds_toArray, List.set_cons_zero, List.set_cons_succ, i64_w, i32_w]
      rfl
     refine take_ (i := 15) (N := some 18) (v := ?_) (a' := ?_) #[true, true, true, true, true, true, true, true, true, true, true, true, true, true, true, true, false, false, false, false, false, false, false, false, false, false] rfl rfl (take_ofW HT_.out HW_.out (by kernel_rfl)) (fun _ _ _ h => h) (Or.inl ⟨by rfl, ?_⟩) hHeld ?_ ?_
     rotate_left
     ·rintro w' ⟨s0, s1, s2⟩
      go_simp
      with_reducible rfl
     rotate_left
     ·simp only [Act.put, List.setIfInBounds_toArray, List.set_cons_zero, List.set_cons_succ, i64_w, i32_w]
      rfl
     refine pure_ (i := 16) (N := some 19) (v := ?_) (a' := ?_) #[true, true, true, true, true, true, true, true, true, true, true, true, true, true, true, true, true, false, false, false, false, false, false, false, false, false] rfl rfl (any_of HT_.out (by kernel_rfl)) (fun _ _ _ h => h) (Or.inl ⟨by rfl, ?_⟩) ?_ ?_
     rotate_left
     ·intro w'
      go_simp
      with_reducible rfl
     rotate_left
     ·simp only [Act.put, List.setIfInBounds_toArray, List.set_cons_zero, List.set_cons_succ, i64_w, i32_w]
      rfl
     refine take_ (i := 17) (N := some 20) (v := ?_) (a' := ?_) #[true, true, true, true, true, true, true, true, true, true, true, true, true, true, true, true, true, true, false, false, false, false, false, false, false, false] rfl rfl (take_ofW HT_.out HW_.out (by kernel_rfl)) (fun _ _ _ h => h) (Or.inl ⟨by rfl, ?_⟩) hHeld ?_ ?_
     rotate_left
     ·rintro w' ⟨s0, s1, s2⟩
      go_simp
      with_reducible rfl
     rotate_left
     ·simp only [Act.put, List.setIfInBounds_toArray, List.set_cons_zero, List.set_cons_succ, i64_w, i32_w]
      rfl
     refine pure_ (i := 18) (N := some 21) (v := ?_) (a' := ?_) #[true, true, true, true, true, true, true, true, true, true, true, true, true, true, true, true, true, true, true, false, false, false, false, false, false, false] rfl rfl (any_of HT_.out (by kernel_rfl)) (fun _ _ _ h => h) (Or.inl ⟨by rfl, ?_⟩) ?_ ?_
     rotate_left
     ·intro w'
      go_simp
      with_reducible rfl
     rotate_left
     ·simp only [Act.put, List.setIfInBounds_toArray, List.set_cons_zero, List.set_cons_succ, i64_w, i32_w]
      rfl
     refine one_ (i := 19) (N := some 22) #[true, true, true, true, true, true, true, true, true, true, true, true, true, true, true, true, true, true, true, true, false, false, false, false, false, false] rfl rfl (one_of HT_.out (by kernel_rfl)) (by decide) (fun K hK => ?_)
     refine goes_ Try.func107 (by kernel_rfl) rfl #[.agg #[.slice (some ad642) l0_0.length c0_0], .int .i64 ((rd_L1 l0_0 0).length : Int)] (by rfl) rfl rfl (by (try simp only [List.map_toArray, List.map_cons, List.map_nil]); first | done | rfl | (simp only [List.length_drop, List.length_take]; rfl)) ?_
     with_reducible refine (spec_IsUniform.calls k _ _ l0_0 ((rd_L1 l0_0 0).length : Int) true _ ?side1 ?side2 A5.out).mono ?_
     (case side1 => repeat (first | exact (Kd.C_below HR0_0.out HB.out) | (with_reducible refine Kd.C_alloc ?_ _) | (with_reducible refine Kd.C_drewN ?_ _) | (with_reducible refine Kd.C_drew ?_)))
     (case side2 => exact HC0_0.out)
     rintro e w10 ⟨rfl, hb⟩
     refine ⟨_, rfl, ?_⟩
     have n0_ := Aside0.mk (blk_below (g := gb641) (o := .cells #[.slice (some ad642) l0_0.length c0_0] 28 (0, 0)) (by (with_reducible repeat (first | refine blk_drewN ?_ _ | refine blk_drew ?_ | refine blk_alloc ?_ _)); exact BK641.out) hb)
     have n1_ := Aside0.mk (below_step (by repeat (first | (with_reducible first | exact HB.out | apply below_alloc | apply pw_below_drewN | apply below_drew1 | refine below_set ?_ GE641.out) | exact HB.out)) hb)
     clear BK641
     clear HB
     have BK641 := n0_
     have HB := n1_
     clear n0_ n1_
     (try clear hb)
     (try clear hb2)
     (try clear hk)
     (try clear hi)
     refine hK.out _ _ ⟨(blk_cell BK641.out 0).trans rfl, ((HB.out.cell (World.block_lt_of_cell? w _ hw642_0)).trans hw642_0), ((HB.out.cell (World.block_lt_of_cell? w _ hw643_0)).trans hw643_0)⟩ (fun hHeld => ?_)
     clear hK K
     refine norm_ (a' := ?_) ?_ ?_
     rotate_left
     ·show Act.put _ (some 22) _ = _
      simp only [Act.put, List.setIfInBounds_toArray, List.set_cons_zero, List.set_cons_succ, i64_w, i32_w]
      rfl
     refine pure_ (i := 20) (N := some 23) (v := ?_) (a' := ?_) #[true, true, true, true, true, true, true, true, true, true, true, true, true, true, true, true, true, true, true, true, true, false, false, false, false, false] rfl rfl (any_of HT_.out (by kernel_rfl)) (fun _ _ _ h => h) (Or.inl ⟨by rfl, ?_⟩) ?_ ?_
     rotate_left
     ·intro w'
      go_simp
      with_reducible rfl
     rotate_left
     ·simp only [Act.put, List.setIfInBounds_toArray, List.set_cons_zero, List.set_cons_succ, i64_w, i32_w]
      rfl
     refine pure_ (i := 21) (N := some 24) (v := ?_) (a' := ?_) #[true, true, true, true, true, true, true, true, true, true, true, true, true, true, true, true, true, true, true, true, true, true, false, false, false, false] rfl rfl (any_of HT_.out (by kernel_rfl)) (fun _ _ _ h => h) (Or.inl ⟨by rfl, ?_⟩) ?_ ?_
     rotate_left
     ·intro w'
      go_simp
      with_reducible rfl
     rotate_left
     ·simp only [Act.put, List.setIfInBounds_toArray, List.set_cons_zero, List.set_cons_succ, i64_w, i32_w]
      rfl
     refine take_ (i := 22) (N := some 25) (v := ?_) (a' := ?_) #[true, true, true, true, true, true, true, true, true, true, true, true, true, true, true, true, true, true, true, true, true, true, true, false, false, false] rfl rfl (take_ofW HT_.out HW_.out (by kernel_rfl)) (fun _ _ _ h => h) (Or.inl ⟨by rfl, ?_⟩) hHeld ?_ ?_
     rotate_left
     ·rintro w' ⟨s0, s1, s2⟩
      go_simp
      with_reducible rfl
     rotate_left
     ·simp only [Act.put, List.setIfInBounds_toArray, List.set_cons_zero, List.set_cons_succ, i64_w, i32_w]
      rfl
     refine one_ (i := 23) (N := some 26) #[true, true, true, true, true, true, true, true, true, true, true, true, true, true, true, true, true, true, true, true, true, true, true, true, false, false] rfl rfl (one_of HT_.out (by kernel_rfl)) (by decide) (fun K hK => ?_)
     refine goes_ Try.func35 (by kernel_rfl) rfl #[.agg #[.slice (some ad642) l0_0.length c0_0], .int .i64 3] (by rfl) rfl rfl (by (try simp only [List.map_toArray, List.map_cons, List.map_nil]); first | done | rfl | (simp only [List.length_drop, List.length_take]; rfl)) ?_
     with_reducible refine (spec_KeepsSquareFree.calls k _ _ l0_0 3 t645 _ ?side1 ?side2 A7.out).mono ?_
     (case side1 => repeat (first | exact (Kd.C_below HR0_0.out HB.out) | (with_reducible refine Kd.C_alloc ?_ _) | (with_reducible refine Kd.C_drewN ?_ _) | (with_reducible refine Kd.C_drew ?_)))
     (case side2 => exact HC0_0.out)
     rintro e w11 ⟨rfl, hb⟩
     refine ⟨_, rfl, ?_⟩
     have n0_ := Aside0.mk (blk_below (g := gb641) (o := .cells #[.slice (some ad642) l0_0.length c0_0] 28 (0, 0)) (by (with_reducible repeat (first | refine blk_drewN ?_ _ | refine blk_drew ?_ | refine blk_alloc ?_ _)); exact BK641.out) hb)
     have n1_ := Aside0.mk (below_step (by repeat (first | (with_reducible first | exact HB.out | apply below_alloc | apply pw_below_drewN | apply below_drew1 | refine below_set ?_ GE641.out) | exact HB.out)) hb)
     clear BK641
     clear HB
     have BK641 := n0_
     have HB := n1_
     clear n0_ n1_
     (try clear hb)
     (try clear hb2)
     (try clear hk)
     (try clear hi)
     refine hK.out _ _ ⟨(blk_cell BK641.out 0).trans rfl, ((HB.out.cell (World.block_lt_of_cell? w _ hw642_0)).trans hw642_0), ((HB.out.cell (World.block_lt_of_cell? w _ hw643_0)).trans hw643_0)⟩ (fun hHeld => ?_)
     clear hK K
     refine norm_ (a' := ?_) ?_ ?_
     rotate_left
     ·show Act.put _ (some 26) _ = _
      simp only [Act.put, List.setIfInBounds_toArray, List.set_cons_zero, List.set_cons_succ, i64_w, i32_w]
      rfl
     refine pure_ (i := 24) (N := some 27) (v := ?_) (a' := ?_) #[true, true, true, true, true, true, true, true, true, true, true, true, true, true, true, true, true, true, true, true, true, true, true, true, true, false] rfl rfl (any_of HT_.out (by kernel_rfl)) (fun _ _ _ h => h) (Or.inl ⟨by rfl, ?_⟩) ?_ ?_
     rotate_left
     ·intro w'
      go_simp
      with_reducible rfl
     rotate_left
     ·simp only [Act.put, List.setIfInBounds_toArray, List.set_cons_zero, List.set_cons_succ, i64_w, i32_w]
      rfl
     refine pure_ (i := 25) (N := some 2) (v := ?_) (a' := ?_) #[true, true, true, true, true, true, true, true, true, true, true, true, true, true, true, true, true, true, true, true, true, true, true, true, true, true] rfl rfl (any_of HT_.out (by kernel_rfl)) (fun _ _ _ h => h) (Or.inl ⟨by rfl, ?_⟩) ?_ ?_
     rotate_left
     ·intro w'
      go_simp
      with_reducible rfl
     rotate_left
     ·simp only [Act.put, List.setIfInBounds_toArray, List.set_cons_zero, List.set_cons_succ, i64_w, i32_w]
      rfl
     refine done_ (done_of HT_.out (by kernel_rfl)) ?_
     try go_wp2
     go_ret
     exact ⟨by first | rfl | (simp [errW_none, errW_some] <;> rfl) | (simp [*, errW_none, errW_some] <;> rfl), by repeat (first | (with_reducible first | exact HB.out | apply below_alloc | apply pw_below_drewN | apply below_drew1 | refine below_set ?_ GE641.out) | exact HB.out)⟩
    ·replace c6 := Bool.eq_false_iff.mpr c6
     subst c6
     have H1 : (some false) = some r := by rw [if_neg (show ¬ (false = true) by decide)] at H; exact H
     clear H
     have H := H1
     clear H1
     obtain rfl := Option.some.inj H
     go_enter Try.func39, Try.ntmps39
     try go_wp2_with (first | ((with_reducible refine gate_dst (N := 1) rfl ?_); (try (refine gate_guard (by rfl) ?_; dsimp only)); refine box_event ?hg (N := 1) ?hd (cs := #[.slice A0_0 l0_0.length c0_0]) (t := 28) ?hr ?_; (case hd => rfl); (case hg => rfl); (case hr => first | (go_simp; done) | (go_simp; rfl)); intro gb641 hg w12 hbox hb; have n0_ := Aside0.mk (below_step (by repeat (first | (with_reducible first | exact HB.out | apply below_alloc | apply pw_below_drewN | apply below_drew1) | exact HB.out)) hb); have n1_ := Aside0.mk (hbox); have n2_ := Aside0.mk ((by rw [hg]; exact (below_size (by repeat (first | (with_reducible first | exact HB.out | apply below_alloc | apply pw_below_drewN | apply below_drew1) | exact HB.out))) : w.heap.size ≤ gb641)); have n3_ := Aside0.mk ((by rw [hg]; exact (below_size (by repeat (first | (with_reducible first | exact HB.out | apply below_alloc | apply pw_below_drewN | apply below_drew1) | exact HB.out))) : w.heap.size ≤ gb641)); clear HB; have HB := n0_; have BK641 := n1_; have GW641 := n2_; have GE641 := n3_; clear n0_ n1_ n2_ n3_; clear hb hbox hg))
     have n0_ := Aside0.mk (blk_drew BK641.out)
     have n1_ := Aside0.mk (below_drew1 HB.out)
     clear BK641
     clear HB
     have BK641 := n0_
     have HB := n1_
     clear n0_ n1_
     have p642 : 0 ≤ (0 : Int) := (by omega)
     have q642 : 0 < (l0_0.length : Int) := of_decide_eq_true (by first | (with_reducible assumption) | assumption)
     obtain ⟨ad642, A642_0, c642_0, e642, hx642_0, hl642_0, hi642_0⟩ := at_L1 HR0_0.out 0 p642 q642
     have hw642_0 := hx642_0
     (try rw [show ((0 : Int)).toNat = 0 from rfl] at hw642_0)
     (try rw [show 0 * 1 = 0 from rfl] at hw642_0)
     (try rw [Addr.add_zero'] at hw642_0)
     cases e642
     have qi642 : (0 < l0_0.length) = True := eq_true (by omega)
     (try rw [show ((0 : Int)).toNat = 0 from rfl] at hx642_0)
     (try rw [Addr.add_zero'] at hx642_0)
     replace hx642_0 := (HB.out.cell (World.block_lt_of_cell? w _ hx642_0)).trans hx642_0
     have HR642_0 := Aside0.mk hi642_0
     have HC642_0 := Aside0.mk hl642_0
     clear hi642_0 hl642_0
     replace p642 := eq_true p642
     replace q642 := eq_true q642
     have p643 : 0 ≤ (0 : Int) := (by omega)
     have q643 : 0 < (l0_0.length : Int) := of_decide_eq_true (by first | (with_reducible assumption) | assumption)
     obtain ⟨ad643, A643_0, c643_0, e643, hx643_0, hl643_0, hi643_0⟩ := at_L1 HR0_0.out 0 p643 q643
     have hw643_0 := hx643_0
     (try rw [show ((0 : Int)).toNat = 0 from rfl] at hw643_0)
     (try rw [show 0 * 1 = 0 from rfl] at hw643_0)
     (try rw [Addr.add_zero'] at hw643_0)
     obtain rfl : ad642 = ad643 := (by injection e643)
     have qi643 : (0 < l0_0.length) = True := eq_true (by omega)
     (try rw [show ((0 : Int)).toNat = 0 from rfl] at hx643_0)
     (try rw [Addr.add_zero'] at hx643_0)
     replace hx643_0 := (HB.out.cell (World.block_lt_of_cell? w _ hx643_0)).trans hx643_0
     have HR643_0 := Aside0.mk hi643_0
     have HC643_0 := Aside0.mk hl643_0
     clear hi643_0 hl643_0
     replace p643 := eq_true p643
     replace q643 := eq_true q643
     have ea_ := Option.some.inj (hx642_0.symm.trans hx643_0)
     injection ea_ with ea_ en_ ec_
     subst ea_
     subst ec_
     clear en_
     refine start_ (n := 26) (S := fun w' => w'.cell? ⟨gb641, 0, none⟩ = some (.slice (some ad642) l0_0.length c0_0) ∧ w'.cell? ad642 = some (.slice A642_0 (rd_L1 l0_0 0).length c642_0) ∧ w'.cell? ad642 = some (.slice A642_0 (rd_L1 l0_0 0).length c642_0)) (ds := []) #[false, false, false, false, false, false, false, false, false, false, false, false, false, false, false, false, false, false, false, false, false, false, false, false, false, false] (by kernel_rfl) rfl rfl ⟨(blk_cell BK641.out 0).trans rfl, ((HB.out.cell (World.block_lt_of_cell? w _ hw642_0)).trans hw642_0), ((HB.out.cell (World.block_lt_of_cell? w _ hw643_0)).trans hw643_0)⟩ (fun hHeld => ?_); refine with_tabW spec_IsSquareFreeMorphism.tab1 spec_IsSquareFreeMorphism.bits1 (fun HT_ HW_ => ?_)
     generalize w12.drew = w13 at BK641 HB HR642_0 HR643_0 hx642_0 hx643_0 hHeld ⊢
     refine pure_ (i := 0) (N := some 3) (v := ?_) (a' := ?_) #[true, false, false, false, false, false, false, false, false, false, false, false, false, false, false, false, false, false, false, false, false, false, false, false, false, false] rfl rfl (any_of HT_.out (by kernel_rfl)) (fun _ _ _ h => h) (Or.inl ⟨by rfl, ?_⟩) ?_ ?_
     rotate_left
     ·intro w'
      go_simp
      with_reducible rfl
     rotate_left
     ·simp only [Act.put, List.setIfInBounds_toArray, List.set_cons_zero, List.set_cons_succ, i64_w, i32_w]
      rfl
     refine take_ (i := 1) (N := some 4) (v := ?_) (a' := ?_) #[true, true, false, false, false, false, false, false, false, false, false, false, false, false, false, false, false, false, false, false, false, false, false, false, false, false] rfl rfl (take_ofW HT_.out HW_.out (by kernel_rfl)) (fun _ _ _ h => h) (Or.inl ⟨by rfl, ?_⟩) hHeld ?_ ?_
     rotate_left
     ·rintro w' ⟨s0, s1, s2⟩
      go_simp
      with_reducible rfl
     rotate_left
     ·simp only [Act.put, List.setIfInBounds_toArray, List.set_cons_zero, List.set_cons_succ, i64_w, i32_w]
      rfl
     refine pure_ (i := 2) (N := some 5) (v := ?_) (a' := ?_) #[true, true, true, false, false, false, false, false, false, false, false, false, false, false, false, false, false, false, false, false, false, false, false, false, false, false] rfl rfl (any_of HT_.out (by kernel_rfl)) (fun _ _ _ h => h) (Or.inl ⟨by rfl, ?_⟩) ?_ ?_
     rotate_left
     ·intro w'
      go_simp
      with_reducible rfl
     rotate_left
     ·simp only [Act.put, List.setIfInBounds_toArray, List.set_cons_zero, List.set_cons_succ, i64_w, i32_w]
      rfl
     refine pure_ (i := 3) (N := some 6) (v := ?_) (a' := ?_) #[true, true, true, true, false, false, false, false, false, false, false, false, false, false, false, false, false, false, false, false, false, false, false, false, false, false] rfl rfl (any_of HT_.out (by kernel_rfl)) (fun _ _ _ h => h) (Or.inl ⟨by rfl, ?_⟩) ?_ ?_
     rotate_left
     ·intro w'
      go_simp
      with_reducible rfl
     rotate_left
     ·simp only [Act.put, List.setIfInBounds_toArray, List.set_cons_zero, List.set_cons_succ, i64_w, i32_w]
      rfl
     refine pure_ (i := 4) (N := some 7) (v := ?_) (a' := ?_) #[true, true, true, true, true, false, false, false, false, false, false, false, false, false, false, false, false, false, false, false, false, false, false, false, false, false] rfl rfl (any_of HT_.out (by kernel_rfl)) (fun _ _ _ h => h) (Or.inl ⟨by rfl, ?_⟩) ?_ ?_
     rotate_left
     ·intro w'
      go_simp
      with_reducible rfl
     rotate_left
     ·simp only [Act.put, List.setIfInBounds_toArray, List.set_cons_zero, List.set_cons_succ, i64_w, i32_w]
      rfl
     refine pure_ (i := 5) (N := some 8) (v := ?_) (a' := ?_) #[true, true, true, true, true, true, false, false, false, false, false, false, false, false, false, false, false, false, false, false, false, false, false, false, false, false] rfl rfl (any_of HT_.out (by kernel_rfl)) (fun _ _ _ h => h) (Or.inl ⟨by rfl, ?_⟩) ?_ ?_
     rotate_left
     ·intro w'
      go_simp
      with_reducible rfl
     rotate_left
     ·simp only [Act.put, List.setIfInBounds_toArray, List.set_cons_zero, List.set_cons_succ, i64_w, i32_w]
      rfl
     refine take_ (i := 6) (N := some 9) (v := ?_) (a' := ?_) #[true, true, true, true, true, true, true, false, false, false, false, false, false, false, false, false, false, false, false, false, false, false, false, false, false, false] rfl rfl (take_ofW HT_.out HW_.out (by kernel_rfl)) (fun _ _ _ h => h) (Or.inl ⟨by rfl, ?_⟩) hHeld ?_ ?_
     rotate_left
     ·rintro w' ⟨s0, s1, s2⟩
      go_simp
      with_reducible rfl
     rotate_left
     ·simp only [Act.put, List.setIfInBounds_toArray, List.set_cons_zero, List.set_cons_succ, i64_w, i32_w]
      rfl
     refine pure_ (i := 7) (N := some 10) (v := ?_) (a' := ?_) #[true, true, true, true, true, true, true, true, false, false, false, false, false, false, false, false, false, false, false, false, false, false, false, false, false, false] rfl rfl (any_of HT_.out (by kernel_rfl)) (fun _ _ _ h => h) (Or.inl ⟨by rfl, ?_⟩) ?_ ?_
     rotate_left
     ·intro w'
      go_simp
      with_reducible rfl
     rotate_left
     ·simp only [Act.put, List.setIfInBounds_toArray, List.set_cons_zero, List.set_cons_succ, i64_w, i32_w]
      rfl
     refine take_ (i := 8) (N := some 11) (v := ?_) (a' := ?_) #[true, true, true, true, true, true, true, true, true, false, false, false, false, false, false, false, false, false, false, false, false, false, false, false, false, false] rfl rfl (take_ofW HT_.out HW_.out (by kernel_rfl)) (fun _ _ _ h => h) (Or.inl ⟨by rfl, ?_⟩) hHeld ?_ ?_
     rotate_left
     ·rintro w' ⟨s0, s1, s2⟩
      go_simp
      with_reducible rfl
     rotate_left
     ·simp only [Act.put, List.setIfInBounds_toArray, List.set_cons_zero, List.set_cons_succ, i64_w, i32_w]
      rfl
     refine pure_ (i := 9) (N := some 12) (v := ?_) (a' := ?_) #[true, true, true, true, true, true, true, true, true, true, false, false, false, false, false, false, false, false, false, false, false, false, false, false, false, false] rfl rfl (any_of HT_.out (by kernel_rfl)) (fun _ _ _ h => h) (Or.inl ⟨by rfl, ?_⟩) ?_ ?_
     rotate_left
     ·intro w'
      go_simp
      with_reducible rfl
     rotate_left
     ·simp only [Act.put, List.setIfInBounds_toArray, List.set_cons_zero, List.set_cons_succ, i64_w, i32_w]
      rfl
     refine pure_ (i := 10) (N := some 13) (v := ?_) (a' := ?_) #[true, true, true, true, true, true, true, true, true, true, true, false, false, false, false, false, false, false, false, false, false, false, false, false, false, false] rfl rfl (any_of HT_.out (by kernel_rfl)) (fun _ _ _ h => h) (Or.inl ⟨by rfl, ?_⟩) ?_ ?_
     rotate_left
     ·intro w'
      go_simp
      with_reducible rfl
     rotate_left
     ·simp only [Act.put, List.setIfInBounds_toArray, List.set_cons_zero, List.set_cons_succ, i64_w, i32_w]
      rfl
     refine pure_ (i := 11) (N := some 14) (v := ?_) (a' := ?_) #[true, true, true, true, true, true, true, true, true, true, true, true, false, false, false, false, false, false, false, false, false, false, false, false, false, false] rfl rfl (any_of HT_.out (by kernel_rfl)) (fun _ _ _ h => h) (Or.inl ⟨by rfl, ?_⟩) ?_ ?_
     rotate_left
     ·intro w'
      go_simp
      with_reducible rfl
     rotate_left
     ·simp only [Act.put, List.setIfInBounds_toArray, List.set_cons_zero, List.set_cons_succ, i64_w, i32_w]
      rfl
     refine pure_ (i := 12) (N := some 15) (v := ?_) (a' := ?_) #[true, true, true, true, true, true, true, true, true, true, true, true, true, false, false, false, false, false, false, false, false, false, false, false, false, false] rfl rfl (any_of HT_.out (by kernel_rfl)) (fun _ _ _ h => h) (Or.inl ⟨by rfl, ?_⟩) ?_ ?_
     rotate_left
     ·intro w'
      go_simp
      with_reducible rfl
     rotate_left
     ·simp only [Act.put, List.setIfInBounds_toArray, List.set_cons_zero, List.set_cons_succ, i64_w, i32_w]
      rfl
     refine pure_ (i := 14) (N := some 17) (v := ?_) (a' := ?_) #[true, true, true, true, true, true, true, true, true, true, true, true, true, false, true, false, false, false, false, false, false, false, false, false, false, false] rfl rfl (any_of HT_.out (by kernel_rfl)) (fun _ _ _ h => h) (Or.inl ⟨by rfl, ?_⟩) ?_ ?_
     rotate_left
     ·intro w'
      go_simp
      with_reducible rfl
     rotate_left
     ·simp only [Act.put, List.setIfInBounds_toArray, List.set_cons_zero, List.set_cons_succ, i64_w, i32_w]
      rfl
     refine take_ (i := 13) (N := some 16) (v := ?_) (a' := ?_) #[true, true, true, true, true, true, true, true, true, true, true, true, true, true, true, false, false, false, false, false, false, false, false, false, false, false] rfl rfl (take_ofW HT_.out HW_.out (by kernel_rfl)) (fun _ _ _ h => h) (Or.inl ⟨by rfl, ?_⟩) hHeld ?_ ?_
     rotate_left
     ·rintro w' ⟨s0, s1, s2⟩
      go_simp
      with_reducible rfl
     rotate_left
     ·simp only [Act.put, List.setIfInBounds_toArray, List.set_cons_zero, List.set_cons_succ, i64_w, i32_w]
      rfl
     refine take_ (i := 15) (N := some 18) (v := ?_) (a' := ?_) #[true, true, true, true, true, true, true, true, true, true, true, true, true, true, true, true, false, false, false, false, false, false, false, false, false, false] rfl rfl (take_ofW HT_.out HW_.out (by kernel_rfl)) (fun _ _ _ h => h) (Or.inl ⟨by rfl, ?_⟩) hHeld ?_ ?_
     rotate_left
     ·rintro w' ⟨s0, s1, s2⟩
      go_simp
      with_reducible rfl
     rotate_left
     ·simp only [Act.put, List.setIfInBounds_toArray, List.set_cons_zero, List.set_cons_succ, i64_w, i32_w]
      rfl
     refine pure_ (i := 16) (N := some 19) (v := ?_) (a' := ?_) #[true, true, true, true, true, true, true, true, true, true, true, true, true, true, true, true, true, false, false, false, false, false, false, false, false, false] rfl rfl (any_of HT_.out (by kernel_rfl)) (fun _ _ _ h => h) (Or.inl ⟨by rfl, ?_⟩) ?_ ?_
     rotate_left
     ·intro w'
      go_simp
      with_reducible rfl
     rotate_left
     ·simp only [Act.put, List.setIfInBounds_toArray, List.set_cons_zero, List.set_cons_succ, i64_w, i32_w]
      rfl
     refine take_ (i := 17) (N := some 20) (v := ?_) (a' := ?_) #[true, true, true, true, true, true, true, true, true, true, true, true, true, true, true, true, true, true, false, false, false, false, false, false, false, false] rfl rfl (take_ofW HT_.out HW_.out (by kernel_rfl)) (fun _ _ _ h => h) (Or.inl ⟨by rfl, ?_⟩) hHeld ?_ ?_
     rotate_left
     ·rintro w' ⟨s0, s1, s2⟩
      go_simp
      with_reducible rfl
     rotate_left
     ·simp only [Act.put, List.setIfInBounds_toArray, List.set_cons_zero, List.set_cons_succ, i64_w, i32_w]
      rfl
     refine pure_ (i := 18) (N := some 21) (v := ?_) (a' := ?_) #[true, true, true, true, true, true, true, true, true, true, true, true, true, true, true, true, true, true, true, false, false, false, false, false, false, false] rfl rfl (any_of HT_.out (by kernel_rfl)) (fun _ _ _ h => h) (Or.inl ⟨by rfl, ?_⟩) ?_ ?_
     rotate_left
     ·intro w'
      go_simp
      with_reducible rfl
     rotate_left
     ·simp only [Act.put, List.setIfInBounds_toArray, List.set_cons_zero, List.set_cons_succ, i64_w, i32_w]
      rfl
     refine one_ (i := 19) (N := some 22) #[true, true, true, true, true, true, true, true, true, true, true, true, true, true, true, true, true, true, true, true, false, false, false, false, false, false] rfl rfl (one_of HT_.out (by kernel_rfl)) (by decide) (fun K hK => ?_)
     refine goes_ Try.func107 (by kernel_rfl) rfl #[.agg #[.slice (some ad642) l0_0.length c0_0], .int .i64 ((rd_L1 l0_0 0).length : Int)] (by rfl) rfl rfl (by (try simp only [List.map_toArray, List.map_cons, List.map_nil]); first | done | rfl | (simp only [List.length_drop, List.length_take]; rfl)) ?_
     with_reducible refine (spec_IsUniform.calls k _ _ l0_0 ((rd_L1 l0_0 0).length : Int) false _ ?side1 ?side2 A5.out).mono ?_
     (case side1 => repeat (first | exact (Kd.C_below HR0_0.out HB.out) | (with_reducible refine Kd.C_alloc ?_ _) | (with_reducible refine Kd.C_drewN ?_ _) | (with_reducible refine Kd.C_drew ?_)))
     (case side2 => exact HC0_0.out)
     rintro e w14 ⟨rfl, hb⟩
     refine ⟨_, rfl, ?_⟩
     have n0_ := Aside0.mk (blk_below (g := gb641) (o := .cells #[.slice (some ad642) l0_0.length c0_0] 28 (0, 0)) (by (with_reducible repeat (first | refine blk_drewN ?_ _ | refine blk_drew ?_ | refine blk_alloc ?_ _)); exact BK641.out) hb)
     have n1_ := Aside0.mk (below_step (by repeat (first | (with_reducible first | exact HB.out | apply below_alloc | apply pw_below_drewN | apply below_drew1 | refine below_set ?_ GE641.out) | exact HB.out)) hb)
     clear BK641
     clear HB
     have BK641 := n0_
     have HB := n1_
     clear n0_ n1_
     (try clear hb)
     (try clear hb2)
     (try clear hk)
     (try clear hi)
     refine hK.out _ _ ⟨(blk_cell BK641.out 0).trans rfl, ((HB.out.cell (World.block_lt_of_cell? w _ hw642_0)).trans hw642_0), ((HB.out.cell (World.block_lt_of_cell? w _ hw643_0)).trans hw643_0)⟩ (fun hHeld => ?_)
     clear hK K
     refine norm_ (a' := ?_) ?_ ?_
     rotate_left
     ·show Act.put _ (some 22) _ = _
      simp only [Act.put, List.setIfInBounds_toArray, List.set_cons_zero, List.set_cons_succ, i64_w, i32_w]
      rfl
     refine pure_ (i := 20) (N := some 23) (v := ?_) (a' := ?_) #[true, true, true, true, true, true, true, true, true, true, true, true, true, true, true, true, true, true, true, true, true, false, false, false, false, false] rfl rfl (any_of HT_.out (by kernel_rfl)) (fun _ _ _ h => h) (Or.inl ⟨by rfl, ?_⟩) ?_ ?_
     rotate_left
     ·intro w'
      go_simp
      with_reducible rfl
     rotate_left
     ·simp only [Act.put, List.setIfInBounds_toArray, List.set_cons_zero, List.set_cons_succ, i64_w, i32_w]
      rfl
     refine pure_ (i := 21) (N := some 24) (v := ?_) (a' := ?_) #[true, true, true, true, true, true, true, true, true, true, true, true, true, true, true, true, true, true, true, true, true, true, false, false, false, false] rfl rfl (any_of HT_.out (by kernel_rfl)) (fun _ _ _ h => h) (Or.inl ⟨by rfl, ?_⟩) ?_ ?_
     rotate_left
     ·intro w'
      go_simp
      with_reducible rfl
     rotate_left
     ·simp only [Act.put, List.setIfInBounds_toArray, List.set_cons_zero, List.set_cons_succ, i64_w, i32_w]
      rfl
     refine pure_ (i := 22) (N := some 25) (v := undef) (a' := ?_) #[true, true, true, true, true, true, true, true, true, true, true, true, true, true, true, true, true, true, true, true, true, true, true, false, false, false] rfl rfl (any_of HT_.out (by kernel_rfl)) (fun _ _ _ h => h) (Or.inr ⟨by rfl, rfl⟩) ?_ ?_
     rotate_left
     ·simp only [Act.put, List.setIfInBounds_toArray, List.set_cons_zero, List.set_cons_succ, i64_w, i32_w]
      rfl
     refine pure_ (i := 23) (N := some 26) (v := undef) (a' := ?_) #[true, true, true, true, true, true, true, true, true, true, true, true, true, true, true, true, true, true, true, true, true, true, true, true, false, false] rfl rfl (any_of HT_.out (by kernel_rfl)) (fun _ _ _ h => h) (Or.inr ⟨by rfl, rfl⟩) ?_ ?_
     rotate_left
     ·simp only [Act.put, List.setIfInBounds_toArray, List.set_cons_zero, List.set_cons_succ, i64_w, i32_w]
      rfl
     refine pure_ (i := 24) (N := some 27) (v := ?_) (a' := ?_) #[true, true, true, true, true, true, true, true, true, true, true, true, true, true, true, true, true, true, true, true, true, true, true, true, true, false] rfl rfl (any_of HT_.out (by kernel_rfl)) (fun _ _ _ h => h) (Or.inl ⟨by rfl, ?_⟩) ?_ ?_
     rotate_left
     ·intro w'
      go_simp
      with_reducible rfl
     rotate_left
     ·simp only [Act.put, List.setIfInBounds_toArray, List.set_cons_zero, List.set_cons_succ, i64_w, i32_w]
      rfl
     refine pure_ (i := 25) (N := some 2) (v := ?_) (a' := ?_) #[true, true, true, true, true, true, true, true, true, true, true, true, true, true, true, true, true, true, true, true, true, true, true, true, true, true] rfl rfl (any_of HT_.out (by kernel_rfl)) (fun _ _ _ h => h) (Or.inl ⟨by rfl, ?_⟩) ?_ ?_
     rotate_left
     ·intro w'
      go_simp
      with_reducible rfl
     rotate_left
     ·simp only [Act.put, List.setIfInBounds_toArray, List.set_cons_zero, List.set_cons_succ, i64_w, i32_w]
      rfl
     refine done_ (done_of HT_.out (by kernel_rfl)) ?_
     try go_wp2
     go_ret
     exact ⟨by first | rfl | (simp [errW_none, errW_some] <;> rfl) | (simp [*, errW_none, errW_some] <;> rfl), by repeat (first | (with_reducible first | exact HB.out | apply below_alloc | apply pw_below_drewN | apply below_drew1 | refine below_set ?_ GE641.out) | exact HB.out)⟩
   ·rw [if_neg c4] at H
    have c4b0 : decide (0 < ((rd_L1 l0_0 0).length : Int)) = false := decide_eq_false c4
    have c4b1 : decide (0 < (rd_L1 l0_0 0).length) = false := decide_eq_false (by omega)
    clear c4
    obtain rfl := Option.some.inj H
    go_enter Try.func39, Try.ntmps39
    try go_wp2_with (first | ((with_reducible refine gate_dst (N := 1) rfl ?_); (try (refine gate_guard (by rfl) ?_; dsimp only)); refine box_event ?hg (N := 1) ?hd (cs := #[.slice A0_0 l0_0.length c0_0]) (t := 28) ?hr ?_; (case hd => rfl); (case hg => rfl); (case hr => first | (go_simp; done) | (go_simp; rfl)); intro gb641 hg w15 hbox hb; have n0_ := Aside0.mk (below_step (by repeat (first | (with_reducible first | exact HB.out | apply below_alloc | apply pw_below_drewN | apply below_drew1) | exact HB.out)) hb); have n1_ := Aside0.mk (hbox); have n2_ := Aside0.mk ((by rw [hg]; exact (below_size (by repeat (first | (with_reducible first | exact HB.out | apply below_alloc | apply pw_below_drewN | apply below_drew1) | exact HB.out))) : w.heap.size ≤ gb641)); have n3_ := Aside0.mk ((by rw [hg]; exact (below_size (by repeat (first | (with_reducible first | exact HB.out | apply below_alloc | apply pw_below_drewN | apply below_drew1) | exact HB.out))) : w.heap.size ≤ gb641)); clear HB; have HB := n0_; have BK641 := n1_; have GW641 := n2_; have GE641 := n3_; clear n0_ n1_ n2_ n3_; clear hb hbox hg))
    have n0_ := Aside0.mk (blk_drew BK641.out)
    have n1_ := Aside0.mk (below_drew1 HB.out)
    clear BK641
    clear HB
    have BK641 := n0_
    have HB := n1_
    clear n0_ n1_
    have p642 : 0 ≤ (0 : Int) := (by omega)
    have q642 : 0 < (l0_0.length : Int) := of_decide_eq_true (by first | (with_reducible assumption) | assumption)
    obtain ⟨ad642, A642_0, c642_0, e642, hx642_0, hl642_0, hi642_0⟩ := at_L1 HR0_0.out 0 p642 q642
    have hw642_0 := hx642_0
    (try rw [show ((0 : Int)).toNat = 0 from rfl] at hw642_0)
    (try rw [show 0 * 1 = 0 from rfl] at hw642_0)
    (try rw [Addr.add_zero'] at hw642_0)
    cases e642
    have qi642 : (0 < l0_0.length) = True := eq_true (by omega)
    (try rw [show ((0 : Int)).toNat = 0 from rfl] at hx642_0)
    (try rw [Addr.add_zero'] at hx642_0)
    replace hx642_0 := (HB.out.cell (World.block_lt_of_cell? w _ hx642_0)).trans hx642_0
    have HR642_0 := Aside0.mk hi642_0
    have HC642_0 := Aside0.mk hl642_0
    clear hi642_0 hl642_0
    replace p642 := eq_true p642
    replace q642 := eq_true q642
    refine start_ (n := 26) (S := fun w' => w'.cell? ⟨gb641, 0, none⟩ = some (.slice (some ad642) l0_0.length c0_0) ∧ w'.cell? ad642 = some (.slice A642_0 (rd_L1 l0_0 0).length c642_0)) (ds := []) #[false, false, false, false, false, false, false, false, false, false, false, false, false, false, false, false, false, false, false, false, false, false, false, false, false, false] (by kernel_rfl) rfl rfl ⟨(blk_cell BK641.out 0).trans rfl, ((HB.out.cell (World.block_lt_of_cell? w _ hw642_0)).trans hw642_0)⟩ (fun hHeld => ?_); refine with_tabW spec_IsSquareFreeMorphism.tab1 spec_IsSquareFreeMorphism.bits1 (fun HT_ HW_ => ?_)
    generalize w15.drew = w16 at BK641 HB HR642_0 hx642_0 hHeld ⊢
    refine pure_ (i := 0) (N := some 3) (v := ?_) (a' := ?_) #[true, false, false, false, false, false, false, false, false, false, false, false, false, false, false, false, false, false, false, false, false, false, false, false, false, false] rfl rfl (any_of HT_.out (by kernel_rfl)) (fun _ _ _ h => h) (Or.inl ⟨by rfl, ?_⟩) ?_ ?_
    rotate_left
    ·intro w'
     go_simp
     with_reducible rfl
    rotate_left
    ·simp only [Act.put, List.setIfInBounds_toArray, List.set_cons_zero, List.set_cons_succ, i64_w, i32_w]
     rfl
    refine take_ (i := 1) (N := some 4) (v := ?_) (a' := ?_) #[true, true, false, false, false, false, false, false, false, false, false, false, false, false, false, false, false, false, false, false, false, false, false, false, false, false] rfl rfl (take_ofW HT_.out HW_.out (by kernel_rfl)) (fun _ _ _ h => h) (Or.inl ⟨by rfl, ?_⟩) hHeld ?_ ?_
    rotate_left
    ·rintro w' ⟨s0, s1⟩
     go_simp
     with_reducible rfl
    rotate_left
    ·simp only [Act.put, List.setIfInBounds_toArray, List.set_cons_zero, List.set_cons_succ, i64_w, i32_w]
     rfl
    refine pure_ (i := 2) (N := some 5) (v := ?_) (a' := ?_) #[true, true, true, false, false, false, false, false, false, false, false, false, false, false, false, false, false, false, false, false, false, false, false, false, false, false] rfl rfl (any_of HT_.out (by kernel_rfl)) (fun _ _ _ h => h) (Or.inl ⟨by rfl, ?_⟩) ?_ ?_
    rotate_left
    ·intro w'
     go_simp
     with_reducible rfl
    rotate_left
    ·simp only [Act.put, List.setIfInBounds_toArray, List.set_cons_zero, List.set_cons_succ, i64_w, i32_w]
     rfl
    refine pure_ (i := 3) (N := some 6) (v := ?_) (a' := ?_) #[true, true, true, true, false, false, false, false, false, false, false, false, false, false, false, false, false, false, false, false, false, false, false, false, false, false] rfl rfl (any_of HT_.out (by kernel_rfl)) (fun _ _ _ h => h) (Or.inl ⟨by rfl, ?_⟩) ?_ ?_
    rotate_left
    ·intro w'
     go_simp
     with_reducible rfl
    rotate_left
    ·simp only [Act.put, List.setIfInBounds_toArray, List.set_cons_zero, List.set_cons_succ, i64_w, i32_w]
     rfl
    refine pure_ (i := 4) (N := some 7) (v := ?_) (a' := ?_) #[true, true, true, true, true, false, false, false, false, false, false, false, false, false, false, false, false, false, false, false, false, false, false, false, false, false] rfl rfl (any_of HT_.out (by kernel_rfl)) (fun _ _ _ h => h) (Or.inl ⟨by rfl, ?_⟩) ?_ ?_
    rotate_left
    ·intro w'
     go_simp
     with_reducible rfl
    rotate_left
    ·simp only [Act.put, List.setIfInBounds_toArray, List.set_cons_zero, List.set_cons_succ, i64_w, i32_w]
     rfl
    refine pure_ (i := 5) (N := some 8) (v := ?_) (a' := ?_) #[true, true, true, true, true, true, false, false, false, false, false, false, false, false, false, false, false, false, false, false, false, false, false, false, false, false] rfl rfl (any_of HT_.out (by kernel_rfl)) (fun _ _ _ h => h) (Or.inl ⟨by rfl, ?_⟩) ?_ ?_
    rotate_left
    ·intro w'
     go_simp
     with_reducible rfl
    rotate_left
    ·simp only [Act.put, List.setIfInBounds_toArray, List.set_cons_zero, List.set_cons_succ, i64_w, i32_w]
     rfl
    refine take_ (i := 6) (N := some 9) (v := ?_) (a' := ?_) #[true, true, true, true, true, true, true, false, false, false, false, false, false, false, false, false, false, false, false, false, false, false, false, false, false, false] rfl rfl (take_ofW HT_.out HW_.out (by kernel_rfl)) (fun _ _ _ h => h) (Or.inl ⟨by rfl, ?_⟩) hHeld ?_ ?_
    rotate_left
    ·rintro w' ⟨s0, s1⟩
     go_simp
     with_reducible rfl
    rotate_left
    ·simp only [Act.put, List.setIfInBounds_toArray, List.set_cons_zero, List.set_cons_succ, i64_w, i32_w]
     rfl
    refine pure_ (i := 7) (N := some 10) (v := ?_) (a' := ?_) #[true, true, true, true, true, true, true, true, false, false, false, false, false, false, false, false, false, false, false, false, false, false, false, false, false, false] rfl rfl (any_of HT_.out (by kernel_rfl)) (fun _ _ _ h => h) (Or.inl ⟨by rfl, ?_⟩) ?_ ?_
    rotate_left
    ·intro w'
     go_simp
     with_reducible rfl
    rotate_left
    ·simp only [Act.put, List.setIfInBounds_toArray, List.set_cons_zero, List.set_cons_succ, i64_w, i32_w]
     rfl
    refine take_ (i := 8) (N := some 11) (v := ?_) (a' := ?_) #[true, true, true, true, true, true, true, true, true, false, false, false, false, false, false, false, false, false, false, false, false, false, false, false, false, false] rfl rfl (take_ofW HT_.out HW_.out (by kernel_rfl)) (fun _ _ _ h => h) (Or.inl ⟨by rfl, ?_⟩) hHeld ?_ ?_
    rotate_left
    ·rintro w' ⟨s0, s1⟩
     go_simp
     with_reducible rfl
    rotate_left
    ·simp only [Act.put, List.setIfInBounds_toArray, List.set_cons_zero, List.set_cons_succ, i64_w, i32_w]
     rfl
    refine pure_ (i := 9) (N := some 12) (v := ?_) (a' := ?_) #[true, true, true, true, true, true, true, true, true, true, false, false, false, false, false, false, false, false, false, false, false, false, false, false, false, false] rfl rfl (any_of HT_.out (by kernel_rfl)) (fun _ _ _ h => h) (Or.inl ⟨by rfl, ?_⟩) ?_ ?_
    rotate_left
    ·intro w'
     go_simp
     with_reducible rfl
    rotate_left
    ·simp only [Act.put, List.setIfInBounds_toArray, List.set_cons_zero, List.set_cons_succ, i64_w, i32_w]
     rfl
    refine pure_ (i := 10) (N := some 13) (v := ?_) (a' := ?_) #[true, true, true, true, true, true, true, true, true, true, true, false, false, false, false, false, false, false, false, false, false, false, false, false, false, false] rfl rfl (any_of HT_.out (by kernel_rfl)) (fun _ _ _ h => h) (Or.inl ⟨by rfl, ?_⟩) ?_ ?_
    rotate_left
    ·intro w'
     go_simp
     with_reducible rfl
    rotate_left
    ·simp only [Act.put, List.setIfInBounds_toArray, List.set_cons_zero, List.set_cons_succ, i64_w, i32_w]
     rfl
    refine pure_ (i := 11) (N := some 14) (v := ?_) (a' := ?_) #[true, true, true, true, true, true, true, true, true, true, true, true, false, false, false, false, false, false, false, false, false, false, false, false, false, false] rfl rfl (any_of HT_.out (by kernel_rfl)) (fun _ _ _ h => h) (Or.inl ⟨by rfl, ?_⟩) ?_ ?_
    rotate_left
    ·intro w'
     go_simp
     with_reducible rfl
    rotate_left
    ·simp only [Act.put, List.setIfInBounds_toArray, List.set_cons_zero, List.set_cons_succ, i64_w, i32_w]
     rfl
    refine pure_ (i := 12) (N := some 15) (v := ?_) (a' := ?_) #[true, true, true, true, true, true, true, true, true, true, true, true, true, false, false, false, false, false, false, false, false, false, false, false, false, false] rfl rfl (any_of HT_.out (by kernel_rfl)) (fun _ _ _ h => h) (Or.inl ⟨by rfl, ?_⟩) ?_ ?_
    rotate_left
    ·intro w'
     go_simp
     with_reducible rfl
    rotate_left
    ·simp only [Act.put, List.setIfInBounds_toArray, List.set_cons_zero, List.set_cons_succ, i64_w, i32_w]
     rfl
    refine pure_ (i := 13) (N := some 16) (v := undef) (a' := ?_) #[true, true, true, true, true, true, true, true, true, true, true, true, true, true, false, false, false, false, false, false, false, false, false, false, false, false] rfl rfl (any_of HT_.out (by kernel_rfl)) (fun _ _ _ h => h) (Or.inr ⟨by rfl, rfl⟩) ?_ ?_
    rotate_left
    ·simp only [Act.put, List.setIfInBounds_toArray, List.set_cons_zero, List.set_cons_succ, i64_w, i32_w]
     rfl
    refine pure_ (i := 14) (N := some 17) (v := undef) (a' := ?_) #[true, true, true, true, true, true, true, true, true, true, true, true, true, true, true, false, false, false, false, false, false, false, false, false, false, false] rfl rfl (any_of HT_.out (by kernel_rfl)) (fun _ _ _ h => h) (Or.inr ⟨by rfl, rfl⟩) ?_ ?_
    rotate_left
    ·simp only [Act.put, List.setIfInBounds_toArray, List.set_cons_zero, List.set_cons_succ, i64_w, i32_w]
     rfl
    refine pure_ (i := 15) (N := some 18) (v := undef) (a' := ?_) #[true, true, true, true, true, true, true, true, true, true, true, true, true, true, true, true, false, false, false, false, false, false, false, false, false, false] rfl rfl (any_of HT_.out (by kernel_rfl)) (fun _ _ _ h => h) (Or.inr ⟨by rfl, rfl⟩) ?_ ?_
    rotate_left
    ·simp only [Act.put, List.setIfInBounds_toArray, List.set_cons_zero, List.set_cons_succ, i64_w, i32_w]
     rfl
    refine pure_ (i := 16) (N := some 19) (v := undef) (a' := ?_) #[true, true, true, true, true, true, true, true, true, true, true, true, true, true, true, true, true, false, false, false, false, false, false, false, false, false] rfl rfl (any_of HT_.out (by kernel_rfl)) (fun _ _ _ h => h) (Or.inr ⟨by rfl, rfl⟩) ?_ ?_
    rotate_left
    ·simp only [Act.put, List.setIfInBounds_toArray, List.set_cons_zero, List.set_cons_succ, i64_w, i32_w]
     rfl
    refine pure_ (i := 17) (N := some 20) (v := undef) (a' := ?_) #[true, true, true, true, true, true, true, true, true, true, true, true, true, true, true, true, true, true, false, false, false, false, false, false, false, false] rfl rfl (any_of HT_.out (by kernel_rfl)) (fun _ _ _ h => h) (Or.inr ⟨by rfl, rfl⟩) ?_ ?_
    rotate_left
    ·simp only [Act.put, List.setIfInBounds_toArray, List.set_cons_zero, List.set_cons_succ, i64_w, i32_w]
     rfl
    refine pure_ (i := 18) (N := some 21) (v := undef) (a' := ?_) #[true, true, true, true, true, true, true, true, true, true, true, true, true, true, true, true, true, true, true, false, false, false, false, false, false, false] rfl rfl (any_of HT_.out (by kernel_rfl)) (fun _ _ _ h => h) (Or.inr ⟨by rfl, rfl⟩) ?_ ?_
    rotate_left
    ·simp only [Act.put, List.setIfInBounds_toArray, List.set_cons_zero, List.set_cons_succ, i64_w, i32_w]
     rfl
    refine pure_ (i := 19) (N := some 22) (v := undef) (a' := ?_) #[true, true, true, true, true, true, true, true, true, true, true, true, true, true, true, true, true, true, true, true, false, false, false, false, false, false] rfl rfl (any_of HT_.out (by kernel_rfl)) (fun _ _ _ h => h) (Or.inr ⟨by rfl, rfl⟩) ?_ ?_
    rotate_left
    ·simp only [Act.put, List.setIfInBounds_toArray, List.set_cons_zero, List.set_cons_succ, i64_w, i32_w]
     rfl
    refine pure_ (i := 20) (N := some 23) (v := ?_) (a' := ?_) #[true, true, true, true, true, true, true, true, true, true, true, true, true, true, true, true, true, true, true, true, true, false, false, false, false, false] rfl rfl (any_of HT_.out (by kernel_rfl)) (fun _ _ _ h => h) (Or.inl ⟨by rfl, ?_⟩) ?_ ?_
    rotate_left
    ·intro w'
     go_simp
     with_reducible rfl
    rotate_left
    ·simp only [Act.put, List.setIfInBounds_toArray, List.set_cons_zero, List.set_cons_succ, i64_w, i32_w]
     rfl
    refine pure_ (i := 21) (N := some 24) (v := ?_) (a' := ?_) #[true, true, true, true, true, true, true, true, true, true, true, true, true, true, true, true, true, true, true, true, true, true, false, false, false, false] rfl rfl (any_of HT_.out (by kernel_rfl)) (fun _ _ _ h => h) (Or.inl ⟨by rfl, ?_⟩) ?_ ?_
    rotate_left
    ·intro w'
     go_simp
     with_reducible rfl
    rotate_left
    ·simp only [Act.put, List.setIfInBounds_toArray, List.set_cons_zero, List.set_cons_succ, i64_w, i32_w]
     rfl
    refine pure_ (i := 22) (N := some 25) (v := undef) (a' := ?_) #[true, true, true, true, true, true, true, true, true, true, true, true, true, true, true, true, true, true, true, true, true, true, true, false, false, false] rfl rfl (any_of HT_.out (by kernel_rfl)) (fun _ _ _ h => h) (Or.inr ⟨by rfl, rfl⟩) ?_ ?_
    rotate_left
    ·simp only [Act.put, List.setIfInBounds_toArray, List.set_cons_zero, List.set_cons_succ, i64_w, i32_w]
     rfl
    refine pure_ (i := 23) (N := some 26) (v := undef) (a' := ?_) #[true, true, true, true, true, true, true, true, true, true, true, true, true, true, true, true, true, true, true, true, true, true, true, true, false, false] rfl rfl (any_of HT_.out (by kernel_rfl)) (fun _ _ _ h => h) (Or.inr ⟨by rfl, rfl⟩) ?_ ?_
    rotate_left
    ·simp only [Act.put, List.setIfInBounds_toArray, List.set_cons_zero, List.set_cons_succ, i64_w, i32_w]
     rfl
    refine pure_ (i := 24) (N := some 27) (v := ?_) (a' := ?_) #[true, true, true, true, true, true, true, true, true, true, true, true, true, true, true, true, true, true, true, true, true, true, true, true, true, false] rfl rfl (any_of HT_.out (by kernel_rfl)) (fun _ _ _ h => h) (Or.inl ⟨by rfl, ?_⟩) ?_ ?_
    rotate_left
    ·intro w'
     go_simp
     with_reducible rfl
    rotate_left
    ·simp only [Act.put, List.setIfInBounds_toArray, List.set_cons_zero, List.set_cons_succ, i64_w, i32_w]
     rfl
    refine pure_ (i := 25) (N := some 2) (v := ?_) (a' := ?_) #[true, true, true, true, true, true, true, true, true, true, true, true, true, true, true, true, true, true, true, true, true, true, true, true, true, true] rfl rfl (any_of HT_.out (by kernel_rfl)) (fun _ _ _ h => h) (Or.inl ⟨by rfl, ?_⟩) ?_ ?_
    rotate_left
    ·intro w'
     go_simp
     with_reducible rfl
    rotate_left
    ·simp only [Act.put, List.setIfInBounds_toArray, List.set_cons_zero, List.set_cons_succ, i64_w, i32_w]
     rfl
    refine done_ (done_of HT_.out (by kernel_rfl)) ?_
    try go_wp2
    go_ret
    exact ⟨by first | rfl | (simp [errW_none, errW_some] <;> rfl) | (simp [*, errW_none, errW_some] <;> rfl), by repeat (first | (with_reducible first | exact HB.out | apply below_alloc | apply pw_below_drewN | apply below_drew1 | refine below_set ?_ GE641.out) | exact HB.out)⟩
  ·rw [if_neg c3] at H
   exact absurd H (by simp)
 ·rw [if_neg c2] at H
  have c2b0 : ((l0_0.length : Int) == 3) = false := beq_eq_false_iff_ne.mpr c2
  have c2b1 : ((l0_0.length : Int) != 3) = true := bne_iff_ne.mpr c2
  obtain rfl := Option.some.inj H
  go_enter Try.func39, Try.ntmps39
  try go_wp2_with (first | ((with_reducible refine gate_dst (N := 1) rfl ?_); (try (refine gate_guard (by rfl) ?_; dsimp only)); refine box_event ?hg (N := 1) ?hd (cs := #[.slice A0_0 l0_0.length c0_0]) (t := 28) ?hr ?_; (case hd => rfl); (case hg => rfl); (case hr => first | (go_simp; done) | (go_simp; rfl)); intro gb641 hg w17 hbox hb; have n0_ := Aside0.mk (below_step (by repeat (first | (with_reducible first | exact HB.out | apply below_alloc | apply pw_below_drewN | apply below_drew1) | exact HB.out)) hb); have n1_ := Aside0.mk (hbox); have n2_ := Aside0.mk ((by rw [hg]; exact (below_size (by repeat (first | (with_reducible first | exact HB.out | apply below_alloc | apply pw_below_drewN | apply below_drew1) | exact HB.out))) : w.heap.size ≤ gb641)); have n3_ := Aside0.mk ((by rw [hg]; exact (below_size (by repeat (first | (with_reducible first | exact HB.out | apply below_alloc | apply pw_below_drewN | apply below_drew1) | exact HB.out))) : w.heap.size ≤ gb641)); clear HB; have HB := n0_; have BK641 := n1_; have GW641 := n2_; have GE641 := n3_; clear n0_ n1_ n2_ n3_; clear hb hbox hg))
  have n0_ := Aside0.mk (blk_drew BK641.out)
  have n1_ := Aside0.mk (below_drew1 HB.out)
  clear BK641
  clear HB
  have BK641 := n0_
  have HB := n1_
  clear n0_ n1_
  refine start_ (n := 26) (S := fun w' => w'.cell? ⟨gb641, 0, none⟩ = some (.slice A0_0 l0_0.length c0_0)) (ds := []) #[false, false, false, false, false, false, false, false, false, false, false, false, false, false, false, false, false, false, false, false, false, false, false, false, false, false] (by kernel_rfl) rfl rfl ((blk_cell BK641.out 0).trans rfl) (fun hHeld => ?_); refine with_tabW spec_IsSquareFreeMorphism.tab1 spec_IsSquareFreeMorphism.bits1 (fun HT_ HW_ => ?_)
  generalize w17.drew = w18 at BK641 HB hHeld ⊢
  refine pure_ (i := 0) (N := some 3) (v := ?_) (a' := ?_) #[true, false, false, false, false, false, false, false, false, false, false, false, false, false, false, false, false, false, false, false, false, false, false, false, false, false] rfl rfl (any_of HT_.out (by kernel_rfl)) (fun _ _ _ h => h) (Or.inl ⟨by rfl, ?_⟩) ?_ ?_
  rotate_left
  ·intro w'
   go_simp
   with_reducible rfl
  rotate_left
  ·simp only [Act.put, List.setIfInBounds_toArray, List.set_cons_zero, List.set_cons_succ, i64_w, i32_w]
   rfl
  refine take_ (i := 1) (N := some 4) (v := ?_) (a' := ?_) #[true, true, false, false, false, false, false, false, false, false, false, false, false, false, false, false, false, false, false, false, false, false, false, false, false, false] rfl rfl (take_ofW HT_.out HW_.out (by kernel_rfl)) (fun _ _ _ h => h) (Or.inl ⟨by rfl, ?_⟩) hHeld ?_ ?_
  rotate_left
  ·intro w' s0
   go_simp
   with_reducible rfl
  rotate_left
  ·simp only [Act.put, List.setIfInBounds_toArray, List.set_cons_zero, List.set_cons_succ, i64_w, i32_w]
   rfl
  refine pure_ (i := 2) (N := some 5) (v := ?_) (a' := ?_) #[true, true, true, false, false, false, false, false, false, false, false, false, false, false, false, false, false, false, false, false, false, false, false, false, false, false] rfl rfl (any_of HT_.out (by kernel_rfl)) (fun _ _ _ h => h) (Or.inl ⟨by rfl, ?_⟩) ?_ ?_
  rotate_left
  ·intro w'
   go_simp
   with_reducible rfl
  rotate_left
  ·simp only [Act.put, List.setIfInBounds_toArray, List.set_cons_zero, List.set_cons_succ, i64_w, i32_w]
   rfl
  refine pure_ (i := 3) (N := some 6) (v := ?_) (a' := ?_) #[true, true, true, true, false, false, false, false, false, false, false, false, false, false, false, false, false, false, false, false, false, false, false, false, false, false] rfl rfl (any_of HT_.out (by kernel_rfl)) (fun _ _ _ h => h) (Or.inl ⟨by rfl, ?_⟩) ?_ ?_
  rotate_left
  ·intro w'
   go_simp
   with_reducible rfl
  rotate_left
  ·simp only [Act.put, List.setIfInBounds_toArray, List.set_cons_zero, List.set_cons_succ, i64_w, i32_w]
   rfl
  refine pure_ (i := 4) (N := some 7) (v := ?_) (a' := ?_) #[true, true, true, true, true, false, false, false, false, false, false, false, false, false, false, false, false, false, false, false, false, false, false, false, false, false] rfl rfl (any_of HT_.out (by kernel_rfl)) (fun _ _ _ h => h) (Or.inl ⟨by rfl, ?_⟩) ?_ ?_
  rotate_left
  ·intro w'
   go_simp
   with_reducible rfl
  rotate_left
  ·simp only [Act.put, List.setIfInBounds_toArray, List.set_cons_zero, List.set_cons_succ, i64_w, i32_w]
   rfl
  refine pure_ (i := 5) (N := some 8) (v := undef) (a' := ?_) #[true, true, true, true, true, true, false, false, false, false, false, false, false, false, false, false, false, false, false, false, false, false, false, false, false, false] rfl rfl (any_of HT_.out (by kernel_rfl)) (fun _ _ _ h => h) (Or.inr ⟨by rfl, rfl⟩) ?_ ?_
  rotate_left
  ·simp only [Act.put, List.setIfInBounds_toArray, List.set_cons_zero, List.set_cons_succ, i64_w, i32_w]
   rfl
  refine pure_ (i := 6) (N := some 9) (v := undef) (a' := ?_) #[true, true, true, true, true, true, true, false, false, false, false, false, false, false, false, false, false, false, false, false, false, false, false, false, false, false] rfl rfl (any_of HT_.out (by kernel_rfl)) (fun _ _ _ h => h) (Or.inr ⟨by rfl, rfl⟩) ?_ ?_
  rotate_left
  ·simp only [Act.put, List.setIfInBounds_toArray, List.set_cons_zero, List.set_cons_succ, i64_w, i32_w]
   rfl
  refine pure_ (i := 7) (N := some 10) (v := undef) (a' := ?_) #[true, true, true, true, true, true, true, true, false, false, false, false, false, false, false, false, false, false, false, false, false, false, false, false, false, false] rfl rfl (any_of HT_.out (by kernel_rfl)) (fun _ _ _ h => h) (Or.inr ⟨by rfl, rfl⟩) ?_ ?_
  rotate_left
  ·simp only [Act.put, List.setIfInBounds_toArray, List.set_cons_zero, List.set_cons_succ, i64_w, i32_w]
   rfl
  refine pure_ (i := 8) (N := some 11) (v := undef) (a' := ?_) #[true, true, true, true, true, true, true, true, true, false, false, false, false, false, false, false, false, false, false, false, false, false, false, false, false, false] rfl rfl (any_of HT_.out (by kernel_rfl)) (fun _ _ _ h => h) (Or.inr ⟨by rfl, rfl⟩) ?_ ?_
  rotate_left
  ·simp only [Act.put, List.setIfInBounds_toArray, List.set_cons_zero, List.set_cons_succ, i64_w, i32_w]
   rfl
  refine pure_ (i := 9) (N := some 12) (v := undef) (a' := ?_) #[true, true, true, true, true, true, true, true, true, true, false, false, false, false, false, false, false, false, false, false, false, false, false, false, false, false] rfl rfl (any_of HT_.out (by kernel_rfl)) (fun _ _ _ h => h) (Or.inr ⟨by rfl, rfl⟩) ?_ ?_
  rotate_left
  ·simp only [Act.put, List.setIfInBounds_toArray, List.set_cons_zero, List.set_cons_succ, i64_w, i32_w]
   rfl
  refine pure_ (i := 10) (N := some 13) (v := undef) (a' := ?_) #[true, true, true, true, true, true, true, true, true, true, true, false, false, false, false, false, false, false, false, false, false, false, false, false, false, false] rfl rfl (any_of HT_.out (by kernel_rfl)) (fun _ _ _ h => h) (Or.inr ⟨by rfl, rfl⟩) ?_ ?_
  rotate_left
  ·simp only [Act.put, List.setIfInBounds_toArray, List.set_cons_zero, List.set_cons_succ, i64_w, i32_w]
   rfl
  refine pure_ (i := 11) (N := some 14) (v := ?_) (a' := ?_) #[true, true, true, true, true, true, true, true, true, true, true, true, false, false, false, false, false, false, false, false, false, false, false, false, false, false] rfl rfl (any_of HT_.out (by kernel_rfl)) (fun _ _ _ h => h) (Or.inl ⟨by rfl, ?_⟩) ?_ ?_
  rotate_left
  ·intro w'
   go_simp
   with_reducible rfl
  rotate_left
  ·simp only [Act.put, List.setIfInBounds_toArray, List.set_cons_zero, List.set_cons_succ, i64_w, i32_w]
   rfl
  refine pure_ (i := 12) (N := some 15) (v := ?_) (a' := ?_) #[true, true, true, true, true, true, true, true, true, true, true, true, true, false, false, false, false, false, false, false, false, false, false, false, false, false] rfl rfl (any_of HT_.out (by kernel_rfl)) (fun _ _ _ h => h) (Or.inl ⟨by rfl, ?_⟩) ?_ ?_
  rotate_left
  ·intro w'
   go_simp
   with_reducible rfl
  rotate_left
  ·simp only [Act.put, List.setIfInBounds_toArray, List.set_cons_zero, List.set_cons_succ, i64_w, i32_w]
   rfl
  refine pure_ (i := 13) (N := some 16) (v := undef) (a' := ?_) #[true, true, true, true, true, true, true, true, true, true, true, true, true, true, false, false, false, false, false, false, false, false, false, false, false, false] rfl rfl (any_of HT_.out (by kernel_rfl)) (fun _ _ _ h => h) (Or.inr ⟨by rfl, rfl⟩) ?_ ?_
  rotate_left
  ·simp only [Act.put, List.setIfInBounds_toArray, List.set_cons_zero, List.set_cons_succ, i64_w, i32_w]
   rfl
  refine pure_ (i := 14) (N := some 17) (v := undef) (a' := ?_) #[true, true, true, true, true, true, true, true, true, true, true, true, true, true, true, false, false, false, false, false, false, false, false, false, false, false] rfl rfl (any_of HT_.out (by kernel_rfl)) (fun _ _ _ h => h) (Or.inr ⟨by rfl, rfl⟩) ?_ ?_
  rotate_left
  ·simp only [Act.put, List.setIfInBounds_toArray, List.set_cons_zero, List.set_cons_succ, i64_w, i32_w]
   rfl
  refine pure_ (i := 15) (N := some 18) (v := undef) (a' := ?_) #[true, true, true, true, true, true, true, true, true, true, true, true, true, true, true, true, false, false, false, false, false, false, false, false, false, false] rfl rfl (any_of HT_.out (by kernel_rfl)) (fun _ _ _ h => h) (Or.inr ⟨by rfl, rfl⟩) ?_ ?_
  rotate_left
  ·simp only [Act.put, List.setIfInBounds_toArray, List.set_cons_zero, List.set_cons_succ, i64_w, i32_w]
   rfl
  refine pure_ (i := 16) (N := some 19) (v := undef) (a' := ?_) #[true, true, true, true, true, true, true, true, true, true, true, true, true, true, true, true, true, false, false, false, false, false, false, false, false, false] rfl rfl (any_of HT_.out (by kernel_rfl)) (fun _ _ _ h => h) (Or.inr ⟨by rfl, rfl⟩) ?_ ?_
  rotate_left
  ·simp only [Act.put, List.setIfInBounds_toArray, List.set_cons_zero, List.set_cons_succ, i64_w, i32_w]
   rfl
  refine pure_ (i := 17) (N := some 20) (v := undef) (a' := ?_) #[true, true, true, true, true, true, true, true, true, true, true, true, true, true, true, true, true, true, false, false, false, false, false, false, false, false] rfl rfl (any_of HT_.out (by kernel_rfl)) (fun _ _ _ h => h) (Or.inr ⟨by rfl, rfl⟩) ?_ ?_
  rotate_left
  ·simp only [Act.put, List.setIfInBounds_toArray, List.set_cons_zero, List.set_cons_succ, i64_w, i32_w]
   rfl
  refine pure_ (i := 18) (N := some 21) (v := undef) (a' := ?_) #[true, true, true, true, true, true, true, true, true, true, true, true, true, true, true, true, true, true, true, false, false, false, false, false, false, false] rfl rfl (any_of HT_.out (by kernel_rfl)) (fun _ _ _ h => h) (Or.inr ⟨by rfl, rfl⟩) ?_ ?_
  rotate_left
  ·simp only [Act.put, List.setIfInBounds_toArray, List.set_cons_zero, List.set_cons_succ, i64_w, i32_w]
   rfl
  refine pure_ (i := 19) (N := some 22) (v := undef) (a' := ?_) #[true, true, true, true, true, true, true, true, true, true, true, true, true, true, true, true, true, true, true, true, false, false, false, false, false, false] rfl rfl (any_of HT_.out (by kernel_rfl)) (fun _ _ _ h => h) (Or.inr ⟨by rfl, rfl⟩) ?_ ?_
  rotate_left
  ·simp only [Act.put, List.setIfInBounds_toArray, List.set_cons_zero, List.set_cons_succ, i64_w, i32_w]
   rfl
  refine pure_ (i := 20) (N := some 23) (v := ?_) (a' := ?_) #[true, true, true, true, true, true, true, true, true, true, true, true, true, true, true, true, true, true, true, true, true, false, false, false, false, false] rfl rfl (any_of HT_.out (by kernel_rfl)) (fun _ _ _ h => h) (Or.inl ⟨by rfl, ?_⟩) ?_ ?_
  rotate_left
  ·intro w'
   go_simp
   with_reducible rfl
  rotate_left
  ·simp only [Act.put, List.setIfInBounds_toArray, List.set_cons_zero, List.set_cons_succ, i64_w, i32_w]
   rfl
  refine pure_ (i := 21) (N := some 24) (v := ?_) (a' := ?_) #[true, true, true, true, true, true, true, true, true, true, true, true, true, true, true, true, true, true, true, true, true, true, false, false, false, false] rfl rfl (any_of HT_.out (by kernel_rfl)) (fun _ _ _ h => h) (Or.inl ⟨by rfl, ?_⟩) ?_ ?_
  rotate_left
  ·intro w'
   go_simp
   with_reducible rfl
  rotate_left
  ·simp only [Act.put, List.setIfInBounds_toArray, List.set_cons_zero, List.set_cons_succ, i64_w, i32_w]
   rfl
  refine pure_ (i := 22) (N := some 25) (v := undef) (a' := ?_) #[true, true, true, true, true, true, true, true, true, true, true, true, true, true, true, true, true, true, true, true, true, true, true, false, false, false] rfl rfl (any_of HT_.out (by kernel_rfl)) (fun _ _ _ h => h) (Or.inr ⟨by rfl, rfl⟩) ?_ ?_
  rotate_left
  ·simp only [Act.put, List.setIfInBounds_toArray, List.set_cons_zero, List.set_cons_succ, i64_w, i32_w]
   rfl
  refine pure_ (i := 23) (N := some 26) (v := undef) (a' := ?_) #[true, true, true, true, true, true, true, true, true, true, true, true, true, true, true, true, true, true, true, true, true, true, true, true, false, false] rfl rfl (any_of HT_.out (by kernel_rfl)) (fun _ _ _ h => h) (Or.inr ⟨by rfl, rfl⟩) ?_ ?_
  rotate_left
  ·simp only [Act.put, List.setIfInBounds_toArray, List.set_cons_zero, List.set_cons_succ, i64_w, i32_w]
   rfl
  refine pure_ (i := 24) (N := some 27) (v := ?_) (a' := ?_) #[true, true, true, true, true, true, true, true, true, true, true, true, true, true, true, true, true, true, true, true, true, true, true, true, true, false] rfl rfl (any_of HT_.out (by kernel_rfl)) (fun _ _ _ h => h) (Or.inl ⟨by rfl, ?_⟩) ?_ ?_
  rotate_left
  ·intro w'
   go_simp
   with_reducible rfl
  rotate_left
  ·simp only [Act.put, List.setIfInBounds_toArray, List.set_cons_zero, List.set_cons_succ, i64_w, i32_w]
   rfl
  refine pure_ (i := 25) (N := some 2) (v := ?_) (a' := ?_) #[true, true, true, true, true, true, true, true, true, true, true, true, true, true, true, true, true, true, true, true, true, true, true, true, true, true] rfl rfl (any_of HT_.out (by kernel_rfl)) (fun _ _ _ h => h) (Or.inl ⟨by rfl, ?_⟩) ?_ ?_
  rotate_left
  ·intro w'
   go_simp
   with_reducible rfl
  rotate_left
  ·simp only [Act.put, List.setIfInBounds_toArray, List.set_cons_zero, List.set_cons_succ, i64_w, i32_w]
   rfl
  refine done_ (done_of HT_.out (by kernel_rfl)) ?_
  try go_wp2
  go_ret
  exact ⟨by first | rfl | (simp [errW_none, errW_some] <;> rfl) | (simp [*, errW_none, errW_some] <;> rfl), by repeat (first | (with_reducible first | exact HB.out | apply below_alloc | apply pw_below_drewN | apply below_drew1 | refine below_set ?_ GE641.out) | exact HB.out)⟩

end Go.Proofs.Ytooamcjgejajeaa.M
/- Walks for this claim, written by a program of mine over the kit's print. No condition of mine. -/
namespace Go.Proofs.Ytooamcjgejajeaa.M
open Go.RowKit Go.Proofs.Ytooamcjgejajeaa.KW Go.Proofs.YtooamcjgejajeaaW.PrintWords Go.Proofs.YtooamcjgejajeaaW.PrintLast Go.Proofs.YtooamcjgejajeaaW.PrintMore
attribute [local go_sem] max2_int min2_int max_two min_two max_three min_three max_four min_four   -- for this text's walks alone
set_option linter.unusedVariables false
set_option linter.unusedSimpArgs false

/-! ### impl_areLetters: function 159 -/
def impl_areLetters.l0 : Nat → Int → List Int → Int → Int → Option (Bool)
 | 0, _, _, _, _ => none
 | k + 1, x1, x7, x8, x9 => if x9 < x8 then (if 0 ≤ x9 then (if x9 < (x7.length : Int) then (if (rd x7 x9) < 0 then (some false) else (if (rd x7 x9) ≥ x1 then (some false) else (impl_areLetters.l0 k x1 x7 x8 (wrap64 (x9 + 1))))) else (none)) else (none)) else (some true)
def impl_areLetters.f (k : Nat) (l0 : List Int) (a1 : Int) : Option (Bool) := impl_areLetters.l0 k a1 l0 (l0.length : Int) 0
theorem impl_areLetters.mono_l : ∀ k, (∀ y0 y1 y2 y3, LeO (impl_areLetters.l0 k y0 y1 y2 y3) (impl_areLetters.l0 (k + 1) y0 y1 y2 y3))
 | 0 => fun _ _ _ _ r h => by simp [impl_areLetters.l0] at h
 | k + 1 => by
  have ih0 := impl_areLetters.mono_l k
  ·intro y0 y1 y2 y3
   unfold impl_areLetters.l0
   repeat' first
   | (with_reducible exact ih0 _ _ _ _)
   | (with_reducible exact LeO.refl _)
   | (with_reducible exact LeO.none _)
   | (with_reducible refine LeO.ite ?_ ?_)
   | (with_reducible refine LeO.bind ?_ (fun _ => ?_))
   | exact ih0 _ _ _ _
   | exact LeO.none _
   | refine LeO.ite ?_ ?_
   | refine LeO.bind ?_ (fun _ => ?_)
theorem impl_areLetters.mono : ∀ a0 a1 k, LeO (impl_areLetters.f k a0 a1) (impl_areLetters.f (k + 1) a0 a1) := by
 intro a0 a1 k
 have ih0 := impl_areLetters.mono_l k
 unfold impl_areLetters.f
 repeat' first
   | (with_reducible exact ih0 _ _ _ _)
   | (with_reducible exact LeO.refl _)
   | (with_reducible exact LeO.none _)
   | (with_reducible refine LeO.ite ?_ ?_)
   | (with_reducible refine LeO.bind ?_ (fun _ => ?_))
   | exact ih0 _ _ _ _
   | exact LeO.none _
   | refine LeO.ite ?_ ?_
   | refine LeO.bind ?_ (fun _ => ?_)
set_option maxHeartbeats 8000000 in
set_option maxRecDepth 100000 in
theorem impl_areLetters.calls (k : Nat) (A0 : Option Addr) (c0 : Nat) (l0 : List Int) (a1 : Int) (r : Bool) (w : World) (hr0 : Kd.C (Kd.int .i64) w A0 l0.length l0) (hc0 : l0.length ≤ c0) (h : impl_areLetters.f k l0 a1 = some r) :
  Calls Try.prog 159 #[.slice A0 l0.length c0, .int .i64 a1] w fun e w' => e = .returned (.bool r) ∧ Drawn0 w w' := by
 have HR0 := Aside0.mk hr0
 have HC0 := Aside0.mk hc0
 clear hr0 hc0
 have H : (impl_areLetters.l0 k a1 l0 (l0.length : Int) 0) = some r := h
 clear h
 have H' := Aside0.mk H
 clear H
 go_enter Try.func159, Try.ntmps159
 go_wp2
 go_loopg [9] k (fun kq v9 w' => ∃ (x9_1 : Int), v9 = .int .i64 x9_1 ∧ Aside0 (impl_areLetters.l0 kq a1 l0 (l0.length : Int) x9_1 = some r) ∧ Aside0 (kq ≤ k) ∧ Drawn0 w w')
 case atStart => exact ⟨(0), (by first | rfl | (simp; done) | (simp [*]; done)), H', ⟨Nat.le_refl _⟩, by repeat (first | exact Drawn0.refl _ | apply Drawn0.step)⟩
 case round =>
  clear H'
  try clear c1
  try clear p2
  obtain ⟨x9_1, rfl, HA, HK1, ⟨m1, rfl⟩⟩ := hrel
  cases gk with
  | zero => exact absurd HA.out (by simp [impl_areLetters.l0])
  | succ k1 =>
   have H := HA.out
   clear HA
   simp only [impl_areLetters.l0] at H
   by_cases c3 : x9_1 < (l0.length : Int)
   ·rw [if_pos c3] at H
    have c3b0 : decide (x9_1 < (l0.length : Int)) = true := decide_eq_true c3
    clear c3
    by_cases c4 : 0 ≤ x9_1
    ·rw [if_pos c4] at H
     have c4b0 : decide (0 ≤ x9_1) = true := decide_eq_true c4
     clear c4
     by_cases c5 : x9_1 < (l0.length : Int)
     ·rw [if_pos c5] at H
      have c5b0 : decide (x9_1 < (l0.length : Int)) = true := decide_eq_true c5
      clear c5
      by_cases c6 : (rd l0 x9_1) < 0
      ·rw [if_pos c6] at H
       have c6b0 : decide ((rd l0 x9_1) < 0) = true := decide_eq_true c6
       clear c6
       obtain rfl := Option.some.inj H
       have p150 : 0 ≤ (x9_1 : Int) := of_decide_eq_true (by first | (with_reducible assumption) | assumption)
       have q150 : x9_1 < (l0.length : Int) := of_decide_eq_true (by first | (with_reducible assumption) | assumption)
       obtain ⟨ad150, e150, hx150_0⟩ := Kd.at_int HR0.out x9_1 p150 q150
       cases e150
       replace p150 := eq_true p150
       replace q150 := eq_true q150
       go_wp2
       go_ret
       exact ⟨by first | rfl | (simp; done) | (simp [*]; done), by repeat (first | exact Drawn0.refl _ | apply Drawn0.step)⟩
      ·rw [if_neg c6] at H
       have c6b0 : decide ((rd l0 x9_1) < 0) = false := decide_eq_false c6
       clear c6
       by_cases c7 : (rd l0 x9_1) ≥ a1
       ·rw [if_pos c7] at H
        have c7b0 : decide (a1 ≤ (rd l0 x9_1)) = true := decide_eq_true c7
        clear c7
        obtain rfl := Option.some.inj H
        have p150 : 0 ≤ (x9_1 : Int) := of_decide_eq_true (by first | (with_reducible assumption) | assumption)
        have q150 : x9_1 < (l0.length : Int) := of_decide_eq_true (by first | (with_reducible assumption) | assumption)
        obtain ⟨ad150, e150, hx150_0⟩ := Kd.at_int HR0.out x9_1 p150 q150
        cases e150
        replace p150 := eq_true p150
        replace q150 := eq_true q150
        go_wp2
        go_ret
        exact ⟨by first | rfl | (simp; done) | (simp [*]; done), by repeat (first | exact Drawn0.refl _ | apply Drawn0.step)⟩
       ·rw [if_neg c7] at H
        have c7b0 : decide (a1 ≤ (rd l0 x9_1)) = false := decide_eq_false c7
        clear c7
        have H' := Aside0.mk H
        clear H
        have p150 : 0 ≤ (x9_1 : Int) := of_decide_eq_true (by first | (with_reducible assumption) | assumption)
        have q150 : x9_1 < (l0.length : Int) := of_decide_eq_true (by first | (with_reducible assumption) | assumption)
        obtain ⟨ad150, e150, hx150_0⟩ := Kd.at_int HR0.out x9_1 p150 q150
        cases e150
        replace p150 := eq_true p150
        replace q150 := eq_true q150
        go_wp2
        go_roundg k1
        case measure => have := HK1.out; omega
        case rel => exact ⟨(wrap64 (x9_1 + 1)), (by first | rfl | (simp; done) | (simp [*]; done)), H', ⟨by have := HK1.out; omega⟩, by repeat (first | exact Drawn0.refl _ | apply Drawn0.step)⟩
     ·rw [if_neg c5] at H
      exact absurd H (by simp)
    ·rw [if_neg c4] at H
     exact absurd H (by simp)
   ·rw [if_neg c3] at H
    have c3b0 : decide (x9_1 < (l0.length : Int)) = false := decide_eq_false c3
    clear c3
    obtain rfl := Option.some.inj H
    go_wp2
    go_ret
    exact ⟨by first | rfl | (simp; done) | (simp [*]; done), by repeat (first | exact Drawn0.refl _ | apply Drawn0.step)⟩

end Go.Proofs.Ytooamcjgejajeaa.M
/- Walks for this claim, written by a program of mine over the kit's print. No condition of mine. -/
namespace Go.Proofs.Ytooamcjgejajeaa.M
open Go.RowKit Go.Proofs.Ytooamcjgejajeaa.KW Go.Proofs.YtooamcjgejajeaaW.PrintWords Go.Proofs.YtooamcjgejajeaaW.PrintLast Go.Proofs.YtooamcjgejajeaaW.PrintMore
attribute [local go_sem] max2_int min2_int max_two min_two max_three min_three max_four min_four   -- for this text's walks alone
set_option linter.unusedVariables false
set_option linter.unusedSimpArgs false

/-! ### impl_IsMorphism: function 108 -/
mutual
def impl_IsMorphism.j0 : Nat → Int → Bool → List (List Int) → Option (Bool)
 | 0, _, _, _ => none
 | k + 1, x3, x14, x152000 => if x14 = true then (some false) else (impl_IsMorphism.l0 k x3 x152000 (x152000.length : Int) 0)
def impl_IsMorphism.l0 : Nat → Int → List (List Int) → Int → Int → Option (Bool)
 | 0, _, _, _, _ => none
 | k + 1, x3, x16, x17, x18 => if x18 < x17 then (if 0 ≤ x18 then (if x18 < (x16.length : Int) then (if ((rd_L1 x16 x18).length : Int) > 8 then (some false) else ((impl_areLetters.f k (rd_L1 x16 x18) x3).bind fun t153 => (if t153 = true then (impl_IsMorphism.l0 k x3 x16 x17 (wrap64 (x18 + 1))) else (some false)))) else (none)) else (none)) else (some true)
end
def impl_IsMorphism.f (k : Nat) (l0_0 : List (List Int)) : Option (Bool) := if (l0_0.length : Int) < 1 then (impl_IsMorphism.j0 k (l0_0.length : Int) true l0_0) else (impl_IsMorphism.j0 k (l0_0.length : Int) (decide ((l0_0.length : Int) > 16)) l0_0)
theorem impl_IsMorphism.mono_l : ∀ k, (∀ y0 y1 y2, LeO (impl_IsMorphism.j0 k y0 y1 y2) (impl_IsMorphism.j0 (k + 1) y0 y1 y2)) ∧ (∀ y0 y1 y2 y3, LeO (impl_IsMorphism.l0 k y0 y1 y2 y3) (impl_IsMorphism.l0 (k + 1) y0 y1 y2 y3))
 | 0 => ⟨fun _ _ _ r h => by simp [impl_IsMorphism.j0] at h, fun _ _ _ _ r h => by simp [impl_IsMorphism.l0] at h⟩
 | k + 1 => by
  obtain ⟨ih0, ih1⟩ := impl_IsMorphism.mono_l k
  refine ⟨?_, ?_⟩
  ·intro y0 y1 y2
   unfold impl_IsMorphism.j0
   repeat' first
   | (with_reducible exact ih0 _ _ _)
   | (with_reducible exact ih1 _ _ _ _)
   | (with_reducible exact impl_areLetters.mono _ _ _)
   | (with_reducible exact LeO.refl _)
   | (with_reducible exact LeO.none _)
   | (with_reducible refine LeO.ite ?_ ?_)
   | (with_reducible refine LeO.bind ?_ (fun _ => ?_))
   | exact ih0 _ _ _
   | exact ih1 _ _ _ _
   | exact impl_areLetters.mono _ _ _
   | exact LeO.none _
   | refine LeO.ite ?_ ?_
   | refine LeO.bind ?_ (fun _ => ?_)
  ·intro y0 y1 y2 y3
   unfold impl_IsMorphism.l0
   repeat' first
   | (with_reducible exact ih0 _ _ _)
   | (with_reducible exact ih1 _ _ _ _)
   | (with_reducible exact impl_areLetters.mono _ _ _)
   | (with_reducible exact LeO.refl _)
   | (with_reducible exact LeO.none _)
   | (with_reducible refine LeO.ite ?_ ?_)
   | (with_reducible refine LeO.bind ?_ (fun _ => ?_))
   | exact ih0 _ _ _
   | exact ih1 _ _ _ _
   | exact impl_areLetters.mono _ _ _
   | exact LeO.none _
   | refine LeO.ite ?_ ?_
   | refine LeO.bind ?_ (fun _ => ?_)
theorem impl_IsMorphism.mono : ∀ a0 k, LeO (impl_IsMorphism.f k a0) (impl_IsMorphism.f (k + 1) a0) := by
 intro a0 k
 obtain ⟨ih0, ih1⟩ := impl_IsMorphism.mono_l k
 unfold impl_IsMorphism.f
 repeat' first
   | (with_reducible exact ih0 _ _ _)
   | (with_reducible exact ih1 _ _ _ _)
   | (with_reducible exact impl_areLetters.mono _ _ _)
   | (with_reducible exact LeO.refl _)
   | (with_reducible exact LeO.none _)
   | (with_reducible refine LeO.ite ?_ ?_)
   | (with_reducible refine LeO.bind ?_ (fun _ => ?_))
   | exact ih0 _ _ _
   | exact ih1 _ _ _ _
   | exact impl_areLetters.mono _ _ _
   | exact LeO.none _
   | refine LeO.ite ?_ ?_
   | refine LeO.bind ?_ (fun _ => ?_)
set_option maxHeartbeats 8000000 in
set_option maxRecDepth 100000 in
theorem impl_IsMorphism.calls (k : Nat) (A0_0 : Option Addr) (c0_0 : Nat) (l0_0 : List (List Int)) (r : Bool) (w : World) (hr0_0 : Kd.C (Kd.slice 3 (Kd.int .i64)) w A0_0 l0_0.length l0_0) (hc0_0 : l0_0.length ≤ c0_0) (h : impl_IsMorphism.f k l0_0 = some r) :
  Calls Try.prog 108 #[.agg #[.slice A0_0 l0_0.length c0_0]] w fun e w' => e = .returned (.bool r) ∧ Below w.heap.size w w' := by
 have hu28 := Try.underlying28
 have HR0_0 := Aside0.mk hr0_0
 have HC0_0 := Aside0.mk hc0_0
 clear hr0_0 hc0_0
 have HB := Aside0.mk (Below.refl w.heap.size w)
 have H : (if (l0_0.length : Int) < 1 then (impl_IsMorphism.j0 k (l0_0.length : Int) true l0_0) else (impl_IsMorphism.j0 k (l0_0.length : Int) (decide ((l0_0.length : Int) > 16)) l0_0)) = some r := h
 clear h
 have HC2 := Aside0.mk H
 clear H
 go_enter Try.func108, Try.ntmps108
 go_upto_region 2 with (first | ((with_reducible refine gate_dst (N := 1) rfl ?_); refine box_event ?hg (N := 1) ?hd (cs := #[.slice A0_0 l0_0.length c0_0]) (t := 28) ?hr ?_; (case hd => rfl); (case hg => rfl); (case hr => first | (go_simp; done) | (go_simp; rfl)); intro gb151 hg w3 hbox hb; have n0_ := Aside0.mk (below_step (by repeat (first | (with_reducible first | exact HB.out | apply below_alloc | apply pw_below_drewN | apply below_drew1) | exact HB.out)) hb); have n1_ := Aside0.mk (hbox); have n2_ := Aside0.mk ((by rw [hg]; exact (below_size (by repeat (first | (with_reducible first | exact HB.out | apply below_alloc | apply pw_below_drewN | apply below_drew1) | exact HB.out))) : w.heap.size ≤ gb151)); have n3_ := Aside0.mk ((by rw [hg]; exact (below_size (by repeat (first | (with_reducible first | exact HB.out | apply below_alloc | apply pw_below_drewN | apply below_drew1) | exact HB.out))) : w.heap.size ≤ gb151)); clear HB; have HB := n0_; have BK151 := n1_; have GW151 := n2_; have GE151 := n3_; clear n0_ n1_ n2_ n3_; clear hb hbox hg; have hcz4_0 : w3.cell? ⟨gb151, 0, none⟩ = some (.slice A0_0 l0_0.length c0_0) := (blk_cell BK151.out 0).trans rfl; have hfz4_0 := blk_frozen BK151.out 0))
 (try simp only [Act.put, List.setIfInBounds_toArray, List.set_cons_zero, List.set_cons_succ])
 go_cut [14] (fun v14 wc => ∃ (kq : Nat) (x14_1 : Bool), v14 = .bool x14_1 ∧ Aside0 (impl_IsMorphism.j0 kq (l0_0.length : Int) x14_1 l0_0 = some r) ∧ Aside0 (kq ≤ k) ∧ Aside0 (wc.heap[gb151]? = some (.cells #[(.slice A0_0 l0_0.length c0_0)] 28 (0, 0))) ∧ Aside0 (Below w.heap.size w wc))
 case first =>
  have H := HC2.out
  clear HC2
  by_cases c5 : (l0_0.length : Int) < 1
  ·rw [if_pos c5] at H
   have c5b0 : decide ((l0_0.length : Int) < 1) = true := decide_eq_true c5
   have c5b1 : decide (l0_0.length < 1) = true := decide_eq_true (by omega)
   clear c5
   (first | rw [c5b0] | (simp only [i64_w, i32_w]; rw [c5b0]) | skip)
   have H' := Aside0.mk H
   clear H
   go_wp2
   go_meet
   case rel => exact ⟨_, (true), (by first | rfl | (simp; done) | (simp [*]; done)), H', ⟨by first | omega | exact Nat.le_refl _⟩, ⟨by (with_reducible repeat (first | refine blk_drewN ?_ _ | refine blk_drew ?_ | refine blk_alloc ?_ _)); exact BK151.out⟩, ⟨by repeat (first | (with_reducible first | exact HB.out | apply below_alloc | apply pw_below_drewN | apply below_drew1 | refine below_set ?_ GE151.out) | exact HB.out)⟩⟩
  ·rw [if_neg c5] at H
   have c5b0 : decide ((l0_0.length : Int) < 1) = false := decide_eq_false c5
   have c5b1 : decide (l0_0.length < 1) = false := decide_eq_false (by omega)
   clear c5
   (first | rw [c5b0] | (simp only [i64_w, i32_w]; rw [c5b0]) | skip)
   have H' := Aside0.mk H
   clear H
   go_wp2
   go_meet
   case rel => exact ⟨_, (decide ((l0_0.length : Int) > 16)), (by first | rfl | (simp; done) | (simp [*]; done)), H', ⟨by first | omega | exact Nat.le_refl _⟩, ⟨by (with_reducible repeat (first | refine blk_drewN ?_ _ | refine blk_drew ?_ | refine blk_alloc ?_ _)); exact BK151.out⟩, ⟨by repeat (first | (with_reducible first | exact HB.out | apply below_alloc | apply pw_below_drewN | apply below_drew1 | refine below_set ?_ GE151.out) | exact HB.out)⟩⟩
 case rest =>
  clear HC2
  try clear c1
  try clear p2
  try clear c5
  try clear c5b0
  try clear c5b1
  try clear hcz4_0
  try clear hfz4_0
  obtain ⟨kq, x14_1, rfl, HA, HJ1, BK151, HB⟩ := hcut
  cases kq with
  | zero => exact absurd HA.out (by simp [impl_IsMorphism.j0])
  | succ kj1 =>
   have H := HA.out
   clear HA
   simp only [impl_IsMorphism.j0] at H
   by_cases c6 : x14_1 = true
   ·subst c6
    have H1 : (some false) = some r := by rw [if_pos rfl] at H; exact H
    clear H
    have H := H1
    clear H1
    obtain rfl := Option.some.inj H
    go_wp2
    go_ret
    exact ⟨by first | rfl | (simp [errW_none, errW_some] <;> rfl) | (simp [*, errW_none, errW_some] <;> rfl), by repeat (first | (with_reducible first | exact HB.out | apply below_alloc | apply pw_below_drewN | apply below_drew1 | refine below_set ?_ GE151.out) | exact HB.out)⟩
   ·replace c6 := Bool.eq_false_iff.mpr c6
    subst c6
    have H1 : (impl_IsMorphism.l0 kj1 (l0_0.length : Int) l0_0 (l0_0.length : Int) 0) = some r := by rw [if_neg (show ¬ (false = true) by decide)] at H; exact H
    clear H
    have H := H1
    clear H1
    have H' := Aside0.mk H
    clear H
    have hcz7_0 : wc.cell? ⟨gb151, 0, none⟩ = some (.slice A0_0 l0_0.length c0_0) := (blk_cell BK151.out 0).trans rfl
    have hfz7_0 := blk_frozen BK151.out 0
    go_wp2
    go_loopg [18] kj1 (fun kq v18 w' => ∃ (x18_2 : Int), v18 = .int .i64 x18_2 ∧ Aside0 (impl_IsMorphism.l0 kq (l0_0.length : Int) l0_0 (l0_0.length : Int) x18_2 = some r) ∧ Aside0 (kq ≤ kj1) ∧ Aside0 (w'.heap[gb151]? = some (.cells #[(.slice A0_0 l0_0.length c0_0)] 28 (0, 0))) ∧ Aside0 (Below w.heap.size w w'))
    case atStart => exact ⟨(0), (by first | rfl | (simp; done) | (simp [*]; done)), H', ⟨Nat.le_refl _⟩, ⟨by (with_reducible repeat (first | refine blk_drewN ?_ _ | refine blk_drew ?_ | refine blk_alloc ?_ _)); exact BK151.out⟩, ⟨by repeat (first | (with_reducible first | exact HB.out | apply below_alloc | apply pw_below_drewN | apply below_drew1 | refine below_set ?_ GE151.out) | exact HB.out)⟩⟩
    case round =>
     clear H'
     try clear c1
     try clear p2
     try clear c5
     try clear c5b0
     try clear c5b1
     try clear c6
     try clear hcz4_0
     try clear hcz7_0
     try clear hfz4_0
     try clear hfz7_0
     try clear p2
     obtain ⟨x18_2, rfl, HA, HK2, BK151, HB⟩ := hrel
     cases gk with
     | zero => exact absurd HA.out (by simp [impl_IsMorphism.l0])
     | succ k2 =>
      have H := HA.out
      clear HA
      simp only [impl_IsMorphism.l0] at H
      by_cases c8 : x18_2 < (l0_0.length : Int)
      ·rw [if_pos c8] at H
       have c8b0 : decide (x18_2 < (l0_0.length : Int)) = true := decide_eq_true c8
       clear c8
       by_cases c9 : 0 ≤ x18_2
       ·rw [if_pos c9] at H
        have c9b0 : decide (0 ≤ x18_2) = true := decide_eq_true c9
        clear c9
        by_cases c10 : x18_2 < (l0_0.length : Int)
        ·rw [if_pos c10] at H
         have c10b0 : decide (x18_2 < (l0_0.length : Int)) = true := decide_eq_true c10
         clear c10
         by_cases c11 : ((rd_L1 l0_0 x18_2).length : Int) > 8
         ·rw [if_pos c11] at H
          have c11b0 : decide (8 < ((rd_L1 l0_0 x18_2).length : Int)) = true := decide_eq_true c11
          have c11b1 : decide (8 < (rd_L1 l0_0 x18_2).length) = true := decide_eq_true (by omega)
          clear c11
          obtain rfl := Option.some.inj H
          have p152 : 0 ≤ (x18_2 : Int) := of_decide_eq_true (by first | (with_reducible assumption) | assumption)
          have q152 : x18_2 < (l0_0.length : Int) := of_decide_eq_true (by first | (with_reducible assumption) | assumption)
          obtain ⟨ad152, A152_0, c152_0, e152, hx152_0, hl152_0, hi152_0⟩ := at_L1 HR0_0.out x18_2 p152 q152
          cases e152
          replace hx152_0 := (HB.out.cell (World.block_lt_of_cell? w _ hx152_0)).trans hx152_0
          have HR152_0 := Aside0.mk hi152_0
          have HC152_0 := Aside0.mk hl152_0
          clear hi152_0 hl152_0
          replace p152 := eq_true p152
          replace q152 := eq_true q152
          go_wp2
          go_ret
          exact ⟨by first | rfl | (simp [errW_none, errW_some] <;> rfl) | (simp [*, errW_none, errW_some] <;> rfl), by repeat (first | (with_reducible first | exact HB.out | apply below_alloc | apply pw_below_drewN | apply below_drew1 | refine below_set ?_ GE151.out) | exact HB.out)⟩
         ·rw [if_neg c11] at H
          have c11b0 : decide (8 < ((rd_L1 l0_0 x18_2).length : Int)) = false := decide_eq_false c11
          have c11b1 : decide (8 < (rd_L1 l0_0 x18_2).length) = false := decide_eq_false (by omega)
          clear c11
          replace H := Option.bind_eq_some_iff.mp H
          obtain ⟨t153, A120, H⟩ := H
          replace H : (if t153 = true then (impl_IsMorphism.l0 k2 (l0_0.length : Int) l0_0 (l0_0.length : Int) (wrap64 (x18_2 + 1))) else (some false)) = some r := H
          have A12 := Aside0.mk A120
          clear A120
          by_cases c13 : t153 = true
          ·subst c13
           have H1 : (impl_IsMorphism.l0 k2 (l0_0.length : Int) l0_0 (l0_0.length : Int) (wrap64 (x18_2 + 1))) = some r := by rw [if_pos rfl] at H; exact H
           clear H
           have H := H1
           clear H1
           have H' := Aside0.mk H
           clear H
           have p152 : 0 ≤ (x18_2 : Int) := of_decide_eq_true (by first | (with_reducible assumption) | assumption)
           have q152 : x18_2 < (l0_0.length : Int) := of_decide_eq_true (by first | (with_reducible assumption) | assumption)
           obtain ⟨ad152, A152_0, c152_0, e152, hx152_0, hl152_0, hi152_0⟩ := at_L1 HR0_0.out x18_2 p152 q152
           cases e152
           replace hx152_0 := (HB.out.cell (World.block_lt_of_cell? w _ hx152_0)).trans hx152_0
           have HR152_0 := Aside0.mk hi152_0
           have HC152_0 := Aside0.mk hl152_0
           clear hi152_0 hl152_0
           replace p152 := eq_true p152
           replace q152 := eq_true q152
           go_wp2_with (first | (go_at_call 159; (with_reducible refine (impl_areLetters.calls k2 _ _ (rd_L1 l0_0 x18_2) (l0_0.length : Int) true _ ?side1 ?side2 A12.out).mono ?_); (case side1 => repeat (first | exact (Kd.C_below HR152_0.out HB.out) | (with_reducible refine Kd.C_alloc ?_ _) | (with_reducible refine Kd.C_drewN ?_ _) | (with_reducible refine Kd.C_drew ?_))); (case side2 => exact HC152_0.out); rintro e w' ⟨rfl, ⟨nd, rfl⟩⟩))
           go_roundg k2
           case measure => have := HJ1.out; have := HK2.out; omega
           case rel => exact ⟨(wrap64 (x18_2 + 1)), (by first | rfl | (simp; done) | (simp [*]; done)), H', ⟨by have := HJ1.out; have := HK2.out; omega⟩, ⟨by (with_reducible repeat (first | refine blk_drewN ?_ _ | refine blk_drew ?_ | refine blk_alloc ?_ _)); exact BK151.out⟩, ⟨by repeat (first | (with_reducible first | exact HB.out | apply below_alloc | apply pw_below_drewN | apply below_drew1 | refine below_set ?_ GE151.out) | exact HB.out)⟩⟩
          ·replace c13 := Bool.eq_false_iff.mpr c13
           subst c13
           have H1 : (some false) = some r := by rw [if_neg (show ¬ (false = true) by decide)] at H; exact H
           clear H
           have H := H1
           clear H1
           obtain rfl := Option.some.inj H
           have p152 : 0 ≤ (x18_2 : Int) := of_decide_eq_true (by first | (with_reducible assumption) | assumption)
           have q152 : x18_2 < (l0_0.length : Int) := of_decide_eq_true (by first | (with_reducible assumption) | assumption)
           obtain ⟨ad152, A152_0, c152_0, e152, hx152_0, hl152_0, hi152_0⟩ := at_L1 HR0_0.out x18_2 p152 q152
           cases e152
           replace hx152_0 := (HB.out.cell (World.block_lt_of_cell? w _ hx152_0)).trans hx152_0
           have HR152_0 := Aside0.mk hi152_0
           have HC152_0 := Aside0.mk hl152_0
           clear hi152_0 hl152_0
           replace p152 := eq_true p152
           replace q152 := eq_true q152
           go_wp2_with (first | (go_at_call 159; (with_reducible refine (impl_areLetters.calls k2 _ _ (rd_L1 l0_0 x18_2) (l0_0.length : Int) false _ ?side1 ?side2 A12.out).mono ?_); (case side1 => repeat (first | exact (Kd.C_below HR152_0.out HB.out) | (with_reducible refine Kd.C_alloc ?_ _) | (with_reducible refine Kd.C_drewN ?_ _) | (with_reducible refine Kd.C_drew ?_))); (case side2 => exact HC152_0.out); rintro e w' ⟨rfl, ⟨nd, rfl⟩⟩))
           go_ret
           exact ⟨by first | rfl | (simp [errW_none, errW_some] <;> rfl) | (simp [*, errW_none, errW_some] <;> rfl), by repeat (first | (with_reducible first | exact HB.out | apply below_alloc | apply pw_below_drewN | apply below_drew1 | refine below_set ?_ GE151.out) | exact HB.out)⟩
        ·rw [if_neg c10] at H
         exact absurd H (by simp)
       ·rw [if_neg c9] at H
        exact absurd H (by simp)
      ·rw [if_neg c8] at H
       have c8b0 : decide (x18_2 < (l0_0.length : Int)) = false := decide_eq_false c8
       clear c8
       obtain rfl := Option.some.inj H
       go_wp2
       go_ret
       exact ⟨by first | rfl | (simp [errW_none, errW_some] <;> rfl) | (simp [*, errW_none, errW_some] <;> rfl), by repeat (first | (with_reducible first | exact HB.out | apply below_alloc | apply pw_below_drewN | apply below_drew1 | refine below_set ?_ GE151.out) | exact HB.out)⟩

end Go.Proofs.Ytooamcjgejajeaa.M
/- Walks for this claim, written by a program of mine over the kit's print. No condition of mine. -/
namespace Go.Proofs.Ytooamcjgejajeaa.M
open Go.RowKit Go.Proofs.Ytooamcjgejajeaa.KW Go.Proofs.YtooamcjgejajeaaW.PrintWords Go.Proofs.YtooamcjgejajeaaW.PrintLast Go.Proofs.YtooamcjgejajeaaW.PrintMore
attribute [local go_sem] max2_int min2_int max_two min_two max_three min_three max_four min_four   -- for this text's walks alone
set_option linter.unusedVariables false
set_option linter.unusedSimpArgs false

/-! ### impl_isTried: function 120 -/
def impl_isTried.f (k : Nat) (l0_0 : List (List Int)) (a1 : Int) : Option (Bool) := (impl_IsMorphism.f k l0_0).bind fun t553 => (if t553 = true then (if (l0_0.length : Int) ≤ 4 then (if a1 ≥ 0 then (some (decide (a1 ≤ 5))) else (some false)) else (some false)) else (some false))
theorem impl_isTried.mono : ∀ a0 a1 k, LeO (impl_isTried.f k a0 a1) (impl_isTried.f (k + 1) a0 a1) := by
 intro a0 a1 k
 unfold impl_isTried.f
 repeat' first
   | (with_reducible exact impl_IsMorphism.mono _ _)
   | (with_reducible exact LeO.refl _)
   | (with_reducible exact LeO.none _)
   | (with_reducible refine LeO.ite ?_ ?_)
   | (with_reducible refine LeO.bind ?_ (fun _ => ?_))
   | exact impl_IsMorphism.mono _ _
   | exact LeO.none _
   | refine LeO.ite ?_ ?_
   | refine LeO.bind ?_ (fun _ => ?_)
set_option maxHeartbeats 8000000 in
set_option maxRecDepth 100000 in
theorem impl_isTried.calls (k : Nat) (A0_0 : Option Addr) (c0_0 : Nat) (l0_0 : List (List Int)) (a1 : Int) (r : Bool) (w : World) (hr0_0 : Kd.C (Kd.slice 3 (Kd.int .i64)) w A0_0 l0_0.length l0_0) (hc0_0 : l0_0.length ≤ c0_0) (h : impl_isTried.f k l0_0 a1 = some r) :
  Calls Try.prog 120 #[.agg #[.slice A0_0 l0_0.length c0_0], .int .i64 a1] w fun e w' => e = .returned (.bool r) ∧ Below w.heap.size w w' := by
 have hu28 := Try.underlying28
 have HR0_0 := Aside0.mk hr0_0
 have HC0_0 := Aside0.mk hc0_0
 clear hr0_0 hc0_0
 have HB := Aside0.mk (Below.refl w.heap.size w)
 have H : ((impl_IsMorphism.f k l0_0).bind fun t553 => (if t553 = true then (if (l0_0.length : Int) ≤ 4 then (if a1 ≥ 0 then (some (decide (a1 ≤ 5))) else (some false)) else (some false)) else (some false))) = some r := h
 clear h
 replace H := Option.bind_eq_some_iff.mp H
 obtain ⟨t553, A30, H⟩ := H
 replace H : (if t553 = true then (if (l0_0.length : Int) ≤ 4 then (if a1 ≥ 0 then (some (decide (a1 ≤ 5))) else (some false)) else (some false)) else (some false)) = some r := H
 have A3 := Aside0.mk A30
 clear A30
 by_cases c4 : t553 = true
 ·subst c4
  have H1 : (if (l0_0.length : Int) ≤ 4 then (if a1 ≥ 0 then (some (decide (a1 ≤ 5))) else (some false)) else (some false)) = some r := by rw [if_pos rfl] at H; exact H
  clear H
  have H := H1
  clear H1
  by_cases c5 : (l0_0.length : Int) ≤ 4
  ·rw [if_pos c5] at H
   have c5b0 : decide ((l0_0.length : Int) ≤ 4) = true := decide_eq_true c5
   have c5b1 : decide (l0_0.length ≤ 4) = true := decide_eq_true (by omega)
   clear c5
   by_cases c6 : a1 ≥ 0
   ·rw [if_pos c6] at H
    have c6b0 : decide (0 ≤ a1) = true := decide_eq_true c6
    clear c6
    obtain rfl := Option.some.inj H
    go_enter Try.func120, Try.ntmps120
    go_wp2_with (first | ((with_reducible refine gate_dst (N := 2) rfl ?_); (try (refine gate_guard (by rfl) ?_; dsimp only)); refine box_event ?hg (N := 2) ?hd (cs := #[.slice A0_0 l0_0.length c0_0]) (t := 28) ?hr ?_; (case hd => rfl); (case hg => rfl); (case hr => first | (go_simp; done) | (go_simp; rfl)); intro gb552 hg w7 hbox hb; have n0_ := Aside0.mk (below_step (by repeat (first | (with_reducible first | exact HB.out | apply below_alloc | apply pw_below_drewN | apply below_drew1) | exact HB.out)) hb); have n1_ := Aside0.mk (hbox); have n2_ := Aside0.mk ((by rw [hg]; exact (below_size (by repeat (first | (with_reducible first | exact HB.out | apply below_alloc | apply pw_below_drewN | apply below_drew1) | exact HB.out))) : w.heap.size ≤ gb552)); have n3_ := Aside0.mk ((by rw [hg]; exact (below_size (by repeat (first | (with_reducible first | exact HB.out | apply below_alloc | apply pw_below_drewN | apply below_drew1) | exact HB.out))) : w.heap.size ≤ gb552)); clear HB; have HB := n0_; have BK552 := n1_; have GW552 := n2_; have GE552 := n3_; clear n0_ n1_ n2_ n3_; clear hb hbox hg; have hcz8_0 : w7.cell? ⟨gb552, 0, none⟩ = some (.slice A0_0 l0_0.length c0_0) := (blk_cell BK552.out 0).trans rfl; have hfz8_0 := blk_frozen BK552.out 0) | ((with_reducible refine gate_callee (f := 108) rfl ?_); refine goesL_ (some 6) rfl rfl Try.func108 (by kernel_rfl) rfl #[.agg #[.slice A0_0 l0_0.length c0_0]] rfl (by (try simp only [List.map_toArray, List.map_cons, List.map_nil]); first | done | rfl | (simp only [List.length_drop, List.length_take]; rfl)) ?_; (with_reducible refine (impl_IsMorphism.calls k _ _ l0_0 true _ ?side1 ?side2 A3.out).mono ?_); (case side1 => repeat (first | exact (Kd.C_below HR0_0.out HB.out) | (with_reducible refine Kd.C_alloc ?_ _) | (with_reducible refine Kd.C_drewN ?_ _) | (with_reducible refine Kd.C_drew ?_))); (case side2 => exact HC0_0.out); rintro e w9 ⟨rfl, hb⟩; refine ⟨_, rfl, ?_⟩; have n0_ := Aside0.mk (blk_below (g := gb552) (o := .cells #[.slice A0_0 l0_0.length c0_0] 28 (0, 0)) (by (with_reducible repeat (first | refine blk_drewN ?_ _ | refine blk_drew ?_ | refine blk_alloc ?_ _)); exact BK552.out) hb); have n1_ := Aside0.mk (below_step (by repeat (first | (with_reducible first | exact HB.out | apply below_alloc | apply pw_below_drewN | apply below_drew1 | refine below_set ?_ GE552.out) | exact HB.out)) hb); clear BK552; clear HB; have BK552 := n0_; have HB := n1_; clear n0_ n1_; (try clear hb); (try clear hb2); (try clear hk); (try clear hi); have hcz10_0 : w9.cell? ⟨gb552, 0, none⟩ = some (.slice A0_0 l0_0.length c0_0) := (blk_cell BK552.out 0).trans rfl; have hfz10_0 := blk_frozen BK552.out 0))
    go_ret
    exact ⟨by first | rfl | (simp [errW_none, errW_some] <;> rfl) | (simp [*, errW_none, errW_some] <;> rfl), by repeat (first | (with_reducible first | exact HB.out | apply below_alloc | apply pw_below_drewN | apply below_drew1 | refine below_set ?_ GE552.out) | exact HB.out)⟩
   ·rw [if_neg c6] at H
    have c6b0 : decide (0 ≤ a1) = false := decide_eq_false c6
    clear c6
    obtain rfl := Option.some.inj H
    go_enter Try.func120, Try.ntmps120
    go_wp2_with (first | ((with_reducible refine gate_dst (N := 2) rfl ?_); (try (refine gate_guard (by rfl) ?_; dsimp only)); refine box_event ?hg (N := 2) ?hd (cs := #[.slice A0_0 l0_0.length c0_0]) (t := 28) ?hr ?_; (case hd => rfl); (case hg => rfl); (case hr => first | (go_simp; done) | (go_simp; rfl)); intro gb552 hg w11 hbox hb; have n0_ := Aside0.mk (below_step (by repeat (first | (with_reducible first | exact HB.out | apply below_alloc | apply pw_below_drewN | apply below_drew1) | exact HB.out)) hb); have n1_ := Aside0.mk (hbox); have n2_ := Aside0.mk ((by rw [hg]; exact (below_size (by repeat (first | (with_reducible first | exact HB.out | apply below_alloc | apply pw_below_drewN | apply below_drew1) | exact HB.out))) : w.heap.size ≤ gb552)); have n3_ := Aside0.mk ((by rw [hg]; exact (below_size (by repeat (first | (with_reducible first | exact HB.out | apply below_alloc | apply pw_below_drewN | apply below_drew1) | exact HB.out))) : w.heap.size ≤ gb552)); clear HB; have HB := n0_; have BK552 := n1_; have GW552 := n2_; have GE552 := n3_; clear n0_ n1_ n2_ n3_; clear hb hbox hg; have hcz12_0 : w11.cell? ⟨gb552, 0, none⟩ = some (.slice A0_0 l0_0.length c0_0) := (blk_cell BK552.out 0).trans rfl; have hfz12_0 := blk_frozen BK552.out 0) | ((with_reducible refine gate_callee (f := 108) rfl ?_); refine goesL_ (some 6) rfl rfl Try.func108 (by kernel_rfl) rfl #[.agg #[.slice A0_0 l0_0.length c0_0]] rfl (by (try simp only [List.map_toArray, List.map_cons, List.map_nil]); first | done | rfl | (simp only [List.length_drop, List.length_take]; rfl)) ?_; (with_reducible refine (impl_IsMorphism.calls k _ _ l0_0 true _ ?side1 ?side2 A3.out).mono ?_); (case side1 => repeat (first | exact (Kd.C_below HR0_0.out HB.out) | (with_reducible refine Kd.C_alloc ?_ _) | (with_reducible refine Kd.C_drewN ?_ _) | (with_reducible refine Kd.C_drew ?_))); (case side2 => exact HC0_0.out); rintro e w13 ⟨rfl, hb⟩; refine ⟨_, rfl, ?_⟩; have n0_ := Aside0.mk (blk_below (g := gb552) (o := .cells #[.slice A0_0 l0_0.length c0_0] 28 (0, 0)) (by (with_reducible repeat (first | refine blk_drewN ?_ _ | refine blk_drew ?_ | refine blk_alloc ?_ _)); exact BK552.out) hb); have n1_ := Aside0.mk (below_step (by repeat (first | (with_reducible first | exact HB.out | apply below_alloc | apply pw_below_drewN | apply below_drew1 | refine below_set ?_ GE552.out) | exact HB.out)) hb); clear BK552; clear HB; have BK552 := n0_; have HB := n1_; clear n0_ n1_; (try clear hb); (try clear hb2); (try clear hk); (try clear hi); have hcz14_0 : w13.cell? ⟨gb552, 0, none⟩ = some (.slice A0_0 l0_0.length c0_0) := (blk_cell BK552.out 0).trans rfl; have hfz14_0 := blk_frozen BK552.out 0))
    go_ret
    exact ⟨by first | rfl | (simp [errW_none, errW_some] <;> rfl) | (simp [*, errW_none, errW_some] <;> rfl), by repeat (first | (with_reducible first | exact HB.out | apply below_alloc | apply pw_below_drewN | apply below_drew1 | refine below_set ?_ GE552.out) | exact HB.out)⟩
  ·rw [if_neg c5] at H
   have c5b0 : decide ((l0_0.length : Int) ≤ 4) = false := decide_eq_false c5
   have c5b1 : decide (l0_0.length ≤ 4) = false := decide_eq_false (by omega)
   clear c5
   obtain rfl := Option.some.inj H
   go_enter Try.func120, Try.ntmps120
   go_wp2_with (first | ((with_reducible refine gate_dst (N := 2) rfl ?_); (try (refine gate_guard (by rfl) ?_; dsimp only)); refine box_event ?hg (N := 2) ?hd (cs := #[.slice A0_0 l0_0.length c0_0]) (t := 28) ?hr ?_; (case hd => rfl); (case hg => rfl); (case hr => first | (go_simp; done) | (go_simp; rfl)); intro gb552 hg w15 hbox hb; have n0_ := Aside0.mk (below_step (by repeat (first | (with_reducible first | exact HB.out | apply below_alloc | apply pw_below_drewN | apply below_drew1) | exact HB.out)) hb); have n1_ := Aside0.mk (hbox); have n2_ := Aside0.mk ((by rw [hg]; exact (below_size (by repeat (first | (with_reducible first | exact HB.out | apply below_alloc | apply pw_below_drewN | apply below_drew1) | exact HB.out))) : w.heap.size ≤ gb552)); have n3_ := Aside0.mk ((by rw [hg]; exact (below_size (by repeat (first | (with_reducible first | exact HB.out | apply below_alloc | apply pw_below_drewN | apply below_drew1) | exact HB.out))) : w.heap.size ≤ gb552)); clear HB; have HB := n0_; have BK552 := n1_; have GW552 := n2_; have GE552 := n3_; clear n0_ n1_ n2_ n3_; clear hb hbox hg; have hcz16_0 : w15.cell? ⟨gb552, 0, none⟩ = some (.slice A0_0 l0_0.length c0_0) := (blk_cell BK552.out 0).trans rfl; have hfz16_0 := blk_frozen BK552.out 0) | ((with_reducible refine gate_callee (f := 108) rfl ?_); refine goesL_ (some 6) rfl rfl Try.func108 (by kernel_rfl) rfl #[.agg #[.slice A0_0 l0_0.length c0_0]] rfl (by (try simp only [List.map_toArray, List.map_cons, List.map_nil]); first | done | rfl | (simp only [List.length_drop, List.length_take]; rfl)) ?_; (with_reducible refine (impl_IsMorphism.calls k _ _ l0_0 true _ ?side1 ?side2 A3.out).mono ?_); (case side1 => repeat (first | exact (Kd.C_below HR0_0.out HB.out) | (with_reducible refine Kd.C_alloc ?_ _) | (with_reducible refine Kd.C_drewN ?_ _) | (with_reducible refine Kd.C_drew ?_))); (case side2 => exact HC0_0.out); rintro e w17 ⟨rfl, hb⟩; refine ⟨_, rfl, ?_⟩; have n0_ := Aside0.mk (blk_below (g := gb552) (o := .cells #[.slice A0_0 l0_0.length c0_0] 28 (0, 0)) (by (with_reducible repeat (first | refine blk_drewN ?_ _ | refine blk_drew ?_ | refine blk_alloc ?_ _)); exact BK552.out) hb); have n1_ := Aside0.mk (below_step (by repeat (first | (with_reducible first | exact HB.out | apply below_alloc | apply pw_below_drewN | apply below_drew1 | refine below_set ?_ GE552.out) | exact HB.out)) hb); clear BK552; clear HB; have BK552 := n0_; have HB := n1_; clear n0_ n1_; (try clear hb); (try clear hb2); (try clear hk); (try clear hi); have hcz18_0 : w17.cell? ⟨gb552, 0, none⟩ = some (.slice A0_0 l0_0.length c0_0) := (blk_cell BK552.out 0).trans rfl; have hfz18_0 := blk_frozen BK552.out 0))
   go_ret
   exact ⟨by first | rfl | (simp [errW_none, errW_some] <;> rfl) | (simp [*, errW_none, errW_some] <;> rfl), by repeat (first | (with_reducible first | exact HB.out | apply below_alloc | apply pw_below_drewN | apply below_drew1 | refine below_set ?_ GE552.out) | exact HB.out)⟩
 ·replace c4 := Bool.eq_false_iff.mpr c4
  subst c4
  have H1 : (some false) = some r := by rw [if_neg (show ¬ (false = true) by decide)] at H; exact H
  clear H
  have H := H1
  clear H1
  obtain rfl := Option.some.inj H
  go_enter Try.func120, Try.ntmps120
  go_wp2_with (first | ((with_reducible refine gate_dst (N := 2) rfl ?_); (try (refine gate_guard (by rfl) ?_; dsimp only)); refine box_event ?hg (N := 2) ?hd (cs := #[.slice A0_0 l0_0.length c0_0]) (t := 28) ?hr ?_; (case hd => rfl); (case hg => rfl); (case hr => first | (go_simp; done) | (go_simp; rfl)); intro gb552 hg w19 hbox hb; have n0_ := Aside0.mk (below_step (by repeat (first | (with_reducible first | exact HB.out | apply below_alloc | apply pw_below_drewN | apply below_drew1) | exact HB.out)) hb); have n1_ := Aside0.mk (hbox); have n2_ := Aside0.mk ((by rw [hg]; exact (below_size (by repeat (first | (with_reducible first | exact HB.out | apply below_alloc | apply pw_below_drewN | apply below_drew1) | exact HB.out))) : w.heap.size ≤ gb552)); have n3_ := Aside0.mk ((by rw [hg]; exact (below_size (by repeat (first | (with_reducible first | exact HB.out | apply below_alloc | apply pw_below_drewN | apply below_drew1) | exact HB.out))) : w.heap.size ≤ gb552)); clear HB; have HB := n0_; have BK552 := n1_; have GW552 := n2_; have GE552 := n3_; clear n0_ n1_ n2_ n3_; clear hb hbox hg; have hcz20_0 : w19.cell? ⟨gb552, 0, none⟩ = some (.slice A0_0 l0_0.length c0_0) := (blk_cell BK552.out 0).trans rfl; have hfz20_0 := blk_frozen BK552.out 0) | ((with_reducible refine gate_callee (f := 108) rfl ?_); refine goesL_ (some 6) rfl rfl Try.func108 (by kernel_rfl) rfl #[.agg #[.slice A0_0 l0_0.length c0_0]] rfl (by (try simp only [List.map_toArray, List.map_cons, List.map_nil]); first | done | rfl | (simp only [List.length_drop, List.length_take]; rfl)) ?_; (with_reducible refine (impl_IsMorphism.calls k _ _ l0_0 false _ ?side1 ?side2 A3.out).mono ?_); (case side1 => repeat (first | exact (Kd.C_below HR0_0.out HB.out) | (with_reducible refine Kd.C_alloc ?_ _) | (with_reducible refine Kd.C_drewN ?_ _) | (with_reducible refine Kd.C_drew ?_))); (case side2 => exact HC0_0.out); rintro e w21 ⟨rfl, hb⟩; refine ⟨_, rfl, ?_⟩; have n0_ := Aside0.mk (blk_below (g := gb552) (o := .cells #[.slice A0_0 l0_0.length c0_0] 28 (0, 0)) (by (with_reducible repeat (first | refine blk_drewN ?_ _ | refine blk_drew ?_ | refine blk_alloc ?_ _)); exact BK552.out) hb); have n1_ := Aside0.mk (below_step (by repeat (first | (with_reducible first | exact HB.out | apply below_alloc | apply pw_below_drewN | apply below_drew1 | refine below_set ?_ GE552.out) | exact HB.out)) hb); clear BK552; clear HB; have BK552 := n0_; have HB := n1_; clear n0_ n1_; (try clear hb); (try clear hb2); (try clear hk); (try clear hi)))
  go_ret
  exact ⟨by first | rfl | (simp [errW_none, errW_some] <;> rfl) | (simp [*, errW_none, errW_some] <;> rfl), by repeat (first | (with_reducible first | exact HB.out | apply below_alloc | apply pw_below_drewN | apply below_drew1 | refine below_set ?_ GE552.out) | exact HB.out)⟩

end Go.Proofs.Ytooamcjgejajeaa.M
/- Walks for this claim, written by a program of mine over the kit's print. No condition of mine. -/
namespace Go.Proofs.Ytooamcjgejajeaa.M
open Go.RowKit Go.Proofs.Ytooamcjgejajeaa.KW Go.Proofs.YtooamcjgejajeaaW.PrintWords Go.Proofs.YtooamcjgejajeaaW.PrintLast Go.Proofs.YtooamcjgejajeaaW.PrintMore
attribute [local go_sem] max2_int min2_int max_two min_two max_three min_three max_four min_four   -- for this text's walks alone
set_option linter.unusedVariables false
set_option linter.unusedSimpArgs false

/-! ### impl_IsWord: function 155 -/
def impl_IsWord.f (k : Nat) (l0 : List Int) (a1 : Int) : Option (Bool) := if a1 ≥ 1 then (if a1 ≤ 16 then (if (l0.length : Int) ≤ 400 then ((impl_areLetters.f k l0 a1).bind fun t432 => (some t432)) else (some false)) else (some false)) else (some false)
theorem impl_IsWord.mono : ∀ a0 a1 k, LeO (impl_IsWord.f k a0 a1) (impl_IsWord.f (k + 1) a0 a1) := by
 intro a0 a1 k
 unfold impl_IsWord.f
 repeat' first
   | (with_reducible exact impl_areLetters.mono _ _ _)
   | (with_reducible exact LeO.refl _)
   | (with_reducible exact LeO.none _)
   | (with_reducible refine LeO.ite ?_ ?_)
   | (with_reducible refine LeO.bind ?_ (fun _ => ?_))
   | exact impl_areLetters.mono _ _ _
   | exact LeO.none _
   | refine LeO.ite ?_ ?_
   | refine LeO.bind ?_ (fun _ => ?_)
set_option maxHeartbeats 8000000 in
set_option maxRecDepth 100000 in
theorem impl_IsWord.calls (k : Nat) (A0 : Option Addr) (c0 : Nat) (l0 : List Int) (a1 : Int) (r : Bool) (w : World) (hr0 : Kd.C (Kd.int .i64) w A0 l0.length l0) (hc0 : l0.length ≤ c0) (h : impl_IsWord.f k l0 a1 = some r) :
  Calls Try.prog 155 #[.slice A0 l0.length c0, .int .i64 a1] w fun e w' => e = .returned (.bool r) ∧ Drawn0 w w' := by
 have HR0 := Aside0.mk hr0
 have HC0 := Aside0.mk hc0
 clear hr0 hc0
 have H : (if a1 ≥ 1 then (if a1 ≤ 16 then (if (l0.length : Int) ≤ 400 then ((impl_areLetters.f k l0 a1).bind fun t432 => (some t432)) else (some false)) else (some false)) else (some false)) = some r := h
 clear h
 by_cases c3 : a1 ≥ 1
 ·rw [if_pos c3] at H
  have c3b0 : decide (1 ≤ a1) = true := decide_eq_true c3
  clear c3
  by_cases c4 : a1 ≤ 16
  ·rw [if_pos c4] at H
   have c4b0 : decide (a1 ≤ 16) = true := decide_eq_true c4
   clear c4
   by_cases c5 : (l0.length : Int) ≤ 400
   ·rw [if_pos c5] at H
    have c5b0 : decide ((l0.length : Int) ≤ 400) = true := decide_eq_true c5
    have c5b1 : decide (l0.length ≤ 400) = true := decide_eq_true (by omega)
    clear c5
    replace H := Option.bind_eq_some_iff.mp H
    obtain ⟨t432, A60, H⟩ := H
    replace H : (some t432) = some r := H
    have A6 := Aside0.mk A60
    clear A60
    obtain rfl := Option.some.inj H
    go_enter Try.func155, Try.ntmps155
    go_wp2_with (first | (go_at_call 159; (with_reducible refine (impl_areLetters.calls k _ _ l0 a1 t432 _ ?side1 ?side2 A6.out).mono ?_); (case side1 => repeat (first | exact HR0.out | (with_reducible refine Kd.C_alloc ?_ _) | (with_reducible refine Kd.C_drewN ?_ _) | (with_reducible refine Kd.C_drew ?_))); (case side2 => exact HC0.out); rintro e w' ⟨rfl, ⟨nd, rfl⟩⟩))
    go_ret
    exact ⟨by first | rfl | (simp; done) | (simp [*]; done), by repeat (first | exact Drawn0.refl _ | apply Drawn0.step)⟩
   ·rw [if_neg c5] at H
    have c5b0 : decide ((l0.length : Int) ≤ 400) = false := decide_eq_false c5
    have c5b1 : decide (l0.length ≤ 400) = false := decide_eq_false (by omega)
    clear c5
    obtain rfl := Option.some.inj H
    go_enter Try.func155, Try.ntmps155
    go_wp2
    go_ret
    exact ⟨by first | rfl | (simp; done) | (simp [*]; done), by repeat (first | exact Drawn0.refl _ | apply Drawn0.step)⟩
  ·rw [if_neg c4] at H
   have c4b0 : decide (a1 ≤ 16) = false := decide_eq_false c4
   clear c4
   obtain rfl := Option.some.inj H
   go_enter Try.func155, Try.ntmps155
   go_wp2
   go_ret
   exact ⟨by first | rfl | (simp; done) | (simp [*]; done), by repeat (first | exact Drawn0.refl _ | apply Drawn0.step)⟩
 ·rw [if_neg c3] at H
  have c3b0 : decide (1 ≤ a1) = false := decide_eq_false c3
  clear c3
  obtain rfl := Option.some.inj H
  go_enter Try.func155, Try.ntmps155
  go_wp2
  go_ret
  exact ⟨by first | rfl | (simp; done) | (simp [*]; done), by repeat (first | exact Drawn0.refl _ | apply Drawn0.step)⟩

end Go.Proofs.Ytooamcjgejajeaa.M
/- Walks for this claim, written by a program of mine over the kit's print. No condition of mine. -/
namespace Go.Proofs.Ytooamcjgejajeaa.M
open Go.RowKit Go.Proofs.Ytooamcjgejajeaa.KW Go.Proofs.YtooamcjgejajeaaW.PrintWords Go.Proofs.YtooamcjgejajeaaW.PrintLast Go.Proofs.YtooamcjgejajeaaW.PrintMore
attribute [local go_sem] max2_int min2_int max_two min_two max_three min_three max_four min_four   -- for this text's walks alone
set_option linter.unusedVariables false
set_option linter.unusedSimpArgs false

/-! ### impl_ApplyMorphism: function 100 -/
mutual
def impl_ApplyMorphism.j0 : Nat → List Int → Bool → List (List Int) → Option (List Int × Bool)
 | 0, _, _, _ => none
 | k + 1, x1, x19, x434000 => if x19 = true then (some ((([] : List Int)), false)) else (impl_ApplyMorphism.l0 k (([] : List Int)) x1 (x1.length : Int) 0 x434000)
def impl_ApplyMorphism.l0 : Nat → List Int → List Int → Int → Int → List (List Int) → Option (List Int × Bool)
 | 0, _, _, _, _, _ => none
 | k + 1, x6, x22, x23, x24, x434000 => if x24 < x23 then (if 0 ≤ x24 then (if x24 < (x22.length : Int) then (if 0 ≤ (rd x22 x24) then (if (rd x22 x24) < (x434000.length : Int) then (if x6.length + (rd_L1 x434000 (rd x22 x24)).length < 17592186044416 then (impl_ApplyMorphism.l0 k (x6 ++ (rd_L1 x434000 (rd x22 x24))) x22 x23 (wrap64 (x24 + 1)) x434000) else (none)) else (none)) else (none)) else (none)) else (none)) else (if (x6.length : Int) > 400 then (some ((([] : List Int)), false)) else (some (x6, true)))
end
def impl_ApplyMorphism.f (k : Nat) (l0_0 : List (List Int)) (l1 : List Int) : Option (List Int × Bool) := (impl_IsMorphism.f k l0_0).bind fun t434 => (if t434 = true then ((impl_IsWord.f k l1 (l0_0.length : Int)).bind fun t435 => (impl_ApplyMorphism.j0 k l1 (!t435) l0_0)) else (impl_ApplyMorphism.j0 k l1 true l0_0))
theorem impl_ApplyMorphism.mono_l : ∀ k, (∀ y0 y1 y2, LeO (impl_ApplyMorphism.j0 k y0 y1 y2) (impl_ApplyMorphism.j0 (k + 1) y0 y1 y2)) ∧ (∀ y0 y1 y2 y3 y4, LeO (impl_ApplyMorphism.l0 k y0 y1 y2 y3 y4) (impl_ApplyMorphism.l0 (k + 1) y0 y1 y2 y3 y4))
 | 0 => ⟨fun _ _ _ r h => by simp [impl_ApplyMorphism.j0] at h, fun _ _ _ _ _ r h => by simp [impl_ApplyMorphism.l0] at h⟩
 | k + 1 => by
  obtain ⟨ih0, ih1⟩ := impl_ApplyMorphism.mono_l k
  refine ⟨?_, ?_⟩
  ·intro y0 y1 y2
   unfold impl_ApplyMorphism.j0
   repeat' first
   | (with_reducible exact ih0 _ _ _)
   | (with_reducible exact ih1 _ _ _ _ _)
   | (with_reducible exact impl_IsMorphism.mono _ _)
   | (with_reducible exact impl_IsWord.mono _ _ _)
   | (with_reducible exact LeO.refl _)
   | (with_reducible exact LeO.none _)
   | (with_reducible refine LeO.ite ?_ ?_)
   | (with_reducible refine LeO.bind ?_ (fun _ => ?_))
   | exact ih0 _ _ _
   | exact ih1 _ _ _ _ _
   | exact impl_IsMorphism.mono _ _
   | exact impl_IsWord.mono _ _ _
   | exact LeO.none _
   | refine LeO.ite ?_ ?_
   | refine LeO.bind ?_ (fun _ => ?_)
  ·intro y0 y1 y2 y3 y4
   unfold impl_ApplyMorphism.l0
   repeat' first
   | (with_reducible exact ih0 _ _ _)
   | (with_reducible exact ih1 _ _ _ _ _)
   | (with_reducible exact impl_IsMorphism.mono _ _)
   | (with_reducible exact impl_IsWord.mono _ _ _)
   | (with_reducible exact LeO.refl _)
   | (with_reducible exact LeO.none _)
   | (with_reducible refine LeO.ite ?_ ?_)
   | (with_reducible refine LeO.bind ?_ (fun _ => ?_))
   | exact ih0 _ _ _
   | exact ih1 _ _ _ _ _
   | exact impl_IsMorphism.mono _ _
   | exact impl_IsWord.mono _ _ _
   | exact LeO.none _
   | refine LeO.ite ?_ ?_
   | refine LeO.bind ?_ (fun _ => ?_)
theorem impl_ApplyMorphism.mono : ∀ a0 a1 k, LeO (impl_ApplyMorphism.f k a0 a1) (impl_ApplyMorphism.f (k + 1) a0 a1) := by
 intro a0 a1 k
 obtain ⟨ih0, ih1⟩ := impl_ApplyMorphism.mono_l k
 unfold impl_ApplyMorphism.f
 repeat' first
   | (with_reducible exact ih0 _ _ _)
   | (with_reducible exact ih1 _ _ _ _ _)
   | (with_reducible exact impl_IsMorphism.mono _ _)
   | (with_reducible exact impl_IsWord.mono _ _ _)
   | (with_reducible exact LeO.refl _)
   | (with_reducible exact LeO.none _)
   | (with_reducible refine LeO.ite ?_ ?_)
   | (with_reducible refine LeO.bind ?_ (fun _ => ?_))
   | exact ih0 _ _ _
   | exact ih1 _ _ _ _ _
   | exact impl_IsMorphism.mono _ _
   | exact impl_IsWord.mono _ _ _
   | exact LeO.none _
   | refine LeO.ite ?_ ?_
   | refine LeO.bind ?_ (fun _ => ?_)
set_option maxHeartbeats 8000000 in
set_option maxRecDepth 100000 in
theorem impl_ApplyMorphism.calls (k : Nat) (A0_0 : Option Addr) (c0_0 : Nat) (l0_0 : List (List Int)) (A1 : Option Addr) (c1 : Nat) (l1 : List Int) (r1 : List Int) (r2 : Bool) (w : World) (hr0_0 : Kd.C (Kd.slice 3 (Kd.int .i64)) w A0_0 l0_0.length l0_0) (hc0_0 : l0_0.length ≤ c0_0) (hr1 : Kd.C (Kd.int .i64) w A1 l1.length l1) (hc1 : l1.length ≤ c1) (h : impl_ApplyMorphism.f k l0_0 l1 = some (r1, r2)) :
  Calls Try.prog 100 #[.agg #[.slice A0_0 l0_0.length c0_0], .slice A1 l1.length c1] w fun e w' => ∃ v0_ : Value, e = .returned (.tuple #[v0_, .bool r2]) ∧ Kd.R (Kd.int .i64) 3 w' w.heap.size (fun _ => True) v0_ r1 ∧ Below w.heap.size w w' := by
 have hu28 := Try.underlying28
 have HR0_0 := Aside0.mk hr0_0
 have HC0_0 := Aside0.mk hc0_0
 clear hr0_0 hc0_0
 have HR1 := Aside0.mk hr1
 have HC1 := Aside0.mk hc1
 clear hr1 hc1
 have HB := Aside0.mk (Below.refl w.heap.size w)
 have H : ((impl_IsMorphism.f k l0_0).bind fun t434 => (if t434 = true then ((impl_IsWord.f k l1 (l0_0.length : Int)).bind fun t435 => (impl_ApplyMorphism.j0 k l1 (!t435) l0_0)) else (impl_ApplyMorphism.j0 k l1 true l0_0))) = some (r1, r2) := h
 clear h
 have HC3 := Aside0.mk H
 clear H
 go_enter Try.func100, Try.ntmps100
 go_upto_region 1 with (first | ((with_reducible refine gate_dst (N := 2) rfl ?_); (try (refine gate_guard (by rfl) ?_; dsimp only)); refine box_event ?hg (N := 2) ?hd (cs := #[.slice A0_0 l0_0.length c0_0]) (t := 28) ?hr ?_; (case hd => rfl); (case hg => rfl); (case hr => first | (go_simp; done) | (go_simp; rfl)); intro gb433 hg w4 hbox hb; have n0_ := Aside0.mk (below_step (by repeat (first | (with_reducible first | exact HB.out | apply below_alloc | apply pw_below_drewN | apply below_drew1) | exact HB.out)) hb); have n1_ := Aside0.mk (hbox); have n2_ := Aside0.mk ((by rw [hg]; exact (below_size (by repeat (first | (with_reducible first | exact HB.out | apply below_alloc | apply pw_below_drewN | apply below_drew1) | exact HB.out))) : w.heap.size ≤ gb433)); have n3_ := Aside0.mk ((by rw [hg]; exact (below_size (by repeat (first | (with_reducible first | exact HB.out | apply below_alloc | apply pw_below_drewN | apply below_drew1) | exact HB.out))) : w.heap.size ≤ gb433)); clear HB; have HB := n0_; have BK433 := n1_; have GW433 := n2_; have GE433 := n3_; clear n0_ n1_ n2_ n3_; clear hb hbox hg))
 (try simp only [Act.put, List.setIfInBounds_toArray, List.set_cons_zero, List.set_cons_succ])
 go_cut [19] (fun v19 wc => ∃ (kq : Nat) (x19_2 : Bool), v19 = .bool x19_2 ∧ Aside0 (impl_ApplyMorphism.j0 kq l1 x19_2 l0_0 = some (r1, r2)) ∧ Aside0 (kq ≤ k) ∧ Aside0 (wc.heap[gb433]? = some (.cells #[(.slice A0_0 l0_0.length c0_0)] 28 (0, 0))) ∧ Aside0 (Below w.heap.size w wc))
 case first =>
  have H := HC3.out
  clear HC3
  replace H := Option.bind_eq_some_iff.mp H
  obtain ⟨t434, A50, H⟩ := H
  replace H : (if t434 = true then ((impl_IsWord.f k l1 (l0_0.length : Int)).bind fun t435 => (impl_ApplyMorphism.j0 k l1 (!t435) l0_0)) else (impl_ApplyMorphism.j0 k l1 true l0_0)) = some (r1, r2) := H
  have A5 := Aside0.mk A50
  clear A50
  by_cases c6 : t434 = true
  ·subst c6
   have H1 : ((impl_IsWord.f k l1 (l0_0.length : Int)).bind fun t435 => (impl_ApplyMorphism.j0 k l1 (!t435) l0_0)) = some (r1, r2) := by rw [if_pos rfl] at H; exact H
   clear H
   have H := H1
   clear H1
   replace H := Option.bind_eq_some_iff.mp H
   obtain ⟨t435, A70, H⟩ := H
   replace H : (impl_ApplyMorphism.j0 k l1 (!t435) l0_0) = some (r1, r2) := H
   have A7 := Aside0.mk A70
   clear A70
   have H' := Aside0.mk H
   clear H
   have hcz8_0 : w4.cell? ⟨gb433, 0, none⟩ = some (.slice A0_0 l0_0.length c0_0) := (blk_cell BK433.out 0).trans rfl
   have hfz8_0 := blk_frozen BK433.out 0
   go_wp2_with (first | ((with_reducible refine gate_callee (f := 108) rfl ?_); refine goesL_ (some 10) rfl rfl Try.func108 (by kernel_rfl) rfl #[.agg #[.slice A0_0 l0_0.length c0_0]] rfl (by (try simp only [List.map_toArray, List.map_cons, List.map_nil]); first | done | rfl | (simp only [List.length_drop, List.length_take]; rfl)) ?_; (with_reducible refine (impl_IsMorphism.calls k _ _ l0_0 true _ ?side1 ?side2 A5.out).mono ?_); (case side1 => repeat (first | exact (Kd.C_below HR0_0.out HB.out) | (with_reducible refine Kd.C_alloc ?_ _) | (with_reducible refine Kd.C_drewN ?_ _) | (with_reducible refine Kd.C_drew ?_))); (case side2 => exact HC0_0.out); rintro e w9 ⟨rfl, hb⟩; refine ⟨_, rfl, ?_⟩; have n0_ := Aside0.mk (blk_below (g := gb433) (o := .cells #[.slice A0_0 l0_0.length c0_0] 28 (0, 0)) (by (with_reducible repeat (first | refine blk_drewN ?_ _ | refine blk_drew ?_ | refine blk_alloc ?_ _)); exact BK433.out) hb); have n1_ := Aside0.mk (below_step (by repeat (first | (with_reducible first | exact HB.out | apply below_alloc | apply pw_below_drewN | apply below_drew1 | refine below_set ?_ GE433.out) | exact HB.out)) hb); clear BK433; clear HB; have BK433 := n0_; have HB := n1_; clear n0_ n1_; (try clear hb); (try clear hb2); (try clear hk); (try clear hi); have hcz10_0 : w9.cell? ⟨gb433, 0, none⟩ = some (.slice A0_0 l0_0.length c0_0) := (blk_cell BK433.out 0).trans rfl; have hfz10_0 := blk_frozen BK433.out 0) | (go_at_call 155; (with_reducible refine (impl_IsWord.calls k _ _ l1 (l0_0.length : Int) t435 _ ?side1 ?side2 A7.out).mono ?_); (case side1 => repeat (first | exact (Kd.C_below HR1.out HB.out) | (with_reducible refine Kd.C_alloc ?_ _) | (with_reducible refine Kd.C_drewN ?_ _) | (with_reducible refine Kd.C_drew ?_))); (case side2 => exact HC1.out); rintro e w' ⟨rfl, ⟨nd, rfl⟩⟩))
   go_meet
   case rel => exact ⟨_, (!t435), (by first | rfl | (simp; done) | (simp [*]; done)), H', ⟨by first | omega | exact Nat.le_refl _⟩, ⟨by (with_reducible repeat (first | refine blk_drewN ?_ _ | refine blk_drew ?_ | refine blk_alloc ?_ _)); exact BK433.out⟩, ⟨by repeat (first | (with_reducible first | exact HB.out | apply below_alloc | apply pw_below_drewN | apply below_drew1 | refine below_set ?_ GE433.out) | exact HB.out)⟩⟩
  ·replace c6 := Bool.eq_false_iff.mpr c6
   subst c6
   have H1 : (impl_ApplyMorphism.j0 k l1 true l0_0) = some (r1, r2) := by rw [if_neg (show ¬ (false = true) by decide)] at H; exact H
   clear H
   have H := H1
   clear H1
   have H' := Aside0.mk H
   clear H
   have hcz11_0 : w4.cell? ⟨gb433, 0, none⟩ = some (.slice A0_0 l0_0.length c0_0) := (blk_cell BK433.out 0).trans rfl
   have hfz11_0 := blk_frozen BK433.out 0
   go_wp2_with (first | ((with_reducible refine gate_callee (f := 108) rfl ?_); refine goesL_ (some 10) rfl rfl Try.func108 (by kernel_rfl) rfl #[.agg #[.slice A0_0 l0_0.length c0_0]] rfl (by (try simp only [List.map_toArray, List.map_cons, List.map_nil]); first | done | rfl | (simp only [List.length_drop, List.length_take]; rfl)) ?_; (with_reducible refine (impl_IsMorphism.calls k _ _ l0_0 false _ ?side1 ?side2 A5.out).mono ?_); (case side1 => repeat (first | exact (Kd.C_below HR0_0.out HB.out) | (with_reducible refine Kd.C_alloc ?_ _) | (with_reducible refine Kd.C_drewN ?_ _) | (with_reducible refine Kd.C_drew ?_))); (case side2 => exact HC0_0.out); rintro e w12 ⟨rfl, hb⟩; refine ⟨_, rfl, ?_⟩; have n0_ := Aside0.mk (blk_below (g := gb433) (o := .cells #[.slice A0_0 l0_0.length c0_0] 28 (0, 0)) (by (with_reducible repeat (first | refine blk_drewN ?_ _ | refine blk_drew ?_ | refine blk_alloc ?_ _)); exact BK433.out) hb); have n1_ := Aside0.mk (below_step (by repeat (first | (with_reducible first | exact HB.out | apply below_alloc | apply pw_below_drewN | apply below_drew1 | refine below_set ?_ GE433.out) | exact HB.out)) hb); clear BK433; clear HB; have BK433 := n0_; have HB := n1_; clear n0_ n1_; (try clear hb); (try clear hb2); (try clear hk); (try clear hi)))
   go_meet
   case rel => exact ⟨_, (true), (by first | rfl | (simp; done) | (simp [*]; done)), H', ⟨by first | omega | exact Nat.le_refl _⟩, ⟨by (with_reducible repeat (first | refine blk_drewN ?_ _ | refine blk_drew ?_ | refine blk_alloc ?_ _)); exact BK433.out⟩, ⟨by repeat (first | (with_reducible first | exact HB.out | apply below_alloc | apply pw_below_drewN | apply below_drew1 | refine below_set ?_ GE433.out) | exact HB.out)⟩⟩
 case rest =>
  clear HC3
  try clear c1
  try clear p2
  try clear c6
  try clear c10
  try clear hcz10_0
  try clear hcz11_0
  try clear hcz8_0
  try clear hfz10_0
  try clear hfz11_0
  try clear hfz8_0
  obtain ⟨kq, x19_2, rfl, HA, HJ2, BK433, HB⟩ := hcut
  cases kq with
  | zero => exact absurd HA.out (by simp [impl_ApplyMorphism.j0])
  | succ kj2 =>
   have H := HA.out
   clear HA
   simp only [impl_ApplyMorphism.j0] at H
   by_cases c13 : x19_2 = true
   ·subst c13
    have H1 : (some ((([] : List Int)), false)) = some (r1, r2) := by rw [if_pos rfl] at H; exact H
    clear H
    have H := H1
    clear H1
    obtain ⟨y436, hy436⟩ : ∃ y_ : List Int, y_ = (([] : List Int)) := ⟨_, rfl⟩
    replace H : (some (y436, false)) = some (r1, r2) := by first | (rw [hy436]; with_reducible exact H) | (have H2_ := (Option.bind_some _ _).symm.trans H; rw [hy436]; with_reducible exact H2_) | (have H2_ := (Option.bind_some _ _).symm.trans H; with_reducible exact H2_) | with_reducible exact H | (rw [hy436]; exact H) | exact H
    have Ny436 := Aside0.mk hy436
    clear hy436
    simp only [Option.some.injEq, Prod.mk.injEq] at H
    obtain ⟨rfl, rfl⟩ := H
    go_wp2_with (first | ((with_reducible refine gate_dst (N := 20) rfl ?_); (try (refine gate_guard (by rfl) ?_; dsimp only)); refine Kd.R_lit (Kd.int .i64) _ 3 ?hg (N := 20) ?hd (xs := ([] : List Int)) (inner := []) (ok := fun _ => True) (okp := fun _ => True) ?hr ?hp (fun _ hk => hk) trivial (Below.refl _ _) (Nat.le_refl _) (by simp) ?_; (case hd => rfl); (case hg => rfl); (case hr => first | (go_simp; done) | (go_simp; rfl)); (case hp => exact (Reps.none _ _)); intro v437 w14 ho15 hb hg_ hnew_; clear hg_ hnew_; (first | rw [← Ny436.out] at ho15 | (simp only [Int.reduceToNat] at ho15; rw [← Ny436.out] at ho15)); have n0_ := Aside0.mk (Kd.R_lower ho15 (below_size (by repeat (first | (with_reducible first | exact HB.out | apply below_alloc | apply pw_below_drewN | apply below_drew1 | refine below_set ?_ GE433.out) | exact HB.out)))); have n1_ := Aside0.mk (blk_below (g := gb433) (o := .cells #[.slice A0_0 l0_0.length c0_0] 28 (0, 0)) (by (with_reducible repeat (first | refine blk_drewN ?_ _ | refine blk_drew ?_ | refine blk_alloc ?_ _)); exact BK433.out) hb); have n2_ := Aside0.mk (below_step (by repeat (first | (with_reducible first | exact HB.out | apply below_alloc | apply pw_below_drewN | apply below_drew1 | refine below_set ?_ GE433.out) | exact HB.out)) hb); clear BK433; clear HB; have HO438 := n0_; have BK433 := n1_; have HB := n2_; clear n0_ n1_ n2_; clear hb ho15))
    go_ret2
    exact ⟨_, by first | rfl | (simp [errW_none, errW_some] <;> rfl) | (simp [*, errW_none, errW_some] <;> rfl), by (with_reducible repeat (first | apply Kd.R_alloc | apply Kd.R_drewN | apply Kd.R_drew)); exact HO438.out, by repeat (first | (with_reducible first | exact HB.out | apply below_alloc | apply pw_below_drewN | apply below_drew1 | refine below_set ?_ GE433.out) | exact HB.out)⟩
   ·replace c13 := Bool.eq_false_iff.mpr c13
    subst c13
    have H1 : (impl_ApplyMorphism.l0 kj2 (([] : List Int)) l1 (l1.length : Int) 0 l0_0) = some (r1, r2) := by rw [if_neg (show ¬ (false = true) by decide)] at H; exact H
    clear H
    have H := H1
    clear H1
    obtain ⟨y439, hy439⟩ : ∃ y_ : List Int, y_ = (([] : List Int)) := ⟨_, rfl⟩
    replace H : (impl_ApplyMorphism.l0 kj2 y439 l1 (l1.length : Int) 0 l0_0) = some (r1, r2) := by first | (rw [hy439]; with_reducible exact H) | (have H2_ := (Option.bind_some _ _).symm.trans H; rw [hy439]; with_reducible exact H2_) | (have H2_ := (Option.bind_some _ _).symm.trans H; with_reducible exact H2_) | with_reducible exact H | (rw [hy439]; exact H) | exact H
    have Ny439 := Aside0.mk hy439
    clear hy439
    have H' := Aside0.mk H
    clear H
    go_wp2_with (first | ((with_reducible refine gate_dst (N := 21) rfl ?_); (try (refine gate_guard (by rfl) ?_; dsimp only)); refine Kd.R_lit (Kd.int .i64) _ 3 ?hg (N := 21) ?hd (xs := ([] : List Int)) (inner := []) (ok := fun _ => True) (okp := fun _ => True) ?hr ?hp (fun _ hk => hk) trivial (Below.refl _ _) (Nat.le_refl _) (by simp) ?_; (case hd => rfl); (case hg => rfl); (case hr => first | (go_simp; done) | (go_simp; rfl)); (case hp => exact (Reps.none _ _)); intro v440 w16 ho17 hb hg_ hnew_; clear hg_ hnew_; (first | rw [← Ny439.out] at ho17 | (simp only [Int.reduceToNat] at ho17; rw [← Ny439.out] at ho17)); have n0_ := Aside0.mk (Kd.R_lower ho17 (below_size (by repeat (first | (with_reducible first | exact HB.out | apply below_alloc | apply pw_below_drewN | apply below_drew1 | refine below_set ?_ GE433.out) | exact HB.out)))); have n1_ := Aside0.mk (blk_below (g := gb433) (o := .cells #[.slice A0_0 l0_0.length c0_0] 28 (0, 0)) (by (with_reducible repeat (first | refine blk_drewN ?_ _ | refine blk_drew ?_ | refine blk_alloc ?_ _)); exact BK433.out) hb); have n2_ := Aside0.mk (below_step (by repeat (first | (with_reducible first | exact HB.out | apply below_alloc | apply pw_below_drewN | apply below_drew1 | refine below_set ?_ GE433.out) | exact HB.out)) hb); clear BK433; clear HB; have HO441 := n0_; have BK433 := n1_; have HB := n2_; clear n0_ n1_ n2_; clear hb ho17))
    go_loopg [6, 24] kj2 (fun kq v6 v24 w' => ∃ (x6_2 : List Int) (x24_2 : Int), v24 = .int .i64 x24_2 ∧ Aside0 (impl_ApplyMorphism.l0 kq x6_2 l1 (l1.length : Int) x24_2 l0_0 = some (r1, r2)) ∧ Aside0 (kq ≤ kj2) ∧ Aside0 (Kd.R (Kd.int .i64) 3 w' w.heap.size (fun _ => True) v6 x6_2) ∧ Aside0 (w'.heap[gb433]? = some (.cells #[(.slice A0_0 l0_0.length c0_0)] 28 (0, 0))) ∧ Aside0 (Below w.heap.size w w'))
    case atStart => exact ⟨(y439), (0), (by first | rfl | (simp; done) | (simp [*]; done)), H', ⟨Nat.le_refl _⟩, ⟨by (with_reducible repeat (first | apply Kd.R_alloc | apply Kd.R_drewN | apply Kd.R_drew)); exact HO441.out⟩, ⟨by (with_reducible repeat (first | refine blk_drewN ?_ _ | refine blk_drew ?_ | refine blk_alloc ?_ _)); exact BK433.out⟩, ⟨by repeat (first | (with_reducible first | exact HB.out | apply below_alloc | apply pw_below_drewN | apply below_drew1 | refine below_set ?_ GE433.out) | exact HB.out)⟩⟩
    case round =>
     clear H'
     try clear c1
     try clear p2
     try clear c6
     try clear c10
     try clear c13
     try clear hcz10_0
     try clear hcz11_0
     try clear hcz8_0
     try clear hfz10_0
     try clear hfz11_0
     try clear hfz8_0
     try clear p2
     obtain ⟨x6_2, x24_2, rfl, HA, HK2, HO_6, BK433, HB⟩ := hrel
     cases gk with
     | zero => exact absurd HA.out (by simp [impl_ApplyMorphism.l0])
     | succ k2 =>
      have H := HA.out
      clear HA
      simp only [impl_ApplyMorphism.l0] at H
      by_cases c18 : x24_2 < (l1.length : Int)
      ·rw [if_pos c18] at H
       have c18b0 : decide (x24_2 < (l1.length : Int)) = true := decide_eq_true c18
       clear c18
       by_cases c19 : 0 ≤ x24_2
       ·rw [if_pos c19] at H
        have c19b0 : decide (0 ≤ x24_2) = true := decide_eq_true c19
        clear c19
        by_cases c20 : x24_2 < (l1.length : Int)
        ·rw [if_pos c20] at H
         have c20b0 : decide (x24_2 < (l1.length : Int)) = true := decide_eq_true c20
         clear c20
         by_cases c21 : 0 ≤ (rd l1 x24_2)
         ·rw [if_pos c21] at H
          have c21b0 : decide (0 ≤ (rd l1 x24_2)) = true := decide_eq_true c21
          clear c21
          by_cases c22 : (rd l1 x24_2) < (l0_0.length : Int)
          ·rw [if_pos c22] at H
           have c22b0 : decide ((rd l1 x24_2) < (l0_0.length : Int)) = true := decide_eq_true c22
           clear c22
           by_cases c23 : x6_2.length + (rd_L1 l0_0 (rd l1 x24_2)).length < 17592186044416
           ·rw [if_pos c23] at H
            have LMc23 := Aside0.mk c23
            clear c23
            obtain ⟨y444, hy444⟩ : ∃ y_ : List Int, y_ = (x6_2 ++ (rd_L1 l0_0 (rd l1 x24_2))) := ⟨_, rfl⟩
            replace H : (impl_ApplyMorphism.l0 k2 y444 l1 (l1.length : Int) (wrap64 (x24_2 + 1)) l0_0) = some (r1, r2) := by first | (rw [hy444]; with_reducible exact H) | (have H2_ := (Option.bind_some _ _).symm.trans H; rw [hy444]; with_reducible exact H2_) | (have H2_ := (Option.bind_some _ _).symm.trans H; with_reducible exact H2_) | with_reducible exact H | (rw [hy444]; exact H) | exact H
            have Ny444 := Aside0.mk hy444
            clear hy444
            have H' := Aside0.mk H
            clear H
            have p442 : 0 ≤ (x24_2 : Int) := of_decide_eq_true (by first | (with_reducible assumption) | assumption)
            have q442 : x24_2 < (l1.length : Int) := of_decide_eq_true (by first | (with_reducible assumption) | assumption)
            obtain ⟨ad442, e442, hx442_0⟩ := Kd.at_int HR1.out x24_2 p442 q442
            cases e442
            replace hx442_0 := (HB.out.cell (World.block_lt_of_cell? w _ hx442_0)).trans hx442_0
            replace p442 := eq_true p442
            replace q442 := eq_true q442
            have hcz24_0 : wr.cell? ⟨gb433, 0, none⟩ = some (.slice A0_0 l0_0.length c0_0) := (blk_cell BK433.out 0).trans rfl
            have hfz24_0 := blk_frozen BK433.out 0
            have p443 : 0 ≤ ((rd l1 x24_2) : Int) := of_decide_eq_true (by first | (with_reducible assumption) | assumption)
            have q443 : (rd l1 x24_2) < (l0_0.length : Int) := of_decide_eq_true (by first | (with_reducible assumption) | assumption)
            obtain ⟨ad443, A443_0, c443_0, e443, hx443_0, hl443_0, hi443_0⟩ := at_L1 HR0_0.out (rd l1 x24_2) p443 q443
            cases e443
            replace hx443_0 := (HB.out.cell (World.block_lt_of_cell? w _ hx443_0)).trans hx443_0
            have HR443_0 := Aside0.mk hi443_0
            have HC443_0 := Aside0.mk hl443_0
            clear hi443_0 hl443_0
            replace p443 := eq_true p443
            replace q443 := eq_true q443
            go_wp2_with (first | ((with_reducible refine gate_builtin (b := .append) (xs := #[.tmp 28, .tmp 33]) rfl ?_); (try (refine gate_guard (by rfl) ?_; dsimp only)); at_builtin; refine Kd.R_append_rows (Kd.int .i64) (w0 := w) w.heap.size rfl (.tmp 28) (.tmp 33) 36 3 (.int .i64 0) 8 rfl Try.underlying36 info3 rfl (by decide) (by omega) u6 x6_2 (rd_L1 l0_0 (rd l1 x24_2)) _ _ _ (fun _ => True) (fun _ => False) rfl rfl ?aO ?aR (fun _ _ h => h) (fun _ h => h.elim) ?aF ?aB ?aS ?aL ?_; (case aR => repeat (first | exact (Kd.C_below HR443_0.out HB.out) | (with_reducible refine Kd.C_alloc ?_ _) | (with_reducible refine Kd.C_drewN ?_ _) | (with_reducible refine Kd.C_drew ?_))); (case aB => exact (by repeat (first | (with_reducible first | exact HB.out | apply below_alloc | apply pw_below_drewN | apply below_drew1 | refine below_set ?_ GE433.out) | exact HB.out))); (case aF => exact (fun _ _ => trivial)); (case aO => exact (by (with_reducible repeat (first | apply Kd.R_alloc | apply Kd.R_drewN | apply Kd.R_drew)); exact HO_6.out)); (case aS => exact (below_size (by repeat (first | (with_reducible first | exact HB.out | apply below_alloc | apply pw_below_drewN | apply below_drew1 | refine below_set ?_ GE433.out) | exact HB.out)))); (case aL => have := LMc23.out; omega); intro v445 w25 ho hb hg hat; rw [← Ny444.out] at ho; have n0_ := Aside0.mk (blk_grown (g := gb433) (o := .cells #[.slice (some ad443) l0_0.length c0_0] 28 (0, 0)) (by (with_reducible repeat (first | refine blk_drewN ?_ _ | refine blk_drew ?_ | refine blk_alloc ?_ _)); exact BK433.out) hg (Kd.R_ne HO_6.out BK433.out (by decide))); have n1_ := Aside0.mk (hb); have n2_ := Aside0.mk (ho); clear BK433; clear HB; clear HO_6; have BK433 := n0_; have HB := n1_; have HO446 := n2_; clear n0_ n1_ n2_; clear ho hb hg hat))
            go_roundg k2
            case measure => have := HJ2.out; have := HK2.out; omega
            case rel => exact ⟨(y444), (wrap64 (x24_2 + 1)), (by first | rfl | (simp; done) | (simp [*]; done)), H', ⟨by have := HJ2.out; have := HK2.out; omega⟩, ⟨by (with_reducible repeat (first | apply Kd.R_alloc | apply Kd.R_drewN | apply Kd.R_drew)); exact HO446.out⟩, ⟨by (with_reducible repeat (first | refine blk_drewN ?_ _ | refine blk_drew ?_ | refine blk_alloc ?_ _)); exact BK433.out⟩, ⟨by repeat (first | (with_reducible first | exact HB.out | apply below_alloc | apply pw_below_drewN | apply below_drew1 | refine below_set ?_ GE433.out) | exact HB.out)⟩⟩
           ·rw [if_neg c23] at H
            exact absurd H (by simp)
          ·rw [if_neg c22] at H
           exact absurd H (by simp)
         ·rw [if_neg c21] at H
          exact absurd H (by simp)
        ·rw [if_neg c20] at H
         exact absurd H (by simp)
       ·rw [if_neg c19] at H
        exact absurd H (by simp)
      ·rw [if_neg c18] at H
       have c18b0 : decide (x24_2 < (l1.length : Int)) = false := decide_eq_false c18
       clear c18
       by_cases c26 : (x6_2.length : Int) > 400
       ·rw [if_pos c26] at H
        have c26b0 : decide (400 < (x6_2.length : Int)) = true := decide_eq_true c26
        have c26b1 : decide (400 < x6_2.length) = true := decide_eq_true (by omega)
        clear c26
        obtain ⟨y447, hy447⟩ : ∃ y_ : List Int, y_ = (([] : List Int)) := ⟨_, rfl⟩
        replace H : (some (y447, false)) = some (r1, r2) := by first | (rw [hy447]; with_reducible exact H) | (have H2_ := (Option.bind_some _ _).symm.trans H; rw [hy447]; with_reducible exact H2_) | (have H2_ := (Option.bind_some _ _).symm.trans H; with_reducible exact H2_) | with_reducible exact H | (rw [hy447]; exact H) | exact H
        have Ny447 := Aside0.mk hy447
        clear hy447
        simp only [Option.some.injEq, Prod.mk.injEq] at H
        obtain ⟨rfl, rfl⟩ := H
        obtain ⟨Ao27, co27, eo27⟩ := Kd.R_slice HO_6.out
        subst eo27
        go_wp2_with (first | ((with_reducible refine gate_dst (N := 39) rfl ?_); (try (refine gate_guard (by rfl) ?_; dsimp only)); refine Kd.R_lit (Kd.int .i64) _ 3 ?hg (N := 39) ?hd (xs := ([] : List Int)) (inner := []) (ok := fun _ => True) (okp := fun _ => True) ?hr ?hp (fun _ hk => hk) trivial (Below.refl _ _) (Nat.le_refl _) (by simp) ?_; (case hd => rfl); (case hg => rfl); (case hr => first | (go_simp; done) | (go_simp; rfl)); (case hp => exact (Reps.none _ _)); intro v448 w28 ho29 hb hg_ hnew_; clear hg_ hnew_; (first | rw [← Ny447.out] at ho29 | (simp only [Int.reduceToNat] at ho29; rw [← Ny447.out] at ho29)); have n0_ := Aside0.mk (Kd.R_elder' (by (with_reducible repeat (first | apply Kd.R_alloc | apply Kd.R_drewN | apply Kd.R_drew)); exact HO_6.out) (Kd.R_base ho29) hb); have n1_ := Aside0.mk (Kd.R_lower (Kd.R_new' ho29 (Kd.R_lt (by (with_reducible repeat (first | apply Kd.R_alloc | apply Kd.R_drewN | apply Kd.R_drew)); exact HO_6.out))) (below_size (by repeat (first | (with_reducible first | exact HB.out | apply below_alloc | apply pw_below_drewN | apply below_drew1 | refine below_set ?_ GE433.out) | exact HB.out)))); have n2_ := Aside0.mk (blk_below (g := gb433) (o := .cells #[.slice A0_0 l0_0.length c0_0] 28 (0, 0)) (by (with_reducible repeat (first | refine blk_drewN ?_ _ | refine blk_drew ?_ | refine blk_alloc ?_ _)); exact BK433.out) hb); have n3_ := Aside0.mk (below_step (by repeat (first | (with_reducible first | exact HB.out | apply below_alloc | apply pw_below_drewN | apply below_drew1 | refine below_set ?_ GE433.out) | exact HB.out)) hb); clear HO_6; clear BK433; clear HB; have HO_6 := n0_; have HO449 := n1_; have BK433 := n2_; have HB := n3_; clear n0_ n1_ n2_ n3_; clear hb ho29))
        go_ret2
        exact ⟨_, by first | rfl | (simp [errW_none, errW_some] <;> rfl) | (simp [*, errW_none, errW_some] <;> rfl), by (with_reducible repeat (first | apply Kd.R_alloc | apply Kd.R_drewN | apply Kd.R_drew)); exact Kd.R_mono HO449.out (fun _ hk => trivial), by repeat (first | (with_reducible first | exact HB.out | apply below_alloc | apply pw_below_drewN | apply below_drew1 | refine below_set ?_ GE433.out) | exact HB.out)⟩
       ·rw [if_neg c26] at H
        have c26b0 : decide (400 < (x6_2.length : Int)) = false := decide_eq_false c26
        have c26b1 : decide (400 < x6_2.length) = false := decide_eq_false (by omega)
        clear c26
        simp only [Option.some.injEq, Prod.mk.injEq] at H
        obtain ⟨rfl, rfl⟩ := H
        obtain ⟨Ao30, co30, eo30⟩ := Kd.R_slice HO_6.out
        subst eo30
        go_wp2
        go_ret2
        exact ⟨_, by first | rfl | (simp [errW_none, errW_some] <;> rfl) | (simp [*, errW_none, errW_some] <;> rfl), by (with_reducible repeat (first | apply Kd.R_alloc | apply Kd.R_drewN | apply Kd.R_drew)); exact HO_6.out, by repeat (first | (with_reducible first | exact HB.out | apply below_alloc | apply pw_below_drewN | apply below_drew1 | refine below_set ?_ GE433.out) | exact HB.out)⟩

end Go.Proofs.Ytooamcjgejajeaa.M
/- Walks for this claim, written by a program of mine over the kit's print. No condition of mine. -/
namespace Go.Proofs.Ytooamcjgejajeaa.M
open Go.RowKit Go.Proofs.Ytooamcjgejajeaa.KW Go.Proofs.YtooamcjgejajeaaW.PrintWords Go.Proofs.YtooamcjgejajeaaW.PrintLast Go.Proofs.YtooamcjgejajeaaW.PrintMore
attribute [local go_sem] max2_int min2_int max_two min_two max_three min_three max_four min_four   -- for this text's walks alone
set_option linter.unusedVariables false
set_option linter.unusedSimpArgs false

/-! ### impl_longestRepeat: function 124 -/
def impl_longestRepeat.l0 : Nat → List Int → Int → Int → Int → Int → Option (Int)
 | 0, _, _, _, _, _ => none
 | k + 1, x0, x1, x5, x6, x7 => if (wrap64 (x7 + x1)) < (x0.length : Int) then (if 0 ≤ x7 then (if x7 < (x0.length : Int) then (if 0 ≤ (wrap64 (x7 + x1)) then (if (rd x0 x7) = (rd x0 (wrap64 (x7 + x1))) then (impl_longestRepeat.l0 k x0 x1 (mx x5 (wrap64 (x6 + 1))) (wrap64 (x6 + 1)) (wrap64 (x7 + 1))) else (impl_longestRepeat.l0 k x0 x1 x5 0 (wrap64 (x7 + 1)))) else (none)) else (none)) else (none)) else (some (wrap64 (x5 + x1)))
def impl_longestRepeat.f (k : Nat) (l0 : List Int) (a1 : Int) : Option (Int) := impl_longestRepeat.l0 k l0 a1 0 0 0
theorem impl_longestRepeat.mono_l : ∀ k, (∀ y0 y1 y2 y3 y4, LeO (impl_longestRepeat.l0 k y0 y1 y2 y3 y4) (impl_longestRepeat.l0 (k + 1) y0 y1 y2 y3 y4))
 | 0 => fun _ _ _ _ _ r h => by simp [impl_longestRepeat.l0] at h
 | k + 1 => by
  have ih0 := impl_longestRepeat.mono_l k
  ·intro y0 y1 y2 y3 y4
   unfold impl_longestRepeat.l0
   repeat' first
   | (with_reducible exact ih0 _ _ _ _ _)
   | (with_reducible exact LeO.refl _)
   | (with_reducible exact LeO.none _)
   | (with_reducible refine LeO.ite ?_ ?_)
   | (with_reducible refine LeO.bind ?_ (fun _ => ?_))
   | exact ih0 _ _ _ _ _
   | exact LeO.none _
   | refine LeO.ite ?_ ?_
   | refine LeO.bind ?_ (fun _ => ?_)
theorem impl_longestRepeat.mono : ∀ a0 a1 k, LeO (impl_longestRepeat.f k a0 a1) (impl_longestRepeat.f (k + 1) a0 a1) := by
 intro a0 a1 k
 have ih0 := impl_longestRepeat.mono_l k
 unfold impl_longestRepeat.f
 repeat' first
   | (with_reducible exact ih0 _ _ _ _ _)
   | (with_reducible exact LeO.refl _)
   | (with_reducible exact LeO.none _)
   | (with_reducible refine LeO.ite ?_ ?_)
   | (with_reducible refine LeO.bind ?_ (fun _ => ?_))
   | exact ih0 _ _ _ _ _
   | exact LeO.none _
   | refine LeO.ite ?_ ?_
   | refine LeO.bind ?_ (fun _ => ?_)
set_option maxHeartbeats 8000000 in
set_option maxRecDepth 100000 in
theorem impl_longestRepeat.calls (k : Nat) (A0 : Option Addr) (c0 : Nat) (l0 : List Int) (a1 : Int) (r : Int) (w : World) (hr0 : Kd.C (Kd.int .i64) w A0 l0.length l0) (hc0 : l0.length ≤ c0) (h : impl_longestRepeat.f k l0 a1 = some r) :
  Calls Try.prog 124 #[.slice A0 l0.length c0, .int .i64 a1] w fun e w' => e = .returned (.int .i64 r) ∧ Below w.heap.size w w' := by
 have HR0 := Aside0.mk hr0
 have HC0 := Aside0.mk hc0
 clear hr0 hc0
 have HB := Aside0.mk (Below.refl w.heap.size w)
 have H : (impl_longestRepeat.l0 k l0 a1 0 0 0) = some r := h
 clear h
 have H' := Aside0.mk H
 clear H
 go_enter Try.func124, Try.ntmps124
 go_wp2
 repeat (go_quiet (fail); try go_wp2)
 go_loopg [5, 6, 7] k (fun kq v5 v6 v7 w' => ∃ (x5_1 : Int) (x6_1 : Int) (x7_1 : Int), v5 = .int .i64 x5_1 ∧ v6 = .int .i64 x6_1 ∧ v7 = .int .i64 x7_1 ∧ Aside0 (impl_longestRepeat.l0 kq l0 a1 x5_1 x6_1 x7_1 = some r) ∧ Aside0 (kq ≤ k) ∧ Aside0 (Below w.heap.size w w'))
 case atStart => exact ⟨(0), (0), (0), (by first | rfl | (simp; done) | (simp [*]; done)), (by first | rfl | (simp; done) | (simp [*]; done)), (by first | rfl | (simp; done) | (simp [*]; done)), H', ⟨Nat.le_refl _⟩, ⟨by repeat (first | (with_reducible first | exact HB.out | apply below_alloc | apply pw_below_drewN | apply below_drew1) | exact HB.out)⟩⟩
 case round =>
  clear H'
  try clear c1
  try clear p2
  obtain ⟨x5_1, x6_1, x7_1, rfl, rfl, rfl, HA, HK1, HB⟩ := hrel
  cases gk with
  | zero => exact absurd HA.out (by simp [impl_longestRepeat.l0])
  | succ k1 =>
   have H := HA.out
   clear HA
   simp only [impl_longestRepeat.l0] at H
   by_cases c3 : (wrap64 (x7_1 + a1)) < (l0.length : Int)
   ·rw [if_pos c3] at H
    have c3b0 : decide ((wrap64 (x7_1 + a1)) < (l0.length : Int)) = true := decide_eq_true c3
    clear c3
    by_cases c4 : 0 ≤ x7_1
    ·rw [if_pos c4] at H
     have c4b0 : decide (0 ≤ x7_1) = true := decide_eq_true c4
     clear c4
     by_cases c5 : x7_1 < (l0.length : Int)
     ·rw [if_pos c5] at H
      have c5b0 : decide (x7_1 < (l0.length : Int)) = true := decide_eq_true c5
      clear c5
      obtain ⟨ji6, hji6⟩ : ∃ j_ : Int, (wrap64 (x7_1 + a1)) = j_ := ⟨_, rfl⟩
      replace H : (if 0 ≤ (ji6) then (if (rd l0 x7_1) = (rd l0 (ji6)) then (impl_longestRepeat.l0 k1 l0 a1 (mx x5_1 (wrap64 (x6_1 + 1))) (wrap64 (x6_1 + 1)) (wrap64 (x7_1 + 1))) else (impl_longestRepeat.l0 k1 l0 a1 x5_1 0 (wrap64 (x7_1 + 1)))) else (none)) = some r := by first | (rw [hji6] at H; exact H) | (simp only [hji6] at H ⊢; exact H)
      (try rw [hji6] at c3b0)
      have hji6w : (IntKind.i64.wrap (x7_1 + a1)) = ji6 := (i64_w _).trans hji6
      by_cases c7 : 0 ≤ (ji6)
      ·rw [if_pos c7] at H
       have c7b0 : decide (0 ≤ (ji6)) = true := decide_eq_true c7
       clear c7
       by_cases c8 : (rd l0 x7_1) = (rd l0 (ji6))
       ·rw [if_pos c8] at H
        have c8b0 : ((rd l0 x7_1) == (rd l0 (ji6))) = true := beq_iff_eq.mpr c8
        have c8b1 : ((rd l0 x7_1) != (rd l0 (ji6))) = false := bne_eq_false_iff_eq.mpr c8
        clear c8
        obtain ⟨ji9, hji9⟩ : ∃ j_ : Int, (mx x5_1 (wrap64 (x6_1 + 1))) = j_ := ⟨_, rfl⟩
        replace H : (impl_longestRepeat.l0 k1 l0 a1 ji9 (wrap64 (x6_1 + 1)) (wrap64 (x7_1 + 1))) = some r := by first | (rw [hji9] at H; exact H) | (simp only [hji9] at H ⊢; exact H)
        have hji9_ : (if x5_1 < (wrap64 (x6_1 + 1)) then (wrap64 (x6_1 + 1)) else x5_1) = ji9 := hji9
        have H' := Aside0.mk H
        clear H
        have p429 : 0 ≤ (x7_1 : Int) := of_decide_eq_true (by first | (with_reducible assumption) | assumption)
        have q429 : x7_1 < (l0.length : Int) := of_decide_eq_true (by first | (with_reducible assumption) | assumption)
        obtain ⟨ad429, e429, hx429_0⟩ := Kd.at_int HR0.out x7_1 p429 q429
        cases e429
        replace hx429_0 := (HB.out.cell (World.block_lt_of_cell? w _ hx429_0)).trans hx429_0
        replace p429 := eq_true p429
        replace q429 := eq_true q429
        have p430 : 0 ≤ ((ji6) : Int) := of_decide_eq_true (by first | (with_reducible assumption) | assumption)
        have q430 : (ji6) < (l0.length : Int) := of_decide_eq_true (by first | (with_reducible assumption) | assumption)
        obtain ⟨ad430, e430, hx430_0⟩ := Kd.at_int HR0.out (ji6) p430 q430
        obtain rfl : ad429 = ad430 := (by injection e430)
        replace hx430_0 := (HB.out.cell (World.block_lt_of_cell? w _ hx430_0)).trans hx430_0
        replace p430 := eq_true p430
        replace q430 := eq_true q430
        go_wp2
        repeat (go_quiet (fail); try go_wp2)
        go_roundg k1
        case measure => have := HK1.out; omega
        case rel => exact ⟨(ji9), (wrap64 (x6_1 + 1)), (wrap64 (x7_1 + 1)), (by first | rfl | (simp; done) | (simp only [← hji9] <;> (first | rfl | simp)) | (simp [*]; done)), (by first | rfl | (simp; done) | (simp [*]; done)), (by first | rfl | (simp; done) | (simp [*]; done)), H', ⟨by have := HK1.out; omega⟩, ⟨by repeat (first | (with_reducible first | exact HB.out | apply below_alloc | apply pw_below_drewN | apply below_drew1) | exact HB.out)⟩⟩
       ·rw [if_neg c8] at H
        have c8b0 : ((rd l0 x7_1) == (rd l0 (ji6))) = false := beq_eq_false_iff_ne.mpr c8
        have c8b1 : ((rd l0 x7_1) != (rd l0 (ji6))) = true := bne_iff_ne.mpr c8
        have H' := Aside0.mk H
        clear H
        have p429 : 0 ≤ (x7_1 : Int) := of_decide_eq_true (by first | (with_reducible assumption) | assumption)
        have q429 : x7_1 < (l0.length : Int) := of_decide_eq_true (by first | (with_reducible assumption) | assumption)
        obtain ⟨ad429, e429, hx429_0⟩ := Kd.at_int HR0.out x7_1 p429 q429
        cases e429
        replace hx429_0 := (HB.out.cell (World.block_lt_of_cell? w _ hx429_0)).trans hx429_0
        replace p429 := eq_true p429
        replace q429 := eq_true q429
        have p430 : 0 ≤ ((ji6) : Int) := of_decide_eq_true (by first | (with_reducible assumption) | assumption)
        have q430 : (ji6) < (l0.length : Int) := of_decide_eq_true (by first | (with_reducible assumption) | assumption)
        obtain ⟨ad430, e430, hx430_0⟩ := Kd.at_int HR0.out (ji6) p430 q430
        obtain rfl : ad429 = ad430 := (by injection e430)
        replace hx430_0 := (HB.out.cell (World.block_lt_of_cell? w _ hx430_0)).trans hx430_0
        replace p430 := eq_true p430
        replace q430 := eq_true q430
        go_wp2
        repeat (go_quiet (fail); try go_wp2)
        go_roundg k1
        case measure => have := HK1.out; omega
        case rel => exact ⟨(x5_1), (0), (wrap64 (x7_1 + 1)), (by first | rfl | (simp; done) | (simp [*]; done)), (by first | rfl | (simp; done) | (simp [*]; done)), (by first | rfl | (simp; done) | (simp [*]; done)), H', ⟨by have := HK1.out; omega⟩, ⟨by repeat (first | (with_reducible first | exact HB.out | apply below_alloc | apply pw_below_drewN | apply below_drew1) | exact HB.out)⟩⟩
      ·rw [if_neg c7] at H
       exact absurd H (by simp)
     ·rw [if_neg c5] at H
      exact absurd H (by simp)
    ·rw [if_neg c4] at H
     exact absurd H (by simp)
   ·rw [if_neg c3] at H
    have c3b0 : decide ((wrap64 (x7_1 + a1)) < (l0.length : Int)) = false := decide_eq_false c3
    clear c3
    obtain rfl := Option.some.inj H
    go_wp2
    repeat (go_quiet (fail); try go_wp2)
    go_ret
    exact ⟨by first | rfl | (simp [errW_none, errW_some] <;> rfl) | (simp [*, errW_none, errW_some] <;> rfl), by repeat (first | (with_reducible first | exact HB.out | apply below_alloc | apply pw_below_drewN | apply below_drew1) | exact HB.out)⟩

end Go.Proofs.Ytooamcjgejajeaa.M
/- Walks for this claim, written by a program of mine over the kit's print. No condition of mine. -/
namespace Go.Proofs.Ytooamcjgejajeaa.M
open Go.RowKit Go.Proofs.Ytooamcjgejajeaa.KW Go.Proofs.YtooamcjgejajeaaW.PrintWords Go.Proofs.YtooamcjgejajeaaW.PrintLast Go.Proofs.YtooamcjgejajeaaW.PrintMore
attribute [local go_sem] max2_int min2_int max_two min_two max_three min_three max_four min_four   -- for this text's walks alone
set_option linter.unusedVariables false
set_option linter.unusedSimpArgs false

/-! ### impl_HasPower: function 125 -/
mutual
def impl_HasPower.j0 : Nat → List Int → Int → Int → Bool → Option (Bool)
 | 0, _, _, _, _ => none
 | k + 1, x0, x1, x2, x27 => if x27 = true then (some false) else (impl_HasPower.l0 k x0 x1 x2 1)
def impl_HasPower.l0 : Nat → List Int → Int → Int → Int → Option (Bool)
 | 0, _, _, _, _ => none
 | k + 1, x0, x1, x2, x7 => if x7 ≤ (x0.length : Int) then ((impl_longestRepeat.f k x0 x7).bind fun t550 => (if (wrap64 (t550 * x2)) ≥ (wrap64 (x1 * x7)) then (some true) else (impl_HasPower.l0 k x0 x1 x2 (wrap64 (x7 + 1))))) else (some false)
end
def impl_HasPower.f (k : Nat) (l0 : List Int) (a1 : Int) (a2 : Int) : Option (Bool) := if (l0.length : Int) > 128 then (impl_HasPower.j0 k l0 a1 a2 true) else (if a1 < 2 then (impl_HasPower.j0 k l0 a1 a2 true) else (if a1 > 20 then (impl_HasPower.j0 k l0 a1 a2 true) else (if a2 < 1 then (impl_HasPower.j0 k l0 a1 a2 true) else (impl_HasPower.j0 k l0 a1 a2 (decide (a2 ≥ a1))))))
theorem impl_HasPower.mono_l : ∀ k, (∀ y0 y1 y2 y3, LeO (impl_HasPower.j0 k y0 y1 y2 y3) (impl_HasPower.j0 (k + 1) y0 y1 y2 y3)) ∧ (∀ y0 y1 y2 y3, LeO (impl_HasPower.l0 k y0 y1 y2 y3) (impl_HasPower.l0 (k + 1) y0 y1 y2 y3))
 | 0 => ⟨fun _ _ _ _ r h => by simp [impl_HasPower.j0] at h, fun _ _ _ _ r h => by simp [impl_HasPower.l0] at h⟩
 | k + 1 => by
  obtain ⟨ih0, ih1⟩ := impl_HasPower.mono_l k
  refine ⟨?_, ?_⟩
  ·intro y0 y1 y2 y3
   unfold impl_HasPower.j0
   repeat' first
   | (with_reducible exact ih0 _ _ _ _)
   | (with_reducible exact ih1 _ _ _ _)
   | (with_reducible exact impl_longestRepeat.mono _ _ _)
   | (with_reducible exact LeO.refl _)
   | (with_reducible exact LeO.none _)
   | (with_reducible refine LeO.ite ?_ ?_)
   | (with_reducible refine LeO.bind ?_ (fun _ => ?_))
   | exact ih0 _ _ _ _
   | exact ih1 _ _ _ _
   | exact impl_longestRepeat.mono _ _ _
   | exact LeO.none _
   | refine LeO.ite ?_ ?_
   | refine LeO.bind ?_ (fun _ => ?_)
  ·intro y0 y1 y2 y3
   unfold impl_HasPower.l0
   repeat' first
   | (with_reducible exact ih0 _ _ _ _)
   | (with_reducible exact ih1 _ _ _ _)
   | (with_reducible exact impl_longestRepeat.mono _ _ _)
   | (with_reducible exact LeO.refl _)
   | (with_reducible exact LeO.none _)
   | (with_reducible refine LeO.ite ?_ ?_)
   | (with_reducible refine LeO.bind ?_ (fun _ => ?_))
   | exact ih0 _ _ _ _
   | exact ih1 _ _ _ _
   | exact impl_longestRepeat.mono _ _ _
   | exact LeO.none _
   | refine LeO.ite ?_ ?_
   | refine LeO.bind ?_ (fun _ => ?_)
theorem impl_HasPower.mono : ∀ a0 a1 a2 k, LeO (impl_HasPower.f k a0 a1 a2) (impl_HasPower.f (k + 1) a0 a1 a2) := by
 intro a0 a1 a2 k
 obtain ⟨ih0, ih1⟩ := impl_HasPower.mono_l k
 unfold impl_HasPower.f
 repeat' first
   | (with_reducible exact ih0 _ _ _ _)
   | (with_reducible exact ih1 _ _ _ _)
   | (with_reducible exact impl_longestRepeat.mono _ _ _)
   | (with_reducible exact LeO.refl _)
   | (with_reducible exact LeO.none _)
   | (with_reducible refine LeO.ite ?_ ?_)
   | (with_reducible refine LeO.bind ?_ (fun _ => ?_))
   | exact ih0 _ _ _ _
   | exact ih1 _ _ _ _
   | exact impl_longestRepeat.mono _ _ _
   | exact LeO.none _
   | refine LeO.ite ?_ ?_
   | refine LeO.bind ?_ (fun _ => ?_)
set_option maxHeartbeats 8000000 in
set_option maxRecDepth 100000 in
theorem impl_HasPower.calls (k : Nat) (A0 : Option Addr) (c0 : Nat) (l0 : List Int) (a1 : Int) (a2 : Int) (r : Bool) (w : World) (hr0 : Kd.C (Kd.int .i64) w A0 l0.length l0) (hc0 : l0.length ≤ c0) (h : impl_HasPower.f k l0 a1 a2 = some r) :
  Calls Try.prog 125 #[.slice A0 l0.length c0, .int .i64 a1, .int .i64 a2] w fun e w' => e = .returned (.bool r) ∧ Below w.heap.size w w' := by
 have HR0 := Aside0.mk hr0
 have HC0 := Aside0.mk hc0
 clear hr0 hc0
 have HB := Aside0.mk (Below.refl w.heap.size w)
 have H : (if (l0.length : Int) > 128 then (impl_HasPower.j0 k l0 a1 a2 true) else (if a1 < 2 then (impl_HasPower.j0 k l0 a1 a2 true) else (if a1 > 20 then (impl_HasPower.j0 k l0 a1 a2 true) else (if a2 < 1 then (impl_HasPower.j0 k l0 a1 a2 true) else (impl_HasPower.j0 k l0 a1 a2 (decide (a2 ≥ a1))))))) = some r := h
 clear h
 have HC4 := Aside0.mk H
 clear H
 go_enter Try.func125, Try.ntmps125
 go_upto_region 1 with (fail)
 go_cut [27] (fun v27 wc => ∃ (kq : Nat) (x27_3 : Bool), v27 = .bool x27_3 ∧ Aside0 (impl_HasPower.j0 kq l0 a1 a2 x27_3 = some r) ∧ Aside0 (kq ≤ k) ∧ Aside0 (Below w.heap.size w wc))
 case first =>
  have H := HC4.out
  clear HC4
  by_cases c5 : (l0.length : Int) > 128
  ·rw [if_pos c5] at H
   have c5b0 : decide (128 < (l0.length : Int)) = true := decide_eq_true c5
   have c5b1 : decide (128 < l0.length) = true := decide_eq_true (by omega)
   clear c5
   (first | rw [c5b0] | (simp only [i64_w, i32_w]; rw [c5b0]) | skip)
   have H' := Aside0.mk H
   clear H
   go_wp2
   go_meet
   case rel => exact ⟨_, (true), (by first | rfl | (simp; done) | (simp [*]; done)), H', ⟨by first | omega | exact Nat.le_refl _⟩, ⟨by repeat (first | (with_reducible first | exact HB.out | apply below_alloc | apply pw_below_drewN | apply below_drew1) | exact HB.out)⟩⟩
  ·rw [if_neg c5] at H
   have c5b0 : decide (128 < (l0.length : Int)) = false := decide_eq_false c5
   have c5b1 : decide (128 < l0.length) = false := decide_eq_false (by omega)
   clear c5
   (first | rw [c5b0] | (simp only [i64_w, i32_w]; rw [c5b0]) | skip)
   by_cases c6 : a1 < 2
   ·rw [if_pos c6] at H
    have c6b0 : decide (a1 < 2) = true := decide_eq_true c6
    clear c6
    have H' := Aside0.mk H
    clear H
    go_wp2
    go_meet
    case rel => exact ⟨_, (true), (by first | rfl | (simp; done) | (simp [*]; done)), H', ⟨by first | omega | exact Nat.le_refl _⟩, ⟨by repeat (first | (with_reducible first | exact HB.out | apply below_alloc | apply pw_below_drewN | apply below_drew1) | exact HB.out)⟩⟩
   ·rw [if_neg c6] at H
    have c6b0 : decide (a1 < 2) = false := decide_eq_false c6
    clear c6
    by_cases c7 : a1 > 20
    ·rw [if_pos c7] at H
     have c7b0 : decide (20 < a1) = true := decide_eq_true c7
     clear c7
     have H' := Aside0.mk H
     clear H
     go_wp2
     go_meet
     case rel => exact ⟨_, (true), (by first | rfl | (simp; done) | (simp [*]; done)), H', ⟨by first | omega | exact Nat.le_refl _⟩, ⟨by repeat (first | (with_reducible first | exact HB.out | apply below_alloc | apply pw_below_drewN | apply below_drew1) | exact HB.out)⟩⟩
    ·rw [if_neg c7] at H
     have c7b0 : decide (20 < a1) = false := decide_eq_false c7
     clear c7
     by_cases c8 : a2 < 1
     ·rw [if_pos c8] at H
      have c8b0 : decide (a2 < 1) = true := decide_eq_true c8
      clear c8
      have H' := Aside0.mk H
      clear H
      go_wp2
      go_meet
      case rel => exact ⟨_, (true), (by first | rfl | (simp; done) | (simp [*]; done)), H', ⟨by first | omega | exact Nat.le_refl _⟩, ⟨by repeat (first | (with_reducible first | exact HB.out | apply below_alloc | apply pw_below_drewN | apply below_drew1) | exact HB.out)⟩⟩
     ·rw [if_neg c8] at H
      have c8b0 : decide (a2 < 1) = false := decide_eq_false c8
      clear c8
      have H' := Aside0.mk H
      clear H
      go_wp2
      go_meet
      case rel => exact ⟨_, (decide (a2 ≥ a1)), (by first | rfl | (simp; done) | (simp [*]; done)), H', ⟨by first | omega | exact Nat.le_refl _⟩, ⟨by repeat (first | (with_reducible first | exact HB.out | apply below_alloc | apply pw_below_drewN | apply below_drew1) | exact HB.out)⟩⟩
 case rest =>
  clear HC4
  try clear c1
  try clear p2
  try clear c5
  try clear c5b0
  try clear c5b1
  try clear c6
  try clear c6b0
  try clear c7
  try clear c7b0
  try clear c8
  try clear c8b0
  obtain ⟨kq, x27_3, rfl, HA, HJ3, HB⟩ := hcut
  cases kq with
  | zero => exact absurd HA.out (by simp [impl_HasPower.j0])
  | succ kj3 =>
   have H := HA.out
   clear HA
   simp only [impl_HasPower.j0] at H
   by_cases c9 : x27_3 = true
   ·subst c9
    have H1 : (some false) = some r := by rw [if_pos rfl] at H; exact H
    clear H
    have H := H1
    clear H1
    obtain rfl := Option.some.inj H
    go_wp2
    go_ret
    exact ⟨by first | rfl | (simp [errW_none, errW_some] <;> rfl) | (simp [*, errW_none, errW_some] <;> rfl), by repeat (first | (with_reducible first | exact HB.out | apply below_alloc | apply pw_below_drewN | apply below_drew1) | exact HB.out)⟩
   ·replace c9 := Bool.eq_false_iff.mpr c9
    subst c9
    have H1 : (impl_HasPower.l0 kj3 l0 a1 a2 1) = some r := by rw [if_neg (show ¬ (false = true) by decide)] at H; exact H
    clear H
    have H := H1
    clear H1
    have H' := Aside0.mk H
    clear H
    go_wp2
    go_loopg [7] kj3 (fun kq v7 w' => ∃ (x7_2 : Int), v7 = .int .i64 x7_2 ∧ Aside0 (impl_HasPower.l0 kq l0 a1 a2 x7_2 = some r) ∧ Aside0 (kq ≤ kj3) ∧ Aside0 (Below w.heap.size w w'))
    case atStart => exact ⟨(1), (by first | rfl | (simp; done) | (simp [*]; done)), H', ⟨Nat.le_refl _⟩, ⟨by repeat (first | (with_reducible first | exact HB.out | apply below_alloc | apply pw_below_drewN | apply below_drew1) | exact HB.out)⟩⟩
    case round =>
     clear H'
     try clear c1
     try clear p2
     try clear c5
     try clear c5b0
     try clear c5b1
     try clear c6
     try clear c6b0
     try clear c7
     try clear c7b0
     try clear c8
     try clear c8b0
     try clear c9
     try clear p2
     obtain ⟨x7_2, rfl, HA, HK2, HB⟩ := hrel
     cases gk with
     | zero => exact absurd HA.out (by simp [impl_HasPower.l0])
     | succ k2 =>
      have H := HA.out
      clear HA
      simp only [impl_HasPower.l0] at H
      by_cases c10 : x7_2 ≤ (l0.length : Int)
      ·rw [if_pos c10] at H
       have c10b0 : decide (x7_2 ≤ (l0.length : Int)) = true := decide_eq_true c10
       clear c10
       replace H := Option.bind_eq_some_iff.mp H
       obtain ⟨t550, A110, H⟩ := H
       replace H : (if (wrap64 (t550 * a2)) ≥ (wrap64 (a1 * x7_2)) then (some true) else (impl_HasPower.l0 k2 l0 a1 a2 (wrap64 (x7_2 + 1)))) = some r := H
       have A11 := Aside0.mk A110
       clear A110
       by_cases c12 : (wrap64 (t550 * a2)) ≥ (wrap64 (a1 * x7_2))
       ·rw [if_pos c12] at H
        have c12b0 : decide ((wrap64 (a1 * x7_2)) ≤ (wrap64 (t550 * a2))) = true := decide_eq_true c12
        clear c12
        obtain rfl := Option.some.inj H
        go_wp2_with (first | ((with_reducible refine gate_callee (f := 124) rfl ?_); refine goesL_ (some 36) rfl rfl Try.func124 (by kernel_rfl) rfl #[.slice A0 l0.length c0, .int .i64 x7_2] rfl (by (try simp only [List.map_toArray, List.map_cons, List.map_nil]); first | done | rfl | (simp only [List.length_drop, List.length_take]; rfl)) ?_; (with_reducible refine (impl_longestRepeat.calls k2 _ _ l0 x7_2 t550 _ ?side1 ?side2 A11.out).mono ?_); (case side1 => repeat (first | exact (Kd.C_below HR0.out HB.out) | (with_reducible refine Kd.C_alloc ?_ _) | (with_reducible refine Kd.C_drewN ?_ _) | (with_reducible refine Kd.C_drew ?_))); (case side2 => exact HC0.out); rintro e w13 ⟨rfl, hb⟩; refine ⟨_, rfl, ?_⟩; have n0_ := Aside0.mk (below_step (by repeat (first | (with_reducible first | exact HB.out | apply below_alloc | apply pw_below_drewN | apply below_drew1) | exact HB.out)) hb); clear HB; have HB := n0_; clear n0_; (try clear hb); (try clear hb2); (try clear hk); (try clear hi)))
        go_ret
        exact ⟨by first | rfl | (simp [errW_none, errW_some] <;> rfl) | (simp [*, errW_none, errW_some] <;> rfl), by repeat (first | (with_reducible first | exact HB.out | apply below_alloc | apply pw_below_drewN | apply below_drew1) | exact HB.out)⟩
       ·rw [if_neg c12] at H
        have c12b0 : decide ((wrap64 (a1 * x7_2)) ≤ (wrap64 (t550 * a2))) = false := decide_eq_false c12
        clear c12
        have H' := Aside0.mk H
        clear H
        go_wp2_with (first | ((with_reducible refine gate_callee (f := 124) rfl ?_); refine goesL_ (some 36) rfl rfl Try.func124 (by kernel_rfl) rfl #[.slice A0 l0.length c0, .int .i64 x7_2] rfl (by (try simp only [List.map_toArray, List.map_cons, List.map_nil]); first | done | rfl | (simp only [List.length_drop, List.length_take]; rfl)) ?_; (with_reducible refine (impl_longestRepeat.calls k2 _ _ l0 x7_2 t550 _ ?side1 ?side2 A11.out).mono ?_); (case side1 => repeat (first | exact (Kd.C_below HR0.out HB.out) | (with_reducible refine Kd.C_alloc ?_ _) | (with_reducible refine Kd.C_drewN ?_ _) | (with_reducible refine Kd.C_drew ?_))); (case side2 => exact HC0.out); rintro e w14 ⟨rfl, hb⟩; refine ⟨_, rfl, ?_⟩; have n0_ := Aside0.mk (below_step (by repeat (first | (with_reducible first | exact HB.out | apply below_alloc | apply pw_below_drewN | apply below_drew1) | exact HB.out)) hb); clear HB; have HB := n0_; clear n0_; (try clear hb); (try clear hb2); (try clear hk); (try clear hi)))
        go_roundg k2
        case measure => have := HJ3.out; have := HK2.out; omega
        case rel => exact ⟨(wrap64 (x7_2 + 1)), (by first | rfl | (simp; done) | (simp [*]; done)), H', ⟨by have := HJ3.out; have := HK2.out; omega⟩, ⟨by repeat (first | (with_reducible first | exact HB.out | apply below_alloc | apply pw_below_drewN | apply below_drew1) | exact HB.out)⟩⟩
      ·rw [if_neg c10] at H
       have c10b0 : decide (x7_2 ≤ (l0.length : Int)) = false := decide_eq_false c10
       clear c10
       obtain rfl := Option.some.inj H
       go_wp2
       go_ret
       exact ⟨by first | rfl | (simp [errW_none, errW_some] <;> rfl) | (simp [*, errW_none, errW_some] <;> rfl), by repeat (first | (with_reducible first | exact HB.out | apply below_alloc | apply pw_below_drewN | apply below_drew1) | exact HB.out)⟩

end Go.Proofs.Ytooamcjgejajeaa.M
/- Walks for this claim, written by a program of mine over the kit's print. No condition of mine. -/
namespace Go.Proofs.Ytooamcjgejajeaa.M
open Go.RowKit Go.Proofs.Ytooamcjgejajeaa.KW Go.Proofs.YtooamcjgejajeaaW.PrintWords Go.Proofs.YtooamcjgejajeaaW.PrintLast Go.Proofs.YtooamcjgejajeaaW.PrintMore
attribute [local go_sem] max2_int min2_int max_two min_two max_three min_three max_four min_four   -- for this text's walks alone
set_option linter.unusedVariables false
set_option linter.unusedSimpArgs false

/-! ### impl_HasSquare: function 53 -/
def impl_HasSquare.f (k : Nat) (l0 : List Int) : Option (Bool) := (impl_HasPower.f k l0 2 1).bind fun t551 => (some t551)
theorem impl_HasSquare.mono : ∀ a0 k, LeO (impl_HasSquare.f k a0) (impl_HasSquare.f (k + 1) a0) := by
 intro a0 k
 unfold impl_HasSquare.f
 repeat' first
   | (with_reducible exact impl_HasPower.mono _ _ _ _)
   | (with_reducible exact LeO.refl _)
   | (with_reducible exact LeO.none _)
   | (with_reducible refine LeO.ite ?_ ?_)
   | (with_reducible refine LeO.bind ?_ (fun _ => ?_))
   | exact impl_HasPower.mono _ _ _ _
   | exact LeO.none _
   | refine LeO.ite ?_ ?_
   | refine LeO.bind ?_ (fun _ => ?_)
set_option maxHeartbeats 8000000 in
set_option maxRecDepth 100000 in
theorem impl_HasSquare.calls (k : Nat) (A0 : Option Addr) (c0 : Nat) (l0 : List Int) (r : Bool) (w : World) (hr0 : Kd.C (Kd.int .i64) w A0 l0.length l0) (hc0 : l0.length ≤ c0) (h : impl_HasSquare.f k l0 = some r) :
  Calls Try.prog 53 #[.slice A0 l0.length c0] w fun e w' => e = .returned (.bool r) ∧ Below w.heap.size w w' := by
 have HR0 := Aside0.mk hr0
 have HC0 := Aside0.mk hc0
 clear hr0 hc0
 have HB := Aside0.mk (Below.refl w.heap.size w)
 have H : ((impl_HasPower.f k l0 2 1).bind fun t551 => (some t551)) = some r := h
 clear h
 replace H := Option.bind_eq_some_iff.mp H
 obtain ⟨t551, A20, H⟩ := H
 replace H : (some t551) = some r := H
 have A2 := Aside0.mk A20
 clear A20
 obtain rfl := Option.some.inj H
 go_enter Try.func53, Try.ntmps53
 go_wp2_with (first | ((with_reducible refine gate_callee (f := 125) rfl ?_); refine goesL_ (some 4) rfl rfl Try.func125 (by kernel_rfl) rfl #[.slice A0 l0.length c0, .int .i64 2, .int .i64 1] rfl (by (try simp only [List.map_toArray, List.map_cons, List.map_nil]); first | done | rfl | (simp only [List.length_drop, List.length_take]; rfl)) ?_; (with_reducible refine (impl_HasPower.calls k _ _ l0 2 1 t551 _ ?side1 ?side2 A2.out).mono ?_); (case side1 => repeat (first | exact HR0.out | (with_reducible refine Kd.C_alloc ?_ _) | (with_reducible refine Kd.C_drewN ?_ _) | (with_reducible refine Kd.C_drew ?_))); (case side2 => exact HC0.out); rintro e w3 ⟨rfl, hb⟩; refine ⟨_, rfl, ?_⟩; have n0_ := Aside0.mk (below_step (by repeat (first | (with_reducible first | exact HB.out | apply below_alloc | apply pw_below_drewN | apply below_drew1) | exact HB.out)) hb); clear HB; have HB := n0_; clear n0_; (try clear hb); (try clear hb2); (try clear hk); (try clear hi)))
 go_ret
 exact ⟨by first | rfl | (simp [errW_none, errW_some] <;> rfl) | (simp [*, errW_none, errW_some] <;> rfl), by repeat (first | (with_reducible first | exact HB.out | apply below_alloc | apply pw_below_drewN | apply below_drew1) | exact HB.out)⟩

end Go.Proofs.Ytooamcjgejajeaa.M
/- Plain lemmas on rounds, lists and whole numbers, with no program in sight. No condition. -/
namespace Go.Proofs.Ytooamcjgejajeaa.K
open Go.RowKit Go.Proofs.YtooamcjgejajeaaW.PrintWords

/-- Induction downwards from n. -/
theorem down {P : Nat → Prop} (n : Nat) (h0 : P n) (hs : ∀ i, i < n → P (i + 1) → P i) : ∀ i, i ≤ n → P i := by
  intro i hi
  obtain ⟨d, rfl⟩ : ∃ d, n = i + d := ⟨n - i, by omega⟩
  clear hi
  induction d generalizing i with
  | zero => exact h0
  | succ d ih =>
    refine hs i (by omega) ?_
    refine ih (i + 1) ?_ ?_
    · rw [show i + 1 + d = i + (d + 1) from by omega]; exact h0
    · intro j hj; exact hs j (by omega)

theorem wsucc {i : Nat} (h : i < 9223372036854775807) : wrap64 ((i : Int) + 1) = ((i + 1 : Nat) : Int) := by
  unfold wrap64; omega

theorem w_id {a : Int} (h1 : -9223372036854775808 ≤ a) (h2 : a ≤ 9223372036854775807) : wrap64 a = a := by
  unfold wrap64; omega

theorem rd_at (xs : List Int) (i : Nat) : rd xs (i : Int) = xs.getD i 0 := by simp [rd]
theorem rd_get (xs : List Int) (i : Nat) (h : i < xs.length) : rd xs (i : Int) = xs[i] := by
  rw [rd_at, List.getD_eq_getElem?_getD, List.getElem?_eq_getElem h]; rfl
theorem rdOf_get {α : Type} (d : α) (xs : List α) (i : Nat) (h : i < xs.length) : rdOf d xs (i : Int) = xs[i] := by
  unfold rdOf; rw [Int.toNat_natCast, List.getD_eq_getElem?_getD, List.getElem?_eq_getElem h]; rfl

theorem Ev.some {α : Type} (r : α) : Ev (fun _ => Option.some r) r := Ev.now r

theorem Ev.val {α : Type} {x : Option α} {r : α} (h : x = Option.some r) : Ev (fun _ => x) r := ⟨0, fun _ _ => h⟩
theorem Ev.if_pos {α : Type} {c : Prop} [Decidable c] {f g : Nat → Option α} {r : α} (h : c) (k : Ev f r) : Ev (fun n => if c then f n else g n) r :=
  Ev.congr (fun _ => _root_.if_pos h) k
theorem Ev.if_neg {α : Type} {c : Prop} [Decidable c] {f g : Nat → Option α} {r : α} (h : ¬ c) (k : Ev g r) : Ev (fun n => if c then f n else g n) r :=
  Ev.congr (fun _ => _root_.if_neg h) k
theorem Ev.ite {α : Type} {c : Prop} [Decidable c] {f g : Nat → Option α} {r : α} (h1 : c → Ev f r) (h2 : ¬ c → Ev g r) : Ev (fun n => if c then f n else g n) r := by
  by_cases h : c
  · exact Ev.if_pos h (h1 h)
  · exact Ev.if_neg h (h2 h)
theorem Ev.same {α : Type} {g : Nat → Option α} {r q : α} (h : Ev g r) (e : r = q) : Ev g q := e ▸ h
theorem Ev.unique {α : Type} {g : Nat → Option α} {r q : α} (h : Ev g r) (h' : Ev g q) : r = q := by
  obtain ⟨K, h⟩ := h
  obtain ⟨K', h'⟩ := h'
  exact Option.some.inj ((h (max K K') (by omega)).symm.trans (h' _ (by omega)))

/-- A row told by its places. -/
def row (n : Nat) (f : Nat → Int) : List Int := (List.range n).map f
theorem row_length (n : Nat) (f : Nat → Int) : (row n f).length = n := by simp [row]
theorem row_getD (n : Nat) (f : Nat → Int) (i : Nat) (h : i < n) : (row n f).getD i 0 = f i := by
  simp [row, List.getD_eq_getElem?_getD, List.getElem?_map, List.getElem?_range h]
theorem rd_row (n : Nat) (f : Nat → Int) (i : Nat) (h : i < n) : rd (row n f) (i : Int) = f i := by rw [rd_at, row_getD n f i h]
theorem row_set (n : Nat) (f : Nat → Int) (i : Nat) (v : Int) : (row n f).set i v = row n (fun m => if m = i then v else f m) := by
  apply List.ext_getElem?
  intro j
  by_cases hj : j < n
  · rw [List.getElem?_set]
    by_cases e : i = j
    · subst e; simp [row, hj]
    · rw [_root_.if_neg e]; simp [row, List.getElem?_map, List.getElem?_range hj, Ne.symm e]
  · rw [List.getElem?_eq_none (by rw [List.length_set, row_length]; omega), List.getElem?_eq_none (by rw [row_length]; omega)]
theorem row_congr (n : Nat) (f g : Nat → Int) (h : ∀ i, i < n → f i = g i) : row n f = row n g := by
  unfold row; exact List.map_congr_left (fun i hi => h i (List.mem_range.1 hi))
theorem row_of (xs : List Int) : row xs.length (fun i => xs.getD i 0) = xs := by
  apply List.ext_getElem?
  intro j
  by_cases hj : j < xs.length
  · simp [row, hj]
  · rw [List.getElem?_eq_none (by rw [row_length]; omega), List.getElem?_eq_none (by omega)]
theorem row_succ (n : Nat) (f : Nat → Int) : row (n + 1) f = row n f ++ [f n] := by simp [row, List.range_succ]
theorem row_replicate (n : Nat) (v : Int) : List.replicate n v = row n (fun _ => v) := by
  apply List.ext_getElem?
  intro j
  by_cases hj : j < n
  · simp [row, hj]
  · rw [List.getElem?_eq_none (by simp; omega), List.getElem?_eq_none (by rw [row_length]; omega)]

theorem drop_eq {α : Type} (xs : List α) (i : Nat) (h : i < xs.length) : xs.drop i = xs[i] :: xs.drop (i + 1) := List.drop_eq_getElem_cons h
theorem take_succ {α : Type} (xs : List α) (i : Nat) (h : i < xs.length) : xs.take (i + 1) = xs.take i ++ [xs[i]] := by
  rw [List.take_add_one, List.getElem?_eq_getElem h]; rfl
theorem cons_dec {α : Type} [DecidableEq α] (x y : α) (xs ys : List α) : decide (x :: xs = y :: ys) = (decide (x = y) && decide (xs = ys)) := by
  by_cases h : x = y <;> by_cases k : xs = ys <;> simp [h, k]
theorem fill_set {α : Type} (xs : List α) (z : α) (i : Nat) (h : i < xs.length) : (xs.take i ++ List.replicate (xs.length - i) z).set i xs[i] = xs.take (i + 1) ++ List.replicate (xs.length - (i + 1)) z := by
  rw [List.set_append_right _ _ (by rw [List.length_take]; omega), List.length_take, show i - min i xs.length = 0 from by omega, show xs.length - i = (xs.length - (i + 1)) + 1 from by omega, List.replicate_succ, List.set_cons_zero, take_succ xs i h, List.append_assoc]
  rfl
theorem fill_length {α : Type} (xs : List α) (z : α) (i : Nat) (h : i ≤ xs.length) : (xs.take i ++ List.replicate (xs.length - i) z).length = xs.length := by
  rw [List.length_append, List.length_take, List.length_replicate]; omega
def total : List (List Int) → Nat
  | [] => 0
  | x :: xs => x.length + total xs
theorem total_append (xs ys : List (List Int)) : total (xs ++ ys) = total xs + total ys := by
  induction xs with
  | nil => simp [total]
  | cons x xs ih => simp only [List.cons_append, total, ih]; omega
theorem total_take (xs : List (List Int)) (i : Nat) (h : i < xs.length) : total (xs.take (i + 1)) = total (xs.take i) + xs[i].length := by
  rw [take_succ xs i h, total_append]; simp [total]
theorem total_take_le (xs : List (List Int)) (i : Nat) : total (xs.take i) ≤ total xs := by
  have := total_append (xs.take i) (xs.drop i)
  rw [List.take_append_drop] at this; omega
theorem total_mem (xs : List (List Int)) (x : List Int) (h : x ∈ xs) : x.length ≤ total xs := by
  induction xs with
  | nil => cases h
  | cons y ys ih => 
    rcases List.mem_cons.1 h with rfl | h
    · simp only [total]; omega
    · have := ih h
      simp only [total]; omega
theorem total_at (xs : List (List Int)) (i : Nat) (h : i < xs.length) : xs[i].length ≤ total xs := total_mem xs _ (List.getElem_mem h)
end Go.Proofs.Ytooamcjgejajeaa.K
/- freeWords of the program, walked for any test of words: the words of a length whose beginnings all pass the test, in rows that share no memory. Conditions: the test is a function value that only reads the word, and there is room. -/
namespace Go.Proofs.Ytooamcjgejajeaa.M
open Go.RowKit Go.Proofs.YtooamcjgejajeaaW.PrintWords Go.Proofs.YtooamcjgejajeaaW.PrintLast Go.Proofs.YtooamcjgejajeaaW.PrintMore Go.Proofs.Ytooamcjgejajeaa.K Go.Proofs.Ytooamcjgejajeaa.KW
set_option linter.unusedVariables false
set_option linter.unusedSimpArgs false

/-- A word, longer by each letter below m, where the test lets it. -/
def ext (p : List Int → Bool) (word : List Int) (x : Nat) : List (List Int) := ((List.range x).map fun (a : Nat) => word ++ [(a : Int)]).filter p
def fwStep (m : Nat) (p : List Int → Bool) (ws : List (List Int)) : List (List Int) := ws.flatMap fun word => ext p word m
def fw (m : Nat) (p : List Int → Bool) : Nat → List (List Int)
  | 0 => [[]]
  | n + 1 => fwStep m p (fw m p n)
theorem ext_succ (p : List Int → Bool) (word : List Int) (x : Nat) : ext p word (x + 1) = ext p word x ++ (if p (word ++ [(x : Int)]) = true then [word ++ [(x : Int)]] else []) := by
  unfold ext; rw [List.range_succ, List.map_append, List.filter_append]
  by_cases h : p (word ++ [(x : Int)]) = true <;> simp [h]
theorem ext_le (p : List Int → Bool) (word : List Int) (x : Nat) : (ext p word x).length ≤ x := by
  unfold ext; refine Nat.le_trans (List.length_filter_le _ _) ?_; simp
theorem fwStep_le (m : Nat) (p : List Int → Bool) (ws : List (List Int)) : (fwStep m p ws).length ≤ m * ws.length := by
  induction ws with
  | nil => simp [fwStep]
  | cons w ws ih =>
    have := ext_le p w m
    simp only [fwStep, List.flatMap_cons, List.length_append, List.length_cons] at ih ⊢
    rw [Nat.mul_add]; omega
theorem fwStep_take (m : Nat) (p : List Int → Bool) (ws : List (List Int)) (i : Nat) (h : i < ws.length) : fwStep m p (ws.take (i + 1)) = fwStep m p (ws.take i) ++ ext p ws[i] m := by
  unfold fwStep; rw [take_succ ws i h, List.flatMap_append]; simp
theorem fw_le (m : Nat) (p : List Int → Bool) (n : Nat) : (fw m p n).length ≤ m ^ n := by
  induction n with
  | zero => simp [fw]
  | succ n ih => unfold fw; refine Nat.le_trans (fwStep_le m p _) ?_; rw [Nat.pow_succ, Nat.mul_comm]; exact Nat.mul_le_mul_right _ ih
theorem ext_len (p : List Int → Bool) (word : List Int) (x : Nat) : ∀ u ∈ ext p word x, u.length = word.length + 1 := by
  intro u hu
  unfold ext at hu
  obtain ⟨a, _, rfl⟩ := List.mem_map.1 (List.mem_filter.1 hu).1
  simp
theorem fw_len (m : Nat) (p : List Int → Bool) (n : Nat) : ∀ u ∈ fw m p n, u.length = n := by
  induction n with
  | zero => intro u hu; simp [fw] at hu; subst hu; rfl
  | succ n ih =>
    intro u hu
    unfold fw fwStep at hu
    obtain ⟨word, hw, hu⟩ := List.mem_flatMap.1 hu
    rw [ext_len p word m u hu, ih word hw]

/-- The rows collected so far, all made since Wm. -/
def MidRel (Wm : World) (acc : List (List Int)) (v : Value) (wr : World) : Prop :=
  Kd.S (Kd.slice 3 (Kd.int .i64)) 36 wr Wm.heap.size (fun k => Wm.heap.size ≤ k) v acc ∧ Below Wm.heap.size Wm wr

set_option maxHeartbeats 4000000 in
set_option maxRecDepth 100000 in
theorem freeWords_calls (f : FuncId) (fn : Func) (cap : Array Value) (p : List Int → Bool) (m n : Nat) (w : World)
    (hf : Try.prog.funcs[f]? = some fn) (hname : (fn.name == "runtime.NumGoroutine") = false) (hbody : fn.body.isSome = true)
    (hm : m ≤ 1000) (hn : n ≤ 1000) (hroom : ∀ i, i ≤ n → m ^ i ≤ 1000000000000)
    (hp : ∀ (W : World) (A : Option Addr) (c : Nat) (xs : List Int), Below w.heap.size w W → Kd.C (Kd.int .i64) W A xs.length xs → xs.length ≤ c → xs.length ≤ n → Calls Try.prog f (#[.slice A xs.length c] ++ cap) W (fun e w' => e = .returned (.bool (p xs)) ∧ Below W.heap.size W w')) :
    Calls Try.prog 118 #[.int .i64 m, .int .i64 n, .func (.func f) #[] cap] w fun e w' => ∃ v0_ : Value, e = .returned v0_ ∧ Kd.S (Kd.slice 3 (Kd.int .i64)) 36 w' w.heap.size (fun _ => True) v0_ (fw m p n) ∧ Below w.heap.size w w' := by
  have HP := Aside0.mk hp
  have HROOM := Aside0.mk hroom
  have HF := Aside0.mk hf
  clear hp hroom hf
  go_enter Try.func118, Try.ntmps118
  go_wp2_with ((with_reducible refine gate_dst (N := 13) rfl ?_); refine Aside0.out ?_)
  refine Aside0.mk ?_
  refine Kd.R_lit (Kd.int .i64) _ 3 ?hg (N := 13) ?hd (xs := ([] : List Int)) (inner := []) (ok := fun _ => True) (okp := fun _ => True) ?hr ?hp (fun _ hk => hk) trivial (Below.refl _ _) (Nat.le_refl _) (by simp) ?_
  case hd => rfl
  case hg => rfl
  case hr => first | (go_simp; done) | (go_simp; rfl)
  case hp => exact (Reps.none _ _)
  intro v13 w1 ho1 hb1 _ _
  obtain ⟨A13, c13, rfl⟩ := Kd.R_slice ho1
  have HO1 := Aside0.mk ho1
  have HB1 := Aside0.mk hb1
  clear ho1 hb1
  go_wp2_with ((with_reducible refine gate_dst (N := 14) rfl ?_); refine Aside0.out ?_)
  refine Aside0.mk ?_
  refine Kd.S_lits (Kd.slice 3 (Kd.int .i64)) (w0 := w) w.heap.size 36 ?hg (N := 14) ?hd (xs := ([[]] : List (List Int))) (inner := [.slice A13 ([] : List Int).length c13]) (ok := fun _ => True) (fun j k => j = 0 ∧ some k = (Value.slice A13 ([] : List Int).length c13).ownBlock) ?hr rfl ?hrep (fun i j k h1 h2 => h1.1.trans h2.1.symm) (fun _ _ _ => trivial) trivial HB1.out HB1.out.size (by simp) ?_
  case hd => rfl
  case hg => rfl
  case hr => first | (go_simp; done) | (go_simp; rfl)
  case hrep =>
    intro j x hj
    rcases j with _ | j
    · simp at hj; subst hj; exact ⟨_, rfl, Kd.R_reok rfl HO1.out (fun k hk => ⟨rfl, hk.symm⟩)⟩
    · simp at hj
  intro v14 w2 ho2 hb2 _ _
  have HO2 := Aside0.mk ho2
  have HB2 := Aside0.mk hb2
  clear HO1 HB1 ho2 hb2
  go_wp2_with fail
  go_loopw [7, 16] (fun v i wr => ∃ k : Nat, k ≤ n ∧ i = .int .i64 k ∧ Aside0 (Kd.S (Kd.slice 3 (Kd.int .i64)) 36 wr w.heap.size (fun _ => True) v (fw m p k)) ∧ Aside0 (Below w.heap.size w wr)) (fun _ i _ => n - (intOf i).toNat)
  case atStart => exact ⟨0, Nat.zero_le _, rfl, HO2, HB2⟩
  case round =>
    clear HO2 HB2
    obtain ⟨k, hk, rfl, HO, HB⟩ := hrel
    generalize wr = wo at *
    by_cases hlt : k < n
    · have HWS := Aside0.mk (show (fwStep m p (fw m p k)) = fw m p (k + 1) from rfl)
      have hwl : (fw m p k).length ≤ 1000000000000 := Nat.le_trans (fw_le m p k) (HROOM.out k (by omega))
      have HML := Aside0.mk (show m * (fw m p k).length ≤ 1000000000000 from Nat.le_trans (Nat.mul_le_mul_left m (fw_le m p k)) (by have := HROOM.out (k + 1) (by omega); rwa [Nat.pow_succ, Nat.mul_comm] at this))
      have HLEN := Aside0.mk (fw_len m p k)
      generalize fw m p k = ws at *
      obtain ⟨A7, c7, rfl⟩ := Kd.S_slice HO.out
      go_wp2_with ((with_reducible refine gate_dst (N := 18) rfl ?_); refine Aside0.out ?_)
      refine Aside0.mk ?_
      refine Kd.S_lit (Kd.slice 3 (Kd.int .i64)) (w0 := wo) wo.heap.size 36 ?hg (N := 18) ?hd (xs := ([] : List (List Int))) (inner := []) (ok := fun k => wo.heap.size ≤ k) (okp := fun _ => False) ?hr ?hp (fun _ hk => hk.elim) (Nat.le_refl _) (Below.refl _ _) (Nat.le_refl _) (by simp) ?_
      case hd => rfl
      case hg => rfl
      case hr => first | (go_simp; done) | (go_simp; rfl)
      case hp => exact (Reps.none _ _)
      intro v18 w3 ho3 hb3 _ _
      have HM3 := Aside0.mk (show MidRel wo [] v18 w3 from ⟨ho3, hb3⟩)
      clear ho3 hb3
      go_wp2_with fail
      go_loopw [8, 21] (fun v j wm => ∃ q : Nat, q ≤ ws.length ∧ j = .int .i64 q ∧ Aside0 (MidRel wo (fwStep m p (ws.take q)) v wm)) (fun _ j _ => ws.length - (intOf j).toNat)
      case atStart => exact ⟨0, Nat.zero_le _, rfl, by simpa [fwStep] using HM3⟩
      case round =>
        clear HM3
        obtain ⟨q, hq, rfl, HM⟩ := hrel
        generalize wr = wm at *
        by_cases hlq : q < ws.length
        · obtain ⟨ad, A0, c0, hA, hx0, hl0, hC0⟩ := at_L1 (Kd.S_reads' HO.out).2.2 (q : Int) (by omega) (by omega)
          subst hA
          have hx1 := pw_cell_below HM.out.2 hx0
          rw [Int.toNat_natCast] at hx1
          have hword : rd_L1 ws (q : Int) = ws[q] := by unfold rd_L1; rw [Int.toNat_natCast, List.getD_eq_getElem?_getD, List.getElem?_eq_getElem hlq]; rfl
          rw [hword] at hx1 hl0 hC0
          have HT := Aside0.mk (fwStep_take m p ws q hlq)
          have HWL := Aside0.mk (HLEN.out ws[q] (List.getElem_mem hlq))
          have HC0 := Aside0.mk hC0
          have HL0 := Aside0.mk hl0
          have hacc : (fwStep m p (ws.take q)).length ≤ m * q := by have := fwStep_le m p (ws.take q); rwa [List.length_take, Nat.min_eq_left (by omega)] at this
          have HACC := Aside0.mk hacc
          clear hx0 hl0 hC0 hword hacc
          generalize ws[q] = word at *
          generalize hfa : fwStep m p (ws.take q) = acc at *
          have HFA := Aside0.mk hfa
          clear hfa
          go_wp2_with fail
          go_loopw [8, 26] (fun v x wi => ∃ a : Nat, a ≤ m ∧ x = .int .i64 a ∧ Aside0 (MidRel wo (acc ++ ext p word a) v wi)) (fun _ x _ => m - (intOf x).toNat)
          case atStart => exact ⟨0, Nat.zero_le _, rfl, by simpa [ext] using HM⟩
          case round =>
            clear HM
            obtain ⟨a, ha, rfl, HM⟩ := hrel
            generalize wr = wi at *
            by_cases hla : a < m
            · have HLE := Aside0.mk (ext_le p word a)
              have HQ := Aside0.mk (show m * q + m ≤ m * ws.length from by have := Nat.mul_le_mul_left m (show q + 1 ≤ ws.length from hlq); rwa [Nat.mul_add, Nat.mul_one] at this)
              obtain ⟨b, hb_⟩ : ∃ b, p (word ++ [(a : Int)]) = b := ⟨_, rfl⟩
              have HPX := Aside0.mk hb_
              clear hb_
              go_wp2_with ((with_reducible refine gate_dst (N := 29) rfl ?_); refine Aside0.out ?_)
              refine Aside0.mk ?_
              refine Kd.R_lit (Kd.int .i64) _ 3 ?hg (N := 29) ?hd (xs := ([] : List Int)) (inner := []) (ok := fun _ => True) (okp := fun _ => True) ?hr ?hp (fun _ hk => hk) trivial (Below.refl _ _) (Nat.le_refl _) (by simp) ?_
              case hd => rfl
              case hg => rfl
              case hr => first | (go_simp; done) | (go_simp; rfl)
              case hp => exact (Reps.none _ _)
              intro v29 w4 ho4 hb4 _ _
              have HO4 := Aside0.mk ho4
              have HB4 := Aside0.mk hb4
              clear ho4 hb4
              go_wp2_with ((with_reducible refine gate_builtin (b := .append) (xs := #[.tmp 29, .tmp 30]) rfl ?_); refine Aside0.out ?_)
              refine Aside0.mk ?_
              at_builtin
              refine Kd.R_append_rows (Kd.int .i64) (Rr := (Kd.int .i64).K w4) (w0 := wi) wi.heap.size rfl (.tmp 29) (.tmp 30) 36 3 (.int .i64 0) 8 rfl Try.underlying36 info3 rfl (by decide) (by omega) v29 [] word A0 _ c0 (fun _ => True) (fun _ => False) rfl rfl HO4.out ?aR (fun _ _ h => h) (fun _ hk => hk.elim) (fun _ _ => trivial) HB4.out HB4.out.size ?aL ?_
              case aR => exact Kd.C_below HC0.out (below_step HM.out.2 HB4.out)
              case aL => have := HWL.out; simp only [List.length_nil]; omega
              intro v31 w5 ho5 hb5 _ _
              rw [List.nil_append] at ho5
              have HO5 := Aside0.mk ho5
              have HB5 := Aside0.mk hb5
              clear ho5 hb5 HO4 HB4
              go_wp2_with ((with_reducible refine gate_builtin (b := .append) (xs := #[.tmp 31, .tmp 33]) rfl ?_); refine Aside0.out ?_)
              refine Aside0.mk ?_
              at_builtin
              refine Kd.R_append (Kd.int .i64) (w0 := wi) wi.heap.size rfl (.tmp 31) (.tmp 33) 36 3 (.int .i64 0) 8 rfl Try.underlying36 info3 rfl (by decide) (by omega) v31 word (a : Int) [.int .i64 a] (fun _ => True) (fun _ => False) rfl rfl rfl (fun _ hk => hk.elim) (fun _ _ => trivial) HO5.out HB5.out HB5.out.size ?aL ?_
              case aL => have := HWL.out; omega
              intro v34 w6 ho6 hb6 _ _
              generalize hnw : word ++ [(a : Int)] = nw at *
              have HNW := Aside0.mk hnw
              clear hnw
              obtain ⟨A34, c34, rfl⟩ := Kd.R_slice ho6
              have HO6 := Aside0.mk ho6
              have HB6 := Aside0.mk hb6
              clear ho6 hb6 HO5 HB5
              have HCALL := Aside0.mk (HP.out w6 A34 c34 nw (below_step (below_step HB.out HM.out.2) HB6.out) (Kd.R_reads' HO6.out).2.2 (Kd.R_reads' HO6.out).2.1 (by have := HWL.out; rw [← HNW.out, List.length_append, this]; simp; omega))
              rw [HPX.out] at HCALL
              go_wp2_with ((with_reducible refine gate_calleeV (t := 35) rfl ?_); refine Aside0.out ?_)
              refine Aside0.mk ?_
              refine goesV_ (some 37) rfl rfl (t := 35) (f := f) (cap := cap) HF.out hname hbody (#[.slice A34 (nw).length c34] ++ cap) rfl rfl (congrArg (· ++ cap) (by (try simp only [List.map_toArray, List.map_cons, List.map_nil]); first | done | rfl)) ?_
              refine HCALL.out.mono ?_
              rintro e w7 ⟨rfl, hb7⟩
              refine ⟨_, rfl, ?_⟩
              have HB7 := Aside0.mk (below_step HB6.out hb7)
              have HO7 := Aside0.mk (Kd.R_lower (Kd.R_below HO6.out hb7) HM.out.2.size)
              have HBS := Aside0.mk (fun k (hk : (Value.slice A34 (nw).length c34).ownBlock = some k) => Kd.R_base HO6.out k hk)
              have HS7 := Aside0.mk (Kd.S_below (Kd.S_mono (ok' := fun k => wo.heap.size ≤ k ∧ k < wi.heap.size) (Kd.S_bound HM.out.1) (fun k hk => ⟨hk.1, hk.2.2.1⟩)) HB7.out)
              clear HCALL HO6 HB6 hb7
              cases b with
              | false =>
                go_wp2_with fail
                go_roundw
                case rel => exact ⟨a + 1, by omega, by go_num, ⟨by rw [ext_succ, HNW.out, HPX.out]; simpa using Kd.S_mono HS7.out (fun k hk => hk.1), below_step HM.out.2 HB7.out⟩⟩
                case measure => simp [intOf]; omega
              | true =>
                go_wp2_with ((with_reducible refine gate_builtin (b := .append) (xs := #[.tmp 38, .tmp 40]) rfl ?_); refine Aside0.out ?_)
                refine Aside0.mk ?_
                at_builtin
                refine Kd.S_append (Kd.slice 3 (Kd.int .i64)) (w0 := wo) wo.heap.size rfl (.tmp 38) (.tmp 40) 22 36 (.slice none 0 0) 24 rfl Try.underlying22 info36 rfl (by decide) (by omega) _ (acc ++ ext p word a) (nw) [.slice A34 (nw).length c34] (fun k => wo.heap.size ≤ k) (fun k => some k = (Value.slice A34 (nw).length c34).ownBlock) rfl rfl ?aP ?aK ?aF ?aO ?aB ?aS ?aL ?_
                case aP => exact ⟨_, rfl, Kd.R_reok rfl HO7.out (fun k hk => hk.symm)⟩
                case aK => exact fun k hk => ⟨Nat.le_trans HM.out.2.size (HBS.out k hk.symm), fun he => by have h1 := Kd.S_lt HM.out.1 k he.symm; have h2 := HBS.out k hk.symm; omega⟩
                case aF => exact fun k hk => Nat.le_trans (Nat.le_trans HM.out.2.size HB7.out.size) hk
                case aO => exact Kd.S_mono HS7.out (fun k hk => ⟨hk.1, fun he => by have h2 := HBS.out k he.symm; omega⟩)
                case aB => exact below_step HM.out.2 HB7.out
                case aS => exact Nat.le_trans HM.out.2.size HB7.out.size
                case aL => have h1 := HLE.out; have h2 := HACC.out; have h3 := HQ.out; have h4 := HML.out; rw [List.length_append]; omega
                intro v41 w8 ho8 hb8 _ _
                have HO8 := Aside0.mk ho8
                have HB8 := Aside0.mk hb8
                clear ho8 hb8
                go_wp2_with fail
                go_roundw
                case rel => exact ⟨a + 1, by omega, by go_num, ⟨by rw [ext_succ, HNW.out, HPX.out, _root_.if_pos rfl, ← List.append_assoc]; exact HO8.out, HB8.out⟩⟩
                case measure => simp [intOf]; omega
            · have e : a = m := by omega
              subst e
              go_wp2_with fail
              go_roundw
              case rel => exact ⟨q + 1, by omega, by go_num, by rw [HT.out]; exact HM⟩
              case measure => simp [intOf]; omega
        · have e : q = ws.length := by omega
          subst e
          rw [List.take_length] at HM
          go_wp2_with fail
          go_roundw
          case rel => exact ⟨k + 1, by omega, by go_num, ⟨by have h := Kd.S_lower (Kd.S_mono (ok' := fun _ => True) HM.out.1 (fun _ _ => trivial)) HB.out.size; rwa [HWS.out] at h⟩, ⟨below_step HB.out HM.out.2⟩⟩
          case measure => simp [intOf]; omega
    · have e : k = n := by omega
      subst e
      go_wp2
      go_ret
      exact ⟨_, rfl, HO.out, HB.out⟩
end Go.Proofs.Ytooamcjgejajeaa.M
/- Walks for this claim, written by a program of mine over the kit's print. No condition of mine. -/
namespace Go.Proofs.Ytooamcjgejajeaa.M
open Go.RowKit Go.Proofs.Ytooamcjgejajeaa.KW Go.Proofs.YtooamcjgejajeaaW.PrintWords Go.Proofs.YtooamcjgejajeaaW.PrintLast Go.Proofs.YtooamcjgejajeaaW.PrintMore
attribute [local go_sem] max2_int min2_int max_two min_two max_three min_three max_four min_four   -- for this text's walks alone
set_option linter.unusedVariables false
set_option linter.unusedSimpArgs false

/-! ### impl_HasOverlap: function 52 -/
def impl_HasOverlap.l0 : Nat → List Int → Int → Option (Bool)
 | 0, _, _ => none
 | k + 1, x0, x3 => if x3 ≤ (x0.length : Int) then ((impl_longestRepeat.f k x0 x3).bind fun t431 => (if t431 > (wrap64 (2 * x3)) then (some true) else (impl_HasOverlap.l0 k x0 (wrap64 (x3 + 1))))) else (some false)
def impl_HasOverlap.f (k : Nat) (l0 : List Int) : Option (Bool) := if (l0.length : Int) > 128 then (some false) else (impl_HasOverlap.l0 k l0 1)
theorem impl_HasOverlap.mono_l : ∀ k, (∀ y0 y1, LeO (impl_HasOverlap.l0 k y0 y1) (impl_HasOverlap.l0 (k + 1) y0 y1))
 | 0 => fun _ _ r h => by simp [impl_HasOverlap.l0] at h
 | k + 1 => by
  have ih0 := impl_HasOverlap.mono_l k
  ·intro y0 y1
   unfold impl_HasOverlap.l0
   repeat' first
   | (with_reducible exact ih0 _ _)
   | (with_reducible exact impl_longestRepeat.mono _ _ _)
   | (with_reducible exact LeO.refl _)
   | (with_reducible exact LeO.none _)
   | (with_reducible refine LeO.ite ?_ ?_)
   | (with_reducible refine LeO.bind ?_ (fun _ => ?_))
   | exact ih0 _ _
   | exact impl_longestRepeat.mono _ _ _
   | exact LeO.none _
   | refine LeO.ite ?_ ?_
   | refine LeO.bind ?_ (fun _ => ?_)
theorem impl_HasOverlap.mono : ∀ a0 k, LeO (impl_HasOverlap.f k a0) (impl_HasOverlap.f (k + 1) a0) := by
 intro a0 k
 have ih0 := impl_HasOverlap.mono_l k
 unfold impl_HasOverlap.f
 repeat' first
   | (with_reducible exact ih0 _ _)
   | (with_reducible exact impl_longestRepeat.mono _ _ _)
   | (with_reducible exact LeO.refl _)
   | (with_reducible exact LeO.none _)
   | (with_reducible refine LeO.ite ?_ ?_)
   | (with_reducible refine LeO.bind ?_ (fun _ => ?_))
   | exact ih0 _ _
   | exact impl_longestRepeat.mono _ _ _
   | exact LeO.none _
   | refine LeO.ite ?_ ?_
   | refine LeO.bind ?_ (fun _ => ?_)
set_option maxHeartbeats 8000000 in
set_option maxRecDepth 100000 in
theorem impl_HasOverlap.calls (k : Nat) (A0 : Option Addr) (c0 : Nat) (l0 : List Int) (r : Bool) (w : World) (hr0 : Kd.C (Kd.int .i64) w A0 l0.length l0) (hc0 : l0.length ≤ c0) (h : impl_HasOverlap.f k l0 = some r) :
  Calls Try.prog 52 #[.slice A0 l0.length c0] w fun e w' => e = .returned (.bool r) ∧ Below w.heap.size w w' := by
 have HR0 := Aside0.mk hr0
 have HC0 := Aside0.mk hc0
 clear hr0 hc0
 have HB := Aside0.mk (Below.refl w.heap.size w)
 have H : (if (l0.length : Int) > 128 then (some false) else (impl_HasOverlap.l0 k l0 1)) = some r := h
 clear h
 by_cases c2 : (l0.length : Int) > 128
 ·rw [if_pos c2] at H
  have c2b0 : decide (128 < (l0.length : Int)) = true := decide_eq_true c2
  have c2b1 : decide (128 < l0.length) = true := decide_eq_true (by omega)
  clear c2
  obtain rfl := Option.some.inj H
  go_enter Try.func52, Try.ntmps52
  go_wp2
  go_ret
  exact ⟨by first | rfl | (simp [errW_none, errW_some] <;> rfl) | (simp [*, errW_none, errW_some] <;> rfl), by repeat (first | (with_reducible first | exact HB.out | apply below_alloc | apply pw_below_drewN | apply below_drew1) | exact HB.out)⟩
 ·rw [if_neg c2] at H
  have c2b0 : decide (128 < (l0.length : Int)) = false := decide_eq_false c2
  have c2b1 : decide (128 < l0.length) = false := decide_eq_false (by omega)
  clear c2
  have H' := Aside0.mk H
  clear H
  go_enter Try.func52, Try.ntmps52
  go_wp2
  go_loopg [3] k (fun kq v3 w' => ∃ (x3_1 : Int), v3 = .int .i64 x3_1 ∧ Aside0 (impl_HasOverlap.l0 kq l0 x3_1 = some r) ∧ Aside0 (kq ≤ k) ∧ Aside0 (Below w.heap.size w w'))
  case atStart => exact ⟨(1), (by first | rfl | (simp; done) | (simp [*]; done)), H', ⟨Nat.le_refl _⟩, ⟨by repeat (first | (with_reducible first | exact HB.out | apply below_alloc | apply pw_below_drewN | apply below_drew1) | exact HB.out)⟩⟩
  case round =>
   clear H'
   try clear c2
   try clear c2b0
   try clear c2b1
   try clear p2
   obtain ⟨x3_1, rfl, HA, HK1, HB⟩ := hrel
   cases gk with
   | zero => exact absurd HA.out (by simp [impl_HasOverlap.l0])
   | succ k1 =>
    have H := HA.out
    clear HA
    simp only [impl_HasOverlap.l0] at H
    by_cases c3 : x3_1 ≤ (l0.length : Int)
    ·rw [if_pos c3] at H
     have c3b0 : decide (x3_1 ≤ (l0.length : Int)) = true := decide_eq_true c3
     clear c3
     replace H := Option.bind_eq_some_iff.mp H
     obtain ⟨t431, A40, H⟩ := H
     replace H : (if t431 > (wrap64 (2 * x3_1)) then (some true) else (impl_HasOverlap.l0 k1 l0 (wrap64 (x3_1 + 1)))) = some r := H
     have A4 := Aside0.mk A40
     clear A40
     by_cases c5 : t431 > (wrap64 (2 * x3_1))
     ·rw [if_pos c5] at H
      have c5b0 : decide ((wrap64 (2 * x3_1)) < t431) = true := decide_eq_true c5
      clear c5
      obtain rfl := Option.some.inj H
      go_wp2_with (first | ((with_reducible refine gate_callee (f := 124) rfl ?_); refine goesL_ (some 15) rfl rfl Try.func124 (by kernel_rfl) rfl #[.slice A0 l0.length c0, .int .i64 x3_1] rfl (by (try simp only [List.map_toArray, List.map_cons, List.map_nil]); first | done | rfl | (simp only [List.length_drop, List.length_take]; rfl)) ?_; (with_reducible refine (impl_longestRepeat.calls k1 _ _ l0 x3_1 t431 _ ?side1 ?side2 A4.out).mono ?_); (case side1 => repeat (first | exact (Kd.C_below HR0.out HB.out) | (with_reducible refine Kd.C_alloc ?_ _) | (with_reducible refine Kd.C_drewN ?_ _) | (with_reducible refine Kd.C_drew ?_))); (case side2 => exact HC0.out); rintro e w6 ⟨rfl, hb⟩; refine ⟨_, rfl, ?_⟩; have n0_ := Aside0.mk (below_step (by repeat (first | (with_reducible first | exact HB.out | apply below_alloc | apply pw_below_drewN | apply below_drew1) | exact HB.out)) hb); clear HB; have HB := n0_; clear n0_; (try clear hb); (try clear hb2); (try clear hk); (try clear hi)))
      go_ret
      exact ⟨by first | rfl | (simp [errW_none, errW_some] <;> rfl) | (simp [*, errW_none, errW_some] <;> rfl), by repeat (first | (with_reducible first | exact HB.out | apply below_alloc | apply pw_below_drewN | apply below_drew1) | exact HB.out)⟩
     ·rw [if_neg c5] at H
      have c5b0 : decide ((wrap64 (2 * x3_1)) < t431) = false := decide_eq_false c5
      clear c5
      have H' := Aside0.mk H
      clear H
      go_wp2_with (first | ((with_reducible refine gate_callee (f := 124) rfl ?_); refine goesL_ (some 15) rfl rfl Try.func124 (by kernel_rfl) rfl #[.slice A0 l0.length c0, .int .i64 x3_1] rfl (by (try simp only [List.map_toArray, List.map_cons, List.map_nil]); first | done | rfl | (simp only [List.length_drop, List.length_take]; rfl)) ?_; (with_reducible refine (impl_longestRepeat.calls k1 _ _ l0 x3_1 t431 _ ?side1 ?side2 A4.out).mono ?_); (case side1 => repeat (first | exact (Kd.C_below HR0.out HB.out) | (with_reducible refine Kd.C_alloc ?_ _) | (with_reducible refine Kd.C_drewN ?_ _) | (with_reducible refine Kd.C_drew ?_))); (case side2 => exact HC0.out); rintro e w7 ⟨rfl, hb⟩; refine ⟨_, rfl, ?_⟩; have n0_ := Aside0.mk (below_step (by repeat (first | (with_reducible first | exact HB.out | apply below_alloc | apply pw_below_drewN | apply below_drew1) | exact HB.out)) hb); clear HB; have HB := n0_; clear n0_; (try clear hb); (try clear hb2); (try clear hk); (try clear hi)))
      go_roundg k1
      case measure => have := HK1.out; omega
      case rel => exact ⟨(wrap64 (x3_1 + 1)), (by first | rfl | (simp; done) | (simp [*]; done)), H', ⟨by have := HK1.out; omega⟩, ⟨by repeat (first | (with_reducible first | exact HB.out | apply below_alloc | apply pw_below_drewN | apply below_drew1) | exact HB.out)⟩⟩
    ·rw [if_neg c3] at H
     have c3b0 : decide (x3_1 ≤ (l0.length : Int)) = false := decide_eq_false c3
     clear c3
     obtain rfl := Option.some.inj H
     go_wp2
     go_ret
     exact ⟨by first | rfl | (simp [errW_none, errW_some] <;> rfl) | (simp [*, errW_none, errW_some] <;> rfl), by repeat (first | (with_reducible first | exact HB.out | apply below_alloc | apply pw_below_drewN | apply below_drew1) | exact HB.out)⟩

end Go.Proofs.Ytooamcjgejajeaa.M
/- Powers, squares and overlaps in a word: program and reference find the same. No condition. -/
namespace Go.Proofs.Ytooamcjgejajeaa.M
open Go.RowKit Go.Proofs.YtooamcjgejajeaaW.PrintWords Go.Proofs.YtooamcjgejajeaaW.PrintMore Go.Proofs.Ytooamcjgejajeaa.K

/-- L letters from i on are those p further on. -/
def per (w : List Int) (p i L : Nat) : Prop := ∀ t, t < L → i + t + p < w.length ∧ w.getD (i + t) 0 = w.getD (i + t + p) 0
theorem per_zero (w : List Int) (p i : Nat) : per w p i 0 := fun t h => by omega
theorem per_le {w : List Int} {p i L M : Nat} (h : per w p i L) (hm : M ≤ L) : per w p i M := fun t ht => h t (by omega)
theorem per_succ {w : List Int} {p i L : Nat} (h : per w p i L) (h1 : i + L + p < w.length) (h2 : w.getD (i + L) 0 = w.getD (i + L + p) 0) : per w p i (L + 1) := fun t ht => by
  by_cases e : t = L
  · subst e; exact ⟨h1, h2⟩
  · exact h t (by omega)
theorem per_bound {w : List Int} {p i L : Nat} (h : per w p i L) (hl : 0 < L) : i + L + p ≤ w.length := by
  have := (h (L - 1) (by omega)).1
  omega
theorem rd_nat (xs : List Int) (n : Int) (i : Nat) (h : n = (i : Int)) : rd xs n = xs.getD i 0 := by rw [h, rd_at]

theorem l10_ev (w : List Int) (i p : Nat) (hp : 1 ≤ p) (hw : w.length ≤ 1048576) (hip : i + p < w.length) : ∃ M : Nat, per w p i M ∧ ¬ per w p i (M + 1) ∧ Ev (fun k => spec_l10Match.f k w (i : Int) (p : Int)) ((p + M : Nat) : Int) := by
  have key : ∀ d t, i + p + t + d = w.length → per w p i t → ∃ M : Nat, per w p i M ∧ ¬ per w p i (M + 1) ∧ Ev (fun k => spec_l10Match.l0 k w (i : Int) (p : Int) ((p + t : Nat) : Int)) ((p + M : Nat) : Int) := by
    intro d
    induction d with
    | zero =>
      intro t hd ht
      refine ⟨t, ht, fun h => by have := per_bound h (by omega); omega, ?_⟩
      refine Ev.step (fun k => by simp only [spec_l10Match.l0]; rw [w_id (by omega) (by omega), _root_.if_neg (by omega)]) (Ev.same (Ev.some _) ?_)
      unfold mn; rw [w_id (by omega) (by omega)]; split <;> omega
    | succ d ih =>
      intro t hd ht
      by_cases q : w.getD (i + t) 0 = w.getD (i + t + p) 0
      · obtain ⟨M, h1, h2, h3⟩ := ih (t + 1) (by omega) (per_succ ht (by omega) q)
        refine ⟨M, h1, h2, ?_⟩
        refine Ev.step (fun k => by
          simp only [spec_l10Match.l0]
          rw [w_id (a := (i : Int) + ((p + t : Nat) : Int)) (by omega) (by omega), w_id (a := (i : Int) + ((p + t : Nat) : Int) - (p : Int)) (by omega) (by omega), _root_.if_pos (by omega), _root_.if_pos (by omega), _root_.if_pos (by omega), _root_.if_pos (by omega),
            _root_.if_pos (by rw [rd_nat w _ (i + t + p) (by omega), rd_nat w _ (i + t) (by omega), q]), wsucc (by omega)]; rfl) h3
      · refine ⟨t, ht, fun h => q (h t (by omega)).2, ?_⟩
        refine Ev.step (fun k => by
          simp only [spec_l10Match.l0]
          rw [w_id (a := (i : Int) + ((p + t : Nat) : Int)) (by omega) (by omega), w_id (a := (i : Int) + ((p + t : Nat) : Int) - (p : Int)) (by omega) (by omega), _root_.if_pos (by omega), _root_.if_pos (by omega), _root_.if_pos (by omega), _root_.if_pos (by omega),
            _root_.if_neg (by rw [rd_nat w _ (i + t + p) (by omega), rd_nat w _ (i + t) (by omega)]; exact fun e => q e.symm)]) (Ev.same (Ev.some _) ?_)
        unfold mn; rw [w_id (by omega) (by omega)]; split <;> omega
  obtain ⟨M, h1, h2, h3⟩ := key (w.length - (i + p)) 0 (by omega) (per_zero _ _ _)
  exact ⟨M, h1, h2, h3⟩

theorem longest_ev (w : List Int) (p : Nat) (hp : 1 ≤ p) (hw : w.length ≤ 1048576) (hpl : p ≤ w.length) : ∃ M : Nat, M ≤ w.length ∧ (∃ i, per w p i M) ∧ (∀ i L, per w p i L → L ≤ M) ∧ Ev (fun k => impl_longestRepeat.f k w (p : Int)) ((M + p : Nat) : Int) := by
  have key : ∀ d i b c : Nat, i + p + d = w.length → c ≤ i → per w p (i - c) c → (∀ j L, j + L = i → per w p j L → L ≤ c) → (∃ j, per w p j b) → (∀ j L, j + L ≤ i → per w p j L → L ≤ b) → b ≤ i →
      ∃ M : Nat, M ≤ w.length ∧ (∃ i, per w p i M) ∧ (∀ i L, per w p i L → L ≤ M) ∧ Ev (fun k => impl_longestRepeat.l0 k w (p : Int) (b : Int) (c : Int) (i : Int)) ((M + p : Nat) : Int) := by
    intro d
    induction d with
    | zero =>
      intro i b c hd hci h1 h2 h3 h4 hbi
      refine ⟨b, by omega, h3, fun j L h => ?_, ?_⟩
      · by_cases hL : L = 0
        · omega
        · exact h4 j L (by have := per_bound h (by omega); omega) h
      · refine Ev.step (fun k => by simp only [impl_longestRepeat.l0]; rw [w_id (a := (i : Int) + (p : Int)) (by omega) (by omega), _root_.if_neg (by omega)]) (Ev.same (Ev.some _) ?_)
        rw [w_id (by omega) (by omega)]; omega
    | succ d ih =>
      intro i b c hd hci h1 h2 h3 h4 hbi
      by_cases q : w.getD i 0 = w.getD (i + p) 0
      · have hc1 : per w p (i + 1 - (c + 1)) (c + 1) := by
          rw [show i + 1 - (c + 1) = i - c from by omega]
          exact per_succ h1 (by omega) (by rw [show i - c + c = i from by omega]; exact q)
        have hc2 : ∀ j L, j + L = i + 1 → per w p j L → L ≤ c + 1 := fun j L hj h => by
          by_cases hL : L = 0
          · omega
          · have := h2 j (L - 1) (by omega) (per_le h (by omega)); omega
        obtain ⟨M, g0, g1, g2, g3⟩ := ih (i + 1) (if b < c + 1 then c + 1 else b) (c + 1) (by omega) (by omega) hc1 hc2
          (by split <;> first | exact h3 | exact ⟨_, hc1⟩)
          (fun j L hj h => by
            by_cases e : j + L = i + 1
            · have := hc2 j L e h; split <;> omega
            · have := h4 j L (by omega) h; split <;> omega) (by split <;> omega)
        refine ⟨M, g0, g1, g2, ?_⟩
        refine Ev.step (fun k => by
          simp only [impl_longestRepeat.l0]
          rw [w_id (a := (i : Int) + (p : Int)) (by omega) (by omega), _root_.if_pos (by omega), _root_.if_pos (by omega), _root_.if_pos (by omega), _root_.if_pos (by omega),
            _root_.if_pos (by rw [rd_at, rd_nat w _ (i + p) (by omega), q]), wsucc (by omega), wsucc (by omega),
            show mx (b : Int) ((c + 1 : Nat) : Int) = ((if b < c + 1 then c + 1 else b : Nat) : Int) from by unfold mx; split <;> split <;> omega]) g3
      · have hc2 : ∀ j L, j + L = i + 1 → per w p j L → L = 0 := fun j L hj h => by
          by_cases hL : L = 0
          · exact hL
          · have := (h (L - 1) (by omega)).2
            rw [show j + (L - 1) = i from by omega] at this
            exact absurd this q
        obtain ⟨M, g0, g1, g2, g3⟩ := ih (i + 1) b 0 (by omega) (by omega) (per_zero _ _ _) (fun j L hj h => by have := hc2 j L hj h; omega) h3
          (fun j L hj h => by
            by_cases e : j + L = i + 1
            · have := hc2 j L e h; omega
            · exact h4 j L (by omega) h) (by omega)
        refine ⟨M, g0, g1, g2, ?_⟩
        refine Ev.step (fun k => by
          simp only [impl_longestRepeat.l0]
          rw [w_id (a := (i : Int) + (p : Int)) (by omega) (by omega), _root_.if_pos (by omega), _root_.if_pos (by omega), _root_.if_pos (by omega), _root_.if_pos (by omega),
            _root_.if_neg (by rw [rd_at, rd_nat w _ (i + p) (by omega)]; exact q), wsucc (by omega)]; rfl) g3
  have := key (w.length - p) 0 0 0 (by omega) (Nat.le_refl _) (per_zero _ _ _) (fun j L h _ => by omega) ⟨0, per_zero _ _ _⟩ (fun j L h _ => by omega) (Nat.le_refl _)
  exact this

/-- There is a part that is long enough against one of its periods. -/
def PW (w : List Int) (a b : Nat) : Prop := w.length ≤ 128 ∧ ∃ i p L, 1 ≤ p ∧ i + p < w.length ∧ per w p i L ∧ p * a ≤ (p + L) * b
open Classical in
noncomputable def hasPower (w : List Int) (a b : Nat) : Bool := decide (PW w a b)
open Classical in
theorem hasPower_iff (w : List Int) (a b : Nat) : hasPower w a b = true ↔ PW w a b := by unfold hasPower; exact decide_eq_true_iff
theorem hasPower_no (w : List Int) (a b : Nat) (h : ¬ PW w a b) : hasPower w a b = false := Bool.eq_false_iff.2 (fun q => h ((hasPower_iff w a b).1 q))
def OV (w : List Int) : Prop := w.length ≤ 128 ∧ ∃ i p L, 1 ≤ p ∧ per w p i L ∧ p < L
open Classical in
noncomputable def hasOverlap (w : List Int) : Bool := decide (OV w)
open Classical in
theorem hasOverlap_iff (w : List Int) : hasOverlap w = true ↔ OV w := by unfold hasOverlap; exact decide_eq_true_iff
theorem hasOverlap_no (w : List Int) (h : ¬ OV w) : hasOverlap w = false := Bool.eq_false_iff.2 (fun q => h ((hasOverlap_iff w).1 q))

theorem l1In_val (a b c : Int) : spec_l1In.f a b c = some (decide (b ≤ a ∧ a ≤ c)) := by
  unfold spec_l1In.f
  by_cases q : a ≥ b
  · rw [_root_.if_pos q]; simp [q]
  · rw [_root_.if_neg q]; simp; omega

theorem specPower_ev (w : List Int) (a b : Nat) (ha : 2 ≤ a ∧ a ≤ 20) (hb : 1 ≤ b ∧ b < a) (hw : w.length ≤ 1048576) : Ev (fun k => spec_HasPower.f k w (a : Int) (b : Int)) (hasPower w a b) := by
  unfold spec_HasPower.f
  refine Ev.bind (Ev.val (l1In_val _ _ _)) ?_
  rw [decide_eq_true (by omega)]
  refine Ev.if_pos rfl ?_
  refine Ev.bind (Ev.val (l1In_val _ _ _)) ?_
  rw [w_id (by omega) (by omega), decide_eq_true (by omega)]
  refine Ev.step (fun k => by simp only [spec_HasPower.j0]; rw [_root_.if_neg (by decide)]) ?_
  by_cases h128 : w.length ≤ 128
  · have inner : ∀ (i : Nat) (r : Bool), i < w.length → (r = true → PW w a b) → ((∀ p L, 1 ≤ p → i + p < w.length → per w p i L → ¬ p * a ≤ (p + L) * b) → Ev (fun k => spec_HasPower.l0 k w (a : Int) (b : Int) ((i + 1 : Nat) : Int)) r) → (r = false → ∀ p L, 1 ≤ p → i + p < w.length → per w p i L → ¬ p * a ≤ (p + L) * b) →
        ∀ d p, p + d = w.length → 1 ≤ p → (∀ q L, 1 ≤ q → q < p → i + q < w.length → per w q i L → ¬ q * a ≤ (q + L) * b) → Ev (fun k => spec_HasPower.l1 k w (a : Int) (b : Int) (i : Int) (p : Int)) r := by
      intro i r hi hr0 hr hr1 d
      induction d with
      | zero =>
        intro p hpd hp hno
        refine Ev.step (fun k => by simp only [spec_HasPower.l1]; rw [w_id (a := (i : Int) + (p : Int)) (by omega) (by omega), _root_.if_neg (by omega), wsucc (by omega)]) (hr (fun q L h1 h2 h3 => hno q L h1 (by omega) h2 h3))
      | succ d ih =>
        intro p hpd hp hno
        by_cases q : i + p < w.length
        · obtain ⟨M, g1, g2, g3⟩ := l10_ev w i p hp hw q
          refine Ev.step (fun k => by simp only [spec_HasPower.l1]; rw [w_id (a := (i : Int) + (p : Int)) (by omega) (by omega), _root_.if_pos (by omega)]) ?_
          have hMw : M ≤ w.length := by
            by_cases e : M = 0
            · omega
            · have := per_bound g1 (by omega); omega
          refine Ev.bind g3 ?_
          have e1 : wrap64 (((p + M : Nat) : Int) * (b : Int)) = (((p + M) * b : Nat) : Int) := by
            have h2 : (p + M) * b ≤ 256 * 20 := Nat.mul_le_mul (show p + M ≤ 256 from by omega) (show b ≤ 20 from by omega)
            have h3 : (p + M) * b ≤ 100000 := Nat.le_trans h2 (by decide)
            clear h2
            rw [← Int.natCast_mul]; exact w_id (by omega) (by omega)
          have e2 : wrap64 ((p : Int) * (a : Int)) = ((p * a : Nat) : Int) := by
            have h2 : p * a ≤ 256 * 20 := Nat.mul_le_mul (show p ≤ 256 from by omega) (show a ≤ 20 from by omega)
            have h3 : p * a ≤ 100000 := Nat.le_trans h2 (by decide)
            clear h2
            rw [← Int.natCast_mul]; exact w_id (by omega) (by omega)
          rw [e1, e2]
          refine Ev.ite (fun c => ?_) (fun c => ?_)
          · refine Ev.same (Ev.some true) ?_
            cases r with
            | true => rfl
            | false => exact absurd (Int.ofNat_le.1 c) (hr1 rfl p M hp q g1)
          · refine Ev.congr (fun k => by rw [wsucc (by omega)]) (ih (p + 1) (by omega) (by omega) (fun q' L h1 h2 h3 h4 h5 => ?_))
            by_cases e : q' = p
            · subst e
              have hLM : L ≤ M := by
                rcases Nat.lt_or_ge M L with hlt | hge
                · exact absurd (per_le h4 (show M + 1 ≤ L from hlt)) g2
                · exact hge
              exact c (Int.ofNat_le.2 (Nat.le_trans h5 (Nat.mul_le_mul_right b (Nat.add_le_add_left hLM q'))))
            · exact hno q' L h1 (by omega) h3 h4 h5
        · refine Ev.step (fun k => by simp only [spec_HasPower.l1]; rw [w_id (a := (i : Int) + (p : Int)) (by omega) (by omega), _root_.if_neg (by omega), wsucc (by omega)]) (hr (fun q' L h1 h2 h3 => hno q' L h1 (by omega) h2 h3))
    have outer : ∀ r : Bool, (r = true ↔ PW w a b) → ∀ i, i ≤ w.length → (∀ j p L, j < i → 1 ≤ p → j + p < w.length → per w p j L → ¬ p * a ≤ (p + L) * b) → Ev (fun k => spec_HasPower.l0 k w (a : Int) (b : Int) (i : Int)) r := by
      intro r hr
      refine down w.length ?_ ?_
      · intro hno
        refine Ev.step (fun k => by simp only [spec_HasPower.l0]; rw [_root_.if_neg (by omega)]) ?_
        refine Ev.step (fun k => by simp only [spec_HasPower.j2]; rw [_root_.if_neg (by decide)]) (Ev.same (Ev.some false) ?_)
        cases r with
        | false => rfl
        | true =>
          obtain ⟨_, i, p, L, h1, h2, h3, h4⟩ := hr.1 rfl
          exact absurd h4 (hno i p L (by omega) h1 h2 h3)
      · intro i hi ih hno
        refine Ev.step (fun k => by simp only [spec_HasPower.l0]; rw [_root_.if_pos (by omega), decide_eq_true (by omega)]) ?_
        refine Ev.step (fun k => by simp only [spec_HasPower.j2]; rw [_root_.if_pos trivial]) ?_
        refine inner i r hi (fun e => hr.1 e) (fun h => ih (fun j p L hj h1 h2 h3 => ?_)) (fun e p L h1 h2 h3 h4 => ?_) (w.length - 1) 1 (by omega) (Nat.le_refl _) (fun q L h1 h2 => by omega)
        · by_cases e : j = i
          · subst e; exact h p L h1 h2 h3
          · exact hno j p L (by omega) h1 h2 h3
        · have := hr.2 ⟨h128, i, p, L, h1, h2, h3, h4⟩; rw [e] at this; cases this
    exact outer _ (hasPower_iff w a b) 0 (by omega) (fun j p L h => by omega)
  · have hf : hasPower w a b = false := hasPower_no _ _ _ (fun h => h128 h.1)
    rw [hf]
    refine Ev.step (fun k => by simp only [spec_HasPower.l0]; rw [_root_.if_pos (by omega), decide_eq_false (by omega)]) ?_
    exact Ev.step (fun k => by simp only [spec_HasPower.j2]; rw [_root_.if_neg (by decide)]) (Ev.some _)

theorem implPower_ev (w : List Int) (a b : Nat) (ha : 2 ≤ a ∧ a ≤ 20) (hb : 1 ≤ b ∧ b < a) (hw : w.length ≤ 1048576) : Ev (fun k => impl_HasPower.f k w (a : Int) (b : Int)) (hasPower w a b) := by
  unfold impl_HasPower.f
  refine Ev.ite (fun h => ?_) (fun h => ?_)
  · have hf : hasPower w a b = false := hasPower_no _ _ _ (fun h => by have := h.1; omega)
    rw [hf]
    exact Ev.step (fun k => by simp only [impl_HasPower.j0]; rw [_root_.if_pos trivial]) (Ev.some _)
  · refine Ev.if_neg (by omega) (Ev.if_neg (by omega) (Ev.if_neg (by omega) ?_))
    rw [decide_eq_false (by omega)]
    refine Ev.step (fun k => by simp only [impl_HasPower.j0]; rw [_root_.if_neg (by decide)]) ?_
    have key : ∀ r : Bool, (r = true ↔ PW w a b) → ∀ d p, p + d = w.length + 1 → 1 ≤ p → (∀ q i L, 1 ≤ q → q < p → i + q < w.length → per w q i L → ¬ q * a ≤ (q + L) * b) → Ev (fun k => impl_HasPower.l0 k w (a : Int) (b : Int) (p : Int)) r := by
      intro r hr d
      induction d with
      | zero =>
        intro p hpd hp hno
        refine Ev.step (fun k => by simp only [impl_HasPower.l0]; rw [_root_.if_neg (by omega)]) (Ev.same (Ev.some false) ?_)
        cases r with
        | false => rfl
        | true =>
          obtain ⟨_, i, p', L, h1, h2, h3, h4⟩ := hr.1 rfl
          exact absurd h4 (hno p' i L h1 (by omega) h2 h3)
      | succ d ih =>
        intro p hpd hp hno
        obtain ⟨M, g0, ⟨i, g1⟩, g2, g3⟩ := longest_ev w p hp hw (by omega)
        refine Ev.step (fun k => by simp only [impl_HasPower.l0]; rw [_root_.if_pos (by omega)]) ?_
        refine Ev.bind g3 ?_
        have e1 : wrap64 (((M + p : Nat) : Int) * (b : Int)) = (((M + p) * b : Nat) : Int) := by
          have h2 : (M + p) * b ≤ 400 * 20 := Nat.mul_le_mul (show M + p ≤ 400 from by omega) (show b ≤ 20 from by omega)
          have h3 : (M + p) * b ≤ 100000 := Nat.le_trans h2 (by decide)
          clear h2
          rw [← Int.natCast_mul]; exact w_id (by omega) (by omega)
        have e2 : wrap64 ((a : Int) * (p : Int)) = ((p * a : Nat) : Int) := by
          have h2 : p * a ≤ 256 * 20 := Nat.mul_le_mul (show p ≤ 256 from by omega) (show a ≤ 20 from by omega)
          have h3 : p * a ≤ 100000 := Nat.le_trans h2 (by decide)
          clear h2
          rw [Int.mul_comm, ← Int.natCast_mul]; exact w_id (by omega) (by omega)
        rw [e1, e2]
        refine Ev.ite (fun c => ?_) (fun c => ?_)
        · refine Ev.same (Ev.some true) ?_
          symm; refine hr.2 ⟨by omega, ?_⟩
          by_cases hM : M = 0
          · subst hM
            have h7 := Nat.mul_lt_mul_of_pos_left hb.2 (show 0 < p from hp)
            rw [Nat.zero_add] at c
            exact absurd (Int.ofNat_le.1 c) (Nat.not_le.2 h7)
          · have := per_bound g1 (by omega)
            exact ⟨i, p, M, hp, by omega, g1, by rw [Nat.add_comm p M]; exact Int.ofNat_le.1 c⟩
        · refine Ev.congr (fun k => by rw [wsucc (by omega)]) (ih (p + 1) (by omega) (by omega) (fun q' j L h1 h2 h3 h4 h5 => ?_))
          by_cases e : q' = p
          · subst e
            exact c (Int.ofNat_le.2 (Nat.le_trans h5 (Nat.mul_le_mul_right b (by rw [Nat.add_comm M]; exact Nat.add_le_add_left (g2 j L h4) q'))))
          · exact hno q' j L h1 (by omega) h3 h4 h5
    exact key _ (hasPower_iff w a b) w.length 1 (by omega) (Nat.le_refl _) (fun q i L h1 h2 => by omega)

theorem specSquare_ev (w : List Int) (hw : w.length ≤ 1048576) : Ev (fun k => spec_HasSquare.f k w) (hasPower w 2 1) := by
  unfold spec_HasSquare.f; exact Ev.bind (specPower_ev w 2 1 (by omega) (by omega) hw) (Ev.some _)
theorem implSquare_ev (w : List Int) (hw : w.length ≤ 1048576) : Ev (fun k => impl_HasSquare.f k w) (hasPower w 2 1) := by
  unfold impl_HasSquare.f; exact Ev.bind (implPower_ev w 2 1 (by omega) (by omega) hw) (Ev.some _)

theorem implOverlap_ev (w : List Int) (hw : w.length ≤ 1048576) : Ev (fun k => impl_HasOverlap.f k w) (hasOverlap w) := by
  unfold impl_HasOverlap.f
  refine Ev.ite (fun h => ?_) (fun h => ?_)
  · have hf : hasOverlap w = false := hasOverlap_no _ (fun h => by have := h.1; omega)
    rw [hf]; exact Ev.some _
  · have key : ∀ r : Bool, (r = true ↔ OV w) → ∀ d p, p + d = w.length + 1 → 1 ≤ p → (∀ q i L, 1 ≤ q → q < p → per w q i L → ¬ q < L) → Ev (fun k => impl_HasOverlap.l0 k w (p : Int)) r := by
      intro r hr d
      induction d with
      | zero =>
        intro p hpd hp hno
        refine Ev.step (fun k => by simp only [impl_HasOverlap.l0]; rw [_root_.if_neg (by omega)]) (Ev.same (Ev.some false) ?_)
        cases r with
        | false => rfl
        | true =>
          obtain ⟨_, i, p', L, h1, h3, h4⟩ := hr.1 rfl
          exact absurd h4 (hno p' i L h1 (by have := per_bound h3 (by omega); omega) h3)
      | succ d ih =>
        intro p hpd hp hno
        obtain ⟨M, g0, ⟨i, g1⟩, g2, g3⟩ := longest_ev w p hp hw (by omega)
        refine Ev.step (fun k => by simp only [impl_HasOverlap.l0]; rw [_root_.if_pos (by omega)]) ?_
        refine Ev.bind g3 ?_
        rw [w_id (a := 2 * (p : Int)) (by omega) (by omega)]
        refine Ev.ite (fun c => ?_) (fun c => ?_)
        · refine Ev.same (Ev.some true) ?_
          symm; exact hr.2 ⟨by omega, i, p, M, hp, g1, by omega⟩
        · refine Ev.congr (fun k => by rw [wsucc (by omega)]) (ih (p + 1) (by omega) (by omega) (fun q' j L h1 h2 h4 h5 => ?_))
          by_cases e : q' = p
          · subst e
            have := g2 j L h4
            omega
          · exact hno q' j L h1 (by omega) h4 h5
    exact key _ (hasOverlap_iff w) w.length 1 (by omega) (Nat.le_refl _) (fun q i L h1 h2 => by omega)

theorem specOverlap_ev (w : List Int) (hw : w.length ≤ 1048576) : Ev (fun k => spec_HasOverlap.f k w) (hasOverlap w) := by
  unfold spec_HasOverlap.f
  by_cases h128 : w.length ≤ 128
  · have inner : ∀ (i : Nat) (r : Bool), i < w.length → ((∀ p L, 1 ≤ p → per w p i L → ¬ p < L) → Ev (fun k => spec_HasOverlap.l0 k w ((i + 1 : Nat) : Int)) r) → (r = false → ∀ p L, 1 ≤ p → per w p i L → ¬ p < L) →
        ∀ d p, p + d = w.length → 1 ≤ p → (∀ q L, 1 ≤ q → q < p → per w q i L → ¬ q < L) → Ev (fun k => spec_HasOverlap.l1 k w (i : Int) (p : Int)) r := by
      intro i r hi hr hr1 d
      have big : ∀ q L, w.length ≤ i + 2 * q → per w q i L → ¬ q < L := fun q L h1 h2 h3 => by have := per_bound h2 (by omega); omega
      induction d with
      | zero =>
        intro p hpd hp hno
        refine Ev.step (fun k => by simp only [spec_HasOverlap.l1]; rw [w_id (a := 2 * (p : Int)) (by omega) (by omega), w_id (a := (i : Int) + (2 * (p : Int))) (by omega) (by omega), _root_.if_neg (by omega), wsucc (by omega)]) (hr (fun q L h1 h3 => ?_))
        by_cases e : q < p
        · exact hno q L h1 e h3
        · exact big q L (by omega) h3
      | succ d ih =>
        intro p hpd hp hno
        by_cases q : i + 2 * p < w.length
        · obtain ⟨M, g1, g2, g3⟩ := l10_ev w i p hp hw (by omega)
          refine Ev.step (fun k => by simp only [spec_HasOverlap.l1]; rw [w_id (a := 2 * (p : Int)) (by omega) (by omega), w_id (a := (i : Int) + (2 * (p : Int))) (by omega) (by omega), _root_.if_pos (by omega)]) ?_
          refine Ev.bind g3 ?_
          refine Ev.ite (fun c => ?_) (fun c => ?_)
          · refine Ev.same (Ev.some true) ?_
            cases r with
            | true => rfl
            | false => exact absurd (show p < M by omega) (hr1 rfl p M hp g1)
          · refine Ev.congr (fun k => by rw [wsucc (by omega)]) (ih (p + 1) (by omega) (by omega) (fun q' L h1 h2 h4 h5 => ?_))
            by_cases e : q' = p
            · subst e
              rcases Nat.lt_or_ge M L with hlt | hge
              · exact absurd (per_le h4 (show M + 1 ≤ L from hlt)) g2
              · omega
            · exact hno q' L h1 (by omega) h4 h5
        · refine Ev.step (fun k => by simp only [spec_HasOverlap.l1]; rw [w_id (a := 2 * (p : Int)) (by omega) (by omega), w_id (a := (i : Int) + (2 * (p : Int))) (by omega) (by omega), _root_.if_neg (by omega), wsucc (by omega)]) (hr (fun q' L h1 h3 => ?_))
          by_cases e : q' < p
          · exact hno q' L h1 e h3
          · exact big q' L (by omega) h3
    have outer : ∀ r : Bool, (r = true ↔ OV w) → ∀ i, i ≤ w.length → (∀ j p L, j < i → 1 ≤ p → per w p j L → ¬ p < L) → Ev (fun k => spec_HasOverlap.l0 k w (i : Int)) r := by
      intro r hr
      refine down w.length ?_ ?_
      · intro hno
        refine Ev.step (fun k => by simp only [spec_HasOverlap.l0]; rw [_root_.if_neg (by omega)]) ?_
        refine Ev.step (fun k => by simp only [spec_HasOverlap.j1]; rw [_root_.if_neg (by decide)]) (Ev.same (Ev.some false) ?_)
        cases r with
        | false => rfl
        | true =>
          obtain ⟨_, i, p, L, h1, h3, h4⟩ := hr.1 rfl
          exact absurd h4 (hno i p L (by have := per_bound h3 (by omega); omega) h1 h3)
      · intro i hi ih hno
        refine Ev.step (fun k => by simp only [spec_HasOverlap.l0]; rw [_root_.if_pos (by omega), decide_eq_true (by omega)]) ?_
        refine Ev.step (fun k => by simp only [spec_HasOverlap.j1]; rw [_root_.if_pos trivial]) ?_
        refine inner i r hi (fun h => ih (fun j p L hj h1 h3 => ?_)) (fun e p L h1 h3 h4 => ?_) (w.length - 1) 1 (by omega) (Nat.le_refl _) (fun q L h1 h2 => by omega)
        · by_cases e : j = i
          · subst e; exact h p L h1 h3
          · exact hno j p L (by omega) h1 h3
        · have := hr.2 ⟨h128, i, p, L, h1, h3, h4⟩; rw [e] at this; cases this
    exact outer _ (hasOverlap_iff w) 0 (by omega) (fun j p L h => by omega)
  · have hf : hasOverlap w = false := hasOverlap_no _ (fun h => h128 h.1)
    rw [hf]
    refine Ev.step (fun k => by simp only [spec_HasOverlap.l0]; rw [_root_.if_pos (by omega), decide_eq_false (by omega)]) ?_
    exact Ev.step (fun k => by simp only [spec_HasOverlap.j1]; rw [_root_.if_neg (by decide)]) (Ev.some _)
end Go.Proofs.Ytooamcjgejajeaa.M
/- Walks for this claim, written by a program of mine over the kit's print. No condition of mine. -/
namespace Go.Proofs.Ytooamcjgejajeaa.M
open Go.RowKit Go.Proofs.Ytooamcjgejajeaa.KW Go.Proofs.YtooamcjgejajeaaW.PrintWords Go.Proofs.YtooamcjgejajeaaW.PrintLast Go.Proofs.YtooamcjgejajeaaW.PrintMore
attribute [local go_sem] max2_int min2_int max_two min_two max_three min_three max_four min_four   -- for this text's walks alone
set_option linter.unusedVariables false
set_option linter.unusedSimpArgs false

/-! ### laws_markIntS: function 29 -/
def laws_markIntS.l0 : Nat → List Int → Int → Int → Option (Int × List Int)
 | 0, _, _, _ => none
 | k + 1, x0, x1, x5 => if x5 < (x0.length : Int) then (if 0 ≤ x5 then (laws_markIntS.l0 k (x0.set (x5 : Int).toNat x1) (wrap64 (x1 + 1)) (wrap64 (x5 + 1))) else (none)) else (some (x1, x0))
def laws_markIntS.f (k : Nat) (l0 : List Int) (a1 : Int) : Option (Int × List Int) := laws_markIntS.l0 k l0 a1 0
theorem laws_markIntS.mono_l : ∀ k, (∀ y0 y1 y2, LeO (laws_markIntS.l0 k y0 y1 y2) (laws_markIntS.l0 (k + 1) y0 y1 y2))
 | 0 => fun _ _ _ r h => by simp [laws_markIntS.l0] at h
 | k + 1 => by
  have ih0 := laws_markIntS.mono_l k
  ·intro y0 y1 y2
   unfold laws_markIntS.l0
   repeat' first
   | (with_reducible exact ih0 _ _ _)
   | (with_reducible exact LeO.refl _)
   | (with_reducible exact LeO.none _)
   | (with_reducible refine LeO.ite ?_ ?_)
   | (with_reducible refine LeO.bind ?_ (fun _ => ?_))
   | exact ih0 _ _ _
   | exact LeO.none _
   | refine LeO.ite ?_ ?_
   | refine LeO.bind ?_ (fun _ => ?_)
theorem laws_markIntS.mono : ∀ a0 a1 k, LeO (laws_markIntS.f k a0 a1) (laws_markIntS.f (k + 1) a0 a1) := by
 intro a0 a1 k
 have ih0 := laws_markIntS.mono_l k
 unfold laws_markIntS.f
 repeat' first
   | (with_reducible exact ih0 _ _ _)
   | (with_reducible exact LeO.refl _)
   | (with_reducible exact LeO.none _)
   | (with_reducible refine LeO.ite ?_ ?_)
   | (with_reducible refine LeO.bind ?_ (fun _ => ?_))
   | exact ih0 _ _ _
   | exact LeO.none _
   | refine LeO.ite ?_ ?_
   | refine LeO.bind ?_ (fun _ => ?_)
set_option maxHeartbeats 8000000 in
set_option maxRecDepth 100000 in
theorem laws_markIntS.calls (k : Nat) (P0_ : Nat → Prop) (u9000_ : Value) (l0 : List Int) (a1 : Int) (r1 : Int) (r2 : List Int) (w0 w : World) (hB : Below w0.heap.size w0 w) (ho0 : Kd.R (Kd.int .i64) 3 w w0.heap.size P0_ u9000_ l0) (h : laws_markIntS.f k l0 a1 = some (r1, r2)) :
  Calls Try.prog 29 #[u9000_, .int .i64 a1] w fun e w' => e = .returned (.int .i64 r1) ∧ Kd.R (Kd.int .i64) 3 w' w0.heap.size (fun k_ => (P0_ k_ ∨ w.heap.size ≤ k_)) u9000_ r2 ∧ Below w0.heap.size w0 w' ∧ Kept w w' (fun k_ => P0_ k_) := by
 have HO0 := Aside0.mk (show Kd.R (Kd.int .i64) 3 w w0.heap.size (fun k_ => (P0_ k_ ∨ w.heap.size ≤ k_)) u9000_ l0 from Kd.R_mono ho0 (fun k_ hk => (.inl hk)))
 have HK := Aside0.mk (Kept.refl w (fun k_ => P0_ k_))
 have HW0 := Aside0.mk hB.size
 have HB := Aside0.mk hB
 clear hB
 have H : (laws_markIntS.l0 k l0 a1 0) = some (r1, r2) := h
 clear h
 have H' := Aside0.mk H
 clear H
 go_enter Try.func29, Try.ntmps29
 go_wp2
 go_loopg [1, 5] k (fun kq v1 v5 w' => ∃ (x0_1 : List Int) (x1_1 : Int) (x5_1 : Int), v1 = .int .i64 x1_1 ∧ v5 = .int .i64 x5_1 ∧ Aside0 (laws_markIntS.l0 kq x0_1 x1_1 x5_1 = some (r1, r2)) ∧ Aside0 (kq ≤ k) ∧ Aside0 (Kd.R (Kd.int .i64) 3 w' w0.heap.size (fun k_ => (P0_ k_ ∨ w.heap.size ≤ k_)) u9000_ x0_1) ∧ Aside0 (Kept w w' (fun k_ => P0_ k_)) ∧ Aside0 (Below w0.heap.size w0 w'))
 case atStart => exact ⟨(l0), (a1), (0), (by first | rfl | (simp; done) | (simp [*]; done)), (by first | rfl | (simp; done) | (simp [*]; done)), H', ⟨Nat.le_refl _⟩, ⟨by (with_reducible repeat (first | apply Kd.R_alloc | apply Kd.R_drewN | apply Kd.R_drew)); exact HO0.out⟩, ⟨by repeat (first | (with_reducible first | exact HK.out | apply Kept.alloc | apply Kept.drewN | apply Kept.drew) | exact HK.out)⟩, ⟨by repeat (first | (with_reducible first | exact HB.out | apply below_alloc | apply pw_below_drewN | apply below_drew1) | exact HB.out)⟩⟩
 case round =>
  clear H'
  try clear c2
  try clear p2
  obtain ⟨x0_1, x1_1, x5_1, rfl, rfl, HA, HK1, HO_0, HK, HB⟩ := hrel
  cases gk with
  | zero => exact absurd HA.out (by simp [laws_markIntS.l0])
  | succ k1 =>
   have H := HA.out
   clear HA
   simp only [laws_markIntS.l0] at H
   by_cases c3 : x5_1 < (x0_1.length : Int)
   ·rw [if_pos c3] at H
    have c3b0 : decide (x5_1 < (x0_1.length : Int)) = true := decide_eq_true c3
    clear c3
    by_cases c4 : 0 ≤ x5_1
    ·rw [if_pos c4] at H
     have c4b0 : decide (0 ≤ x5_1) = true := decide_eq_true c4
     clear c4
     obtain ⟨y177, hy177⟩ : ∃ y_ : List Int, y_ = (x0_1.set (x5_1 : Int).toNat x1_1) := ⟨_, rfl⟩
     replace H : (laws_markIntS.l0 k1 y177 (wrap64 (x1_1 + 1)) (wrap64 (x5_1 + 1))) = some (r1, r2) := by first | (rw [hy177]; with_reducible exact H) | (have H2_ := (Option.bind_some _ _).symm.trans H; rw [hy177]; with_reducible exact H2_) | (have H2_ := (Option.bind_some _ _).symm.trans H; with_reducible exact H2_) | with_reducible exact H | (rw [hy177]; exact H) | exact H
     have Ny177 := Aside0.mk hy177
     clear hy177
     have H' := Aside0.mk H
     clear H
     obtain ⟨Ao6, co6, eo6⟩ := Kd.R_slice HO_0.out
     subst eo6
     have p5 : 0 ≤ (x5_1 : Int) := of_decide_eq_true (by first | (with_reducible assumption) | assumption)
     have q5 : (x5_1 : Int) < ((x0_1.length : Int) : Int) := of_decide_eq_true (by first | (with_reducible assumption) | assumption)
     obtain ⟨go5, co5, eo5, gb5, gl5, cl5, HG5⟩ := Kd.R_form HO_0.out (by omega)
     (first | cases eo5 | (injection eo5 with ea_ en_ ec_; (first | subst ea_ | (injection ea_ with ea_; subst ea_)); subst ec_; clear en_))
     have GB5 := Aside0.mk gb5
     have GG5 := Aside0.mk HG5
     clear gb5 gl5 HG5
     have HMgo5 := Aside0.mk (show (P0_ go5 ∨ w.heap.size ≤ go5) from (HO_0.out.1 _ rfl))
     obtain ⟨hx5_0, hf5_0⟩ := Kd.R_celln 0 HO_0.out (x5_1 : Int) p5 q5
     replace p5 := eq_true p5
     replace q5 := eq_true q5
     have HP7 := Kd.R_putg HO_0.out (x5_1 : Int) x1_1
     go_wp2_with (first | ((with_reducible refine gate_store (t := 3) (p := 15) rfl ?_); refine store_event (t := 3) (p := 15) (v := ?vo_w8) (w1 := (wr.setCell ⟨go5, (x5_1 : Int).toNat, none⟩ (.int .i64 x1_1))) ?hg ?ho ?hn ?hr ?_; (case ho => rfl); (case hg => rfl); (case hn => rfl); (case hr => first | (go_simp; done) | (go_simp; rfl)); intro w8 hw; have hg : wr.grownBy w8 (some go5) := (by rw [hw]; exact HP7.2); have hp_ : Kd.R (Kd.int .i64) 3 w8 w0.heap.size (fun k_ => (P0_ k_ ∨ w.heap.size ≤ k_)) (.slice (some ⟨go5, 0, none⟩) x0_1.length co6) y177 := (by rw [hw, Ny177.out]; exact HP7.1); clear HP7; have n0_ := Aside0.mk (hp_); have n1_ := Aside0.mk ((by rw [hw]; exact below_set (HB.out) GB5.out : Below w0.heap.size w0 w8)); have n2_ := Aside0.mk (Kept.of_grown (S := (fun k_ => P0_ k_)) hg (by repeat (first | (with_reducible first | exact HK.out | apply Kept.alloc | apply Kept.drewN | apply Kept.drew) | exact HK.out)) (fun k_ e_ => (HO_0.out.1 k_ e_))); clear HO_0; clear HB; clear HK; have HO_0 := n0_; have HB := n1_; have HK := n2_; clear n0_ n1_ n2_; clear hg hw hp_))
     go_roundg k1
     case measure => have := HK1.out; omega
     case rel => exact ⟨(y177), (wrap64 (x1_1 + 1)), (wrap64 (x5_1 + 1)), (by first | rfl | (simp; done) | (simp [*]; done)), (by first | rfl | (simp; done) | (simp [*]; done)), H', ⟨by have := HK1.out; omega⟩, ⟨by (with_reducible repeat (first | apply Kd.R_alloc | apply Kd.R_drewN | apply Kd.R_drew)); exact HO_0.out⟩, ⟨by repeat (first | (with_reducible first | exact HK.out | apply Kept.alloc | apply Kept.drewN | apply Kept.drew) | exact HK.out)⟩, ⟨by repeat (first | (with_reducible first | exact HB.out | apply below_alloc | apply pw_below_drewN | apply below_drew1) | exact HB.out)⟩⟩
    ·rw [if_neg c4] at H
     exact absurd H (by simp)
   ·rw [if_neg c3] at H
    have c3b0 : decide (x5_1 < (x0_1.length : Int)) = false := decide_eq_false c3
    clear c3
    simp only [Option.some.injEq, Prod.mk.injEq] at H
    obtain ⟨rfl, rfl⟩ := H
    obtain ⟨Ao9, co9, eo9⟩ := Kd.R_slice HO_0.out
    subst eo9
    go_wp2
    go_ret
    exact ⟨by first | rfl | (simp [errW_none, errW_some] <;> rfl) | (simp [*, errW_none, errW_some] <;> rfl), by (with_reducible repeat (first | apply Kd.R_alloc | apply Kd.R_drewN | apply Kd.R_drew)); exact HO_0.out, by repeat (first | (with_reducible first | exact HB.out | apply below_alloc | apply pw_below_drewN | apply below_drew1) | exact HB.out), by repeat (first | (with_reducible first | exact HK.out | apply Kept.alloc | apply Kept.drewN | apply Kept.drew) | exact HK.out)⟩

end Go.Proofs.Ytooamcjgejajeaa.M
/- Walks for this claim, written by a program of mine over the kit's print. No condition of mine. -/
namespace Go.Proofs.Ytooamcjgejajeaa.M
open Go.RowKit Go.Proofs.Ytooamcjgejajeaa.KW Go.Proofs.YtooamcjgejajeaaW.PrintWords Go.Proofs.YtooamcjgejajeaaW.PrintLast Go.Proofs.YtooamcjgejajeaaW.PrintMore
attribute [local go_sem] max2_int min2_int max_two min_two max_three min_three max_four min_four   -- for this text's walks alone
set_option linter.unusedVariables false
set_option linter.unusedSimpArgs false

/-! ### laws_heldIntS: function 30 -/
def laws_heldIntS.l0 : Nat → List Int → Int → Int → Option (Int)
 | 0, _, _, _ => none
 | k + 1, x0, x1, x5 => if x5 < (x0.length : Int) then (if 0 ≤ x5 then (if (rd x0 x5) = x1 then (laws_heldIntS.l0 k x0 (wrap64 (x1 + 1)) (wrap64 (x5 + 1))) else (some (-1))) else (none)) else (some x1)
def laws_heldIntS.f (k : Nat) (l0 : List Int) (a1 : Int) : Option (Int) := laws_heldIntS.l0 k l0 a1 0
theorem laws_heldIntS.mono_l : ∀ k, (∀ y0 y1 y2, LeO (laws_heldIntS.l0 k y0 y1 y2) (laws_heldIntS.l0 (k + 1) y0 y1 y2))
 | 0 => fun _ _ _ r h => by simp [laws_heldIntS.l0] at h
 | k + 1 => by
  have ih0 := laws_heldIntS.mono_l k
  ·intro y0 y1 y2
   unfold laws_heldIntS.l0
   repeat' first
   | (with_reducible exact ih0 _ _ _)
   | (with_reducible exact LeO.refl _)
   | (with_reducible exact LeO.none _)
   | (with_reducible refine LeO.ite ?_ ?_)
   | (with_reducible refine LeO.bind ?_ (fun _ => ?_))
   | exact ih0 _ _ _
   | exact LeO.none _
   | refine LeO.ite ?_ ?_
   | refine LeO.bind ?_ (fun _ => ?_)
theorem laws_heldIntS.mono : ∀ a0 a1 k, LeO (laws_heldIntS.f k a0 a1) (laws_heldIntS.f (k + 1) a0 a1) := by
 intro a0 a1 k
 have ih0 := laws_heldIntS.mono_l k
 unfold laws_heldIntS.f
 repeat' first
   | (with_reducible exact ih0 _ _ _)
   | (with_reducible exact LeO.refl _)
   | (with_reducible exact LeO.none _)
   | (with_reducible refine LeO.ite ?_ ?_)
   | (with_reducible refine LeO.bind ?_ (fun _ => ?_))
   | exact ih0 _ _ _
   | exact LeO.none _
   | refine LeO.ite ?_ ?_
   | refine LeO.bind ?_ (fun _ => ?_)
set_option maxHeartbeats 8000000 in
set_option maxRecDepth 100000 in
theorem laws_heldIntS.calls (k : Nat) (A0 : Option Addr) (c0 : Nat) (l0 : List Int) (a1 : Int) (r : Int) (w : World) (hr0 : Kd.C (Kd.int .i64) w A0 l0.length l0) (hc0 : l0.length ≤ c0) (h : laws_heldIntS.f k l0 a1 = some r) :
  Calls Try.prog 30 #[.slice A0 l0.length c0, .int .i64 a1] w fun e w' => e = .returned (.int .i64 r) ∧ Drawn0 w w' := by
 have HR0 := Aside0.mk hr0
 have HC0 := Aside0.mk hc0
 clear hr0 hc0
 have H : (laws_heldIntS.l0 k l0 a1 0) = some r := h
 clear h
 have H' := Aside0.mk H
 clear H
 go_enter Try.func30, Try.ntmps30
 go_wp2
 go_loopg [1, 5] k (fun kq v1 v5 w' => ∃ (x1_1 : Int) (x5_1 : Int), v1 = .int .i64 x1_1 ∧ v5 = .int .i64 x5_1 ∧ Aside0 (laws_heldIntS.l0 kq l0 x1_1 x5_1 = some r) ∧ Aside0 (kq ≤ k) ∧ Drawn0 w w')
 case atStart => exact ⟨(a1), (0), (by first | rfl | (simp; done) | (simp [*]; done)), (by first | rfl | (simp; done) | (simp [*]; done)), H', ⟨Nat.le_refl _⟩, by repeat (first | exact Drawn0.refl _ | apply Drawn0.step)⟩
 case round =>
  clear H'
  try clear p2
  obtain ⟨x1_1, x5_1, rfl, rfl, HA, HK1, ⟨m1, rfl⟩⟩ := hrel
  cases gk with
  | zero => exact absurd HA.out (by simp [laws_heldIntS.l0])
  | succ k1 =>
   have H := HA.out
   clear HA
   simp only [laws_heldIntS.l0] at H
   by_cases c3 : x5_1 < (l0.length : Int)
   ·rw [if_pos c3] at H
    have c3b0 : decide (x5_1 < (l0.length : Int)) = true := decide_eq_true c3
    clear c3
    by_cases c4 : 0 ≤ x5_1
    ·rw [if_pos c4] at H
     have c4b0 : decide (0 ≤ x5_1) = true := decide_eq_true c4
     clear c4
     by_cases c5 : (rd l0 x5_1) = x1_1
     ·rw [if_pos c5] at H
      have c5b0 : ((rd l0 x5_1) == x1_1) = true := beq_iff_eq.mpr c5
      have c5b1 : ((rd l0 x5_1) != x1_1) = false := bne_eq_false_iff_eq.mpr c5
      clear c5
      have H' := Aside0.mk H
      clear H
      have p180 : 0 ≤ (x5_1 : Int) := of_decide_eq_true (by first | (with_reducible assumption) | assumption)
      have q180 : x5_1 < (l0.length : Int) := of_decide_eq_true (by first | (with_reducible assumption) | assumption)
      obtain ⟨ad180, e180, hx180_0⟩ := Kd.at_int HR0.out x5_1 p180 q180
      cases e180
      replace p180 := eq_true p180
      replace q180 := eq_true q180
      go_wp2
      go_roundg k1
      case measure => have := HK1.out; omega
      case rel => exact ⟨(wrap64 (x1_1 + 1)), (wrap64 (x5_1 + 1)), (by first | rfl | (simp; done) | (simp [*]; done)), (by first | rfl | (simp; done) | (simp [*]; done)), H', ⟨by have := HK1.out; omega⟩, by repeat (first | exact Drawn0.refl _ | apply Drawn0.step)⟩
     ·rw [if_neg c5] at H
      have c5b0 : ((rd l0 x5_1) == x1_1) = false := beq_eq_false_iff_ne.mpr c5
      have c5b1 : ((rd l0 x5_1) != x1_1) = true := bne_iff_ne.mpr c5
      obtain rfl := Option.some.inj H
      have p180 : 0 ≤ (x5_1 : Int) := of_decide_eq_true (by first | (with_reducible assumption) | assumption)
      have q180 : x5_1 < (l0.length : Int) := of_decide_eq_true (by first | (with_reducible assumption) | assumption)
      obtain ⟨ad180, e180, hx180_0⟩ := Kd.at_int HR0.out x5_1 p180 q180
      cases e180
      replace p180 := eq_true p180
      replace q180 := eq_true q180
      go_wp2
      go_ret
      exact ⟨by first | rfl | (simp; done) | (simp [*]; done), by repeat (first | exact Drawn0.refl _ | apply Drawn0.step)⟩
    ·rw [if_neg c4] at H
     exact absurd H (by simp)
   ·rw [if_neg c3] at H
    have c3b0 : decide (x5_1 < (l0.length : Int)) = false := decide_eq_false c3
    clear c3
    obtain rfl := Option.some.inj H
    go_wp2
    go_ret
    exact ⟨by first | rfl | (simp; done) | (simp [*]; done), by repeat (first | exact Drawn0.refl _ | apply Drawn0.step)⟩

end Go.Proofs.Ytooamcjgejajeaa.M
/- What the laws' own small functions on rows of whole numbers come to: a copy is the row, two rows are held against each other, marks are laid and found. No condition but lengths that fit. -/
namespace Go.Proofs.Ytooamcjgejajeaa.M
open Go.RowKit Go.Proofs.YtooamcjgejajeaaW.PrintWords Go.Proofs.Ytooamcjgejajeaa.K

theorem toIntS_ev (l : List Int) (h : l.length ≤ 1048576) : Ev (fun k => laws_toIntS.f k l) l := by
  have key : ∀ i, i ≤ l.length → ∀ f : Nat → Int, (∀ j, j < i → f j = l.getD j 0) → Ev (fun k => laws_toIntS.l0 k l (row l.length f) (i : Int)) l := by
    refine down l.length ?_ ?_
    · intro f hf
      refine Ev.step (fun k => by simp only [laws_toIntS.l0]; rw [_root_.if_neg (by omega)]) ?_
      rw [row_congr _ _ _ hf, row_of]; exact Ev.some _
    · intro i hi ih f hf
      refine Ev.step (fun k => by simp only [laws_toIntS.l0]; rw [_root_.if_pos (by omega), _root_.if_pos (by omega), _root_.if_pos (by rw [row_length]; omega), wsucc (by omega), Int.toNat_natCast, rd_at, row_set]) (ih _ ?_)
      intro j hj
      by_cases e : j = i
      · rw [_root_.if_pos e, e]
      · rw [_root_.if_neg e]; exact hf j (by omega)
  unfold laws_toIntS.f
  refine Ev.if_pos (by omega) (Ev.if_pos (by omega) ?_)
  rw [Int.toNat_natCast, row_replicate]
  exact key 0 (by omega) _ (fun j hj => by omega)

theorem eqIntS_ev (a b : List Int) (h : a.length < 9223372036854775807) : Ev (fun k => laws_eqIntS.f k a b) (decide (a = b)) := by
  unfold laws_eqIntS.f
  refine Ev.ite (fun e => ?_) (fun e => ?_)
  · have e' : a.length = b.length := by omega
    have key : ∀ i, i ≤ a.length → Ev (fun k => laws_eqIntS.l0 k a b (i : Int)) (decide (a.drop i = b.drop i)) := by
      refine down a.length ?_ ?_
      · refine Ev.step (fun k => by simp only [laws_eqIntS.l0]; rw [_root_.if_neg (by omega)]) ?_
        rw [List.drop_length, e', List.drop_length]; exact Ev.some _
      · intro i hi ih
        refine Ev.step (fun k => by simp only [laws_eqIntS.l0]; rw [_root_.if_pos (by omega), _root_.if_pos (by omega), _root_.if_pos (by omega), wsucc (by omega), rd_get a i hi, rd_get b i (by omega)]) ?_
        rw [drop_eq a i hi, drop_eq b i (by omega), cons_dec]
        refine Ev.ite (fun q => ?_) (fun q => ?_)
        · rw [decide_eq_true q]; simpa using ih
        · rw [decide_eq_false q]; exact Ev.some _
    exact key 0 (by omega)
  · refine Ev.same (Ev.some _) ?_
    symm; rw [decide_eq_false_iff_not]; intro q; rw [q] at e; exact e rfl

/-- The marks m, m + 1, .. in n places. -/
def marks (n : Nat) (m : Int) : List Int := row n (fun i => m + i)

theorem markIntS_ev (l : List Int) (m : Int) (h0 : 0 ≤ m) (h : m + l.length < 9223372036854775807) : Ev (fun k => laws_markIntS.f k l m) (m + l.length, marks l.length m) := by
  have key : ∀ i, i ≤ l.length → ∀ f : Nat → Int, (∀ j, j < i → f j = m + j) → Ev (fun k => laws_markIntS.l0 k (row l.length f) (m + i) (i : Int)) (m + l.length, marks l.length m) := by
    refine down l.length ?_ ?_
    · intro f hf
      refine Ev.step (fun k => by simp only [laws_markIntS.l0]; rw [_root_.if_neg (by rw [row_length]; omega)]) ?_
      unfold marks; rw [row_congr _ _ _ hf]; exact Ev.some _
    · intro i hi ih f hf
      refine Ev.step (fun k => by simp only [laws_markIntS.l0]; rw [_root_.if_pos (by rw [row_length]; omega), _root_.if_pos (by omega), wsucc (by omega), Int.toNat_natCast, row_set, w_id (by omega) (by omega), show m + (i : Int) + 1 = m + ((i + 1 : Nat) : Int) from by omega]) (ih _ ?_)
      intro j hj
      by_cases e : j = i
      · rw [_root_.if_pos e, e]
      · rw [_root_.if_neg e]; exact hf j (by omega)
  unfold laws_markIntS.f
  have := key 0 (by omega) (fun i => l.getD i 0) (fun j hj => by omega)
  rw [row_of, show m + ((0 : Nat) : Int) = m from by omega] at this
  exact this

theorem heldIntS_ev (n : Nat) (m : Int) (h0 : 0 ≤ m) (h : m + n < 9223372036854775807) : Ev (fun k => laws_heldIntS.f k (marks n m) m) (m + n) := by
  have key : ∀ i, i ≤ n → Ev (fun k => laws_heldIntS.l0 k (marks n m) (m + i) (i : Int)) (m + n) := by
    refine down n ?_ ?_
    · refine Ev.step (fun k => by simp only [laws_heldIntS.l0]; rw [_root_.if_neg (by unfold marks; rw [row_length]; omega)]) ?_
      exact Ev.some _
    · intro i hi ih
      refine Ev.step (fun k => by simp only [laws_heldIntS.l0]; rw [_root_.if_pos (by unfold marks; rw [row_length]; omega), _root_.if_pos (by omega), _root_.if_pos (by unfold marks; rw [rd_row _ _ _ hi]), wsucc (by omega), w_id (by omega) (by omega), show m + (i : Int) + 1 = m + ((i + 1 : Nat) : Int) from by omega]) ih
  unfold laws_heldIntS.f
  have := key 0 (by omega)
  rw [show m + ((0 : Nat) : Int) = m from by omega] at this
  exact this
end Go.Proofs.Ytooamcjgejajeaa.M
/- What the laws' own small functions on rows of rows come to. No condition but lengths that fit. -/
namespace Go.Proofs.Ytooamcjgejajeaa.M
open Go.RowKit Go.Proofs.YtooamcjgejajeaaW.PrintWords Go.Proofs.Ytooamcjgejajeaa.K

theorem rdLL (xs : List (List Int)) (i : Nat) (h : i < xs.length) : rd_L1 xs (i : Int) = xs[i] := by
  unfold rd_L1; rw [Int.toNat_natCast, List.getD_eq_getElem?_getD, List.getElem?_eq_getElem h]; rfl

theorem toIntSS_ev (l : List (List Int)) (h : l.length ≤ 1048576) (ht : total l ≤ 1048576) : Ev (fun k => laws_toIntSS.f k l) l := by
  have key : ∀ i, i ≤ l.length → Ev (fun k => laws_toIntSS.l0 k l (l.take i ++ List.replicate (l.length - i) []) (i : Int)) l := by
    refine down l.length ?_ ?_
    · refine Ev.step (fun k => by simp only [laws_toIntSS.l0]; rw [_root_.if_neg (by omega)]) ?_
      refine Ev.same (Ev.some _) ?_
      simp
    · intro i hi ih
      refine Ev.step (fun k => by simp only [laws_toIntSS.l0]; rw [_root_.if_pos (by omega), _root_.if_pos (by omega), rdLL l i hi]) ?_
      refine Ev.bind (toIntS_ev _ (by have := total_at l i hi; omega)) ?_
      refine Ev.if_pos (by rw [fill_length _ _ _ (by omega)]; omega) ?_
      refine Ev.congr (fun k => by rw [wsucc (by omega), Int.toNat_natCast, fill_set l [] i hi]) ih
  unfold laws_toIntSS.f
  refine Ev.if_pos (by omega) (Ev.if_pos (by omega) ?_)
  rw [Int.toNat_natCast]
  exact key 0 (by omega)

theorem eqIntSS_ev (a b : List (List Int)) (h : a.length < 9223372036854775807) (ht : ∀ x ∈ a, x.length < 9223372036854775807) : Ev (fun k => laws_eqIntSS.f k a b) (decide (a = b)) := by
  unfold laws_eqIntSS.f
  refine Ev.ite (fun e => ?_) (fun e => ?_)
  · have e' : a.length = b.length := by omega
    have key : ∀ i, i ≤ a.length → Ev (fun k => laws_eqIntSS.l0 k a b (i : Int)) (decide (a.drop i = b.drop i)) := by
      refine down a.length ?_ ?_
      · refine Ev.step (fun k => by simp only [laws_eqIntSS.l0]; rw [_root_.if_neg (by omega)]) ?_
        rw [List.drop_length, e', List.drop_length]; exact Ev.some _
      · intro i hi ih
        refine Ev.step (fun k => by simp only [laws_eqIntSS.l0]; rw [_root_.if_pos (by omega), _root_.if_pos (by omega), _root_.if_pos (by omega), wsucc (by omega), rdLL a i hi, rdLL b i (by omega)]) ?_
        rw [drop_eq a i hi, drop_eq b i (by omega), cons_dec]
        refine Ev.bind (eqIntS_ev _ _ (ht _ (List.getElem_mem hi))) ?_
        refine Ev.ite (fun q => ?_) (fun q => ?_)
        · rw [q]; simpa using ih
        · rw [Bool.eq_false_iff.2 q]; exact Ev.some _
    exact key 0 (by omega)
  · refine Ev.same (Ev.some _) ?_
    symm; rw [decide_eq_false_iff_not]; intro q; rw [q] at e; exact e rfl

theorem szIntS_val (l : List Int) (left : Int) (h0 : 0 ≤ left) (h1 : left ≤ 1048576) (h : l.length ≤ maxLen) : laws_szIntS.f l left = some (if left < l.length then -1 else left - l.length) := by
  unfold maxLen at h
  unfold laws_szIntS.f
  rw [w_id (by omega) (by omega)]
  by_cases q : left < l.length
  · rw [_root_.if_pos (by omega), _root_.if_pos q]
  · rw [_root_.if_neg (by omega), _root_.if_neg q]

/-- What is left of a number when all places are taken off, or -1. -/
theorem szIntSS_ev (l : List (List Int)) (left : Int) (h0 : 0 ≤ left) (h1 : left ≤ 1048576) (h : l.length ≤ maxLen) (hx : ∀ x ∈ l, x.length ≤ maxLen) :
    Ev (fun k => laws_szIntSS.f k l left) (if left < l.length + total l then -1 else left - l.length - total l) := by
  unfold maxLen at h
  unfold laws_szIntSS.f
  rw [w_id (by omega) (by omega)]
  refine Ev.ite (fun q => ?_) (fun q => ?_)
  · rw [_root_.if_pos (by omega)]; exact Ev.some _
  · have key : ∀ i, i ≤ l.length → total (l.take i) ≤ left - l.length → Ev (fun k => laws_szIntSS.l0 k l (left - l.length - total (l.take i)) (i : Int)) (if left < l.length + total l then -1 else left - l.length - total l) := by
      refine down l.length ?_ ?_
      · intro ht
        refine Ev.step (fun k => by simp only [laws_szIntSS.l0]; rw [_root_.if_neg (by omega)]) ?_
        rw [List.take_length] at ht ⊢
        rw [_root_.if_neg (by omega)]; exact Ev.some _
      · intro i hi ih ht
        refine Ev.step (fun k => by simp only [laws_szIntSS.l0]; rw [_root_.if_pos (by omega), _root_.if_pos (by omega), wsucc (by omega), rdLL l i hi]) ?_
        refine Ev.bind (Ev.val (szIntS_val _ _ (by omega) (by omega) (hx _ (List.getElem_mem hi)))) ?_
        have e := total_take l i hi
        have e2 := total_take_le l (i + 1)
        by_cases q2 : left - l.length - total (l.take i) < (l[i].length : Int)
        · rw [_root_.if_pos q2]
          refine Ev.if_pos (by omega) ?_
          rw [_root_.if_pos (by omega)]; exact Ev.some _
        · rw [_root_.if_neg q2]
          refine Ev.if_neg (by omega) ?_
          have := ih (by omega)
          rw [e, show left - (l.length : Int) - ((total (l.take i) + l[i].length : Nat) : Int) = left - l.length - total (l.take i) - l[i].length from by omega] at this
          exact this
    have := key 0 (by omega) (by simp [total]; omega)
    simpa [total] using this
end Go.Proofs.Ytooamcjgejajeaa.M
/- The words of a length without squares, or without overlaps: the reference's words are those of fw. No condition but that there is room. -/
namespace Go.Proofs.Ytooamcjgejajeaa.M
open Go.RowKit Go.Proofs.YtooamcjgejajeaaW.PrintWords Go.Proofs.YtooamcjgejajeaaW.PrintMore Go.Proofs.Ytooamcjgejajeaa.K

noncomputable def tst (ov : Bool) (w : List Int) : Bool := if ov = true then !hasOverlap w else !hasPower w 2 1

theorem l29_ev (m n : Nat) (ov : Bool) (hm : m ≤ 1000) (hn : n ≤ 1000) (hroom : ∀ i, i ≤ n → m ^ i ≤ 1000000000000) : Ev (fun k => spec_l29Words.f k (m : Int) (n : Int) ov) (fw m (tst ov) n) := by
  have l2 : ∀ (ws : List (List Int)) (i q : Nat) (acc : List (List Int)) (r : List (List Int)) (hq : q < ws.length), ws.length ≤ 1000000000000 → ws[q].length ≤ 1000 → acc.length + m ≤ 1000000000000 →
      Ev (fun k => spec_l29Words.l1 k (m : Int) (n : Int) ov ws (i : Int) (acc ++ ext (tst ov) ws[q] m) ((q + 1 : Nat) : Int)) r → ∀ a, a ≤ m →
      Ev (fun k => spec_l29Words.l2 k (m : Int) (n : Int) ov ws (i : Int) (acc ++ ext (tst ov) ws[q] a) (q : Int) (a : Int)) r := by
    intro ws i q acc r hq hwl hwq hacc hr
    refine down m ?_ ?_
    · exact Ev.step (fun k => by simp only [spec_l29Words.l2]; rw [_root_.if_neg (by omega), wsucc (by omega)]) hr
    · intro a ha ih
      have hel := ext_le (tst ov) ws[q] a
      refine Ev.step (fun k => by simp only [spec_l29Words.l2]; rw [_root_.if_pos (by omega)]) ?_
      refine Ev.congr (fun k => Option.bind_some _ _) ?_
      refine Ev.if_pos (by omega) (Ev.if_pos (by omega) ?_)
      rw [rdLL ws q hq, List.nil_append]
      refine Ev.if_pos (by simp only [List.length_nil]; omega) ?_
      refine Ev.congr (fun k => Option.bind_some _ _) ?_
      refine Ev.if_pos (by omega) ?_
      refine Ev.congr (fun k => Option.bind_some _ _) ?_
      rw [ext_succ] at ih
      have hl : (ws[q] ++ [(a : Int)]).length ≤ 1048576 := by rw [List.length_append]; simp; omega
      have fin : ∀ t : Bool, tst ov (ws[q] ++ [(a : Int)]) = !t → Ev (fun k => if t = true then spec_l29Words.l2 k (m : Int) (n : Int) ov ws (i : Int) (acc ++ ext (tst ov) ws[q] a) (q : Int) (wrap64 ((a : Int) + 1)) else if (acc ++ ext (tst ov) ws[q] a).length < 5864062014805 then spec_l29Words.l2 k (m : Int) (n : Int) ov ws (i : Int) ((acc ++ ext (tst ov) ws[q] a) ++ [ws[q] ++ [(a : Int)]]) (q : Int) (wrap64 ((a : Int) + 1)) else none) r := by
        intro t ht
        refine Ev.ite (fun c => ?_) (fun c => ?_)
        · rw [ht, c] at ih
          refine Ev.congr (fun k => by rw [wsucc (by omega)]) ?_
          simpa using ih
        · rw [ht, Bool.eq_false_iff.2 c] at ih
          refine Ev.if_pos (by rw [List.length_append]; omega) ?_
          refine Ev.congr (fun k => by rw [wsucc (by omega), List.append_assoc]) ?_
          simpa using ih
      refine Ev.ite (fun c => ?_) (fun c => ?_)
      · refine Ev.bind (specOverlap_ev _ hl) (fin _ ?_)
        unfold tst; rw [_root_.if_pos c]
      · refine Ev.bind (specSquare_ev _ hl) (fin _ ?_)
        unfold tst; rw [_root_.if_neg c]
  have l1 : ∀ (i : Nat) (ws : List (List Int)) (r : List (List Int)), i < n → ws.length ≤ 1000000000000 → m * ws.length ≤ 1000000000000 → (∀ u ∈ ws, u.length ≤ 1000) →
      Ev (fun k => spec_l29Words.l0 k (m : Int) (n : Int) ov (fwStep m (tst ov) ws) ((i + 1 : Nat) : Int)) r → ∀ q, q ≤ ws.length →
      Ev (fun k => spec_l29Words.l1 k (m : Int) (n : Int) ov ws (i : Int) (fwStep m (tst ov) (ws.take q)) (q : Int)) r := by
    intro i ws r hi hwl hml hu hr
    refine down ws.length ?_ ?_
    · refine Ev.step (fun k => by simp only [spec_l29Words.l1]; rw [_root_.if_neg (by omega), wsucc (by omega), List.take_length]) hr
    · intro q hq ih
      refine Ev.step (fun k => by simp only [spec_l29Words.l1]; rw [_root_.if_pos (by omega)]) ?_
      rw [fwStep_take m (tst ov) ws q hq] at ih
      have h1 : (fwStep m (tst ov) (ws.take q)).length ≤ m * q := by have := fwStep_le m (tst ov) (ws.take q); rwa [List.length_take, Nat.min_eq_left (by omega)] at this
      have h2 : m * q + m ≤ m * ws.length := by have := Nat.mul_le_mul_left m (show q + 1 ≤ ws.length from hq); rwa [Nat.mul_add, Nat.mul_one] at this
      have := l2 ws i q _ r hq hwl (hu _ (List.getElem_mem hq)) (by omega) ih 0 (by omega)
      simpa [ext] using this
  have l0 : ∀ i, i ≤ n → Ev (fun k => spec_l29Words.l0 k (m : Int) (n : Int) ov (fw m (tst ov) i) (i : Int)) (fw m (tst ov) n) := by
    refine down n ?_ ?_
    · exact Ev.step (fun k => by simp only [spec_l29Words.l0]; rw [_root_.if_neg (by omega)]) (Ev.some _)
    · intro i hi ih
      refine Ev.step (fun k => by simp only [spec_l29Words.l0]; rw [_root_.if_pos (by omega)]) ?_
      have h1 := fw_le m (tst ov) i
      have h2 := hroom i (by omega)
      have h3 := hroom (i + 1) (by omega)
      have := l1 i (fw m (tst ov) i) _ hi (by omega) (Nat.le_trans (Nat.mul_le_mul_left m h1) (by rwa [Nat.pow_succ, Nat.mul_comm] at h3)) (fun u hu => by rw [fw_len m (tst ov) i u hu]; omega) ih 0 (by omega)
      simpa [fwStep] using this
  unfold spec_l29Words.f
  exact l0 0 (by omega)

theorem small_pow (m n : Nat) (hm : m ≤ 4) (hn : n ≤ 10) : ∀ i, i ≤ n → m ^ i ≤ 1000000000000 := by
  intro i hi
  refine Nat.le_trans (Nat.pow_le_pow_left hm i) (Nat.le_trans (Nat.pow_le_pow_right (by omega) (show i ≤ 10 by omega)) (by decide))
end Go.Proofs.Ytooamcjgejajeaa.M
/- Walks for this claim, written by a program of mine over the kit's print. No condition of mine. -/
namespace Go.Proofs.Ytooamcjgejajeaa.M
open Go.RowKit Go.Proofs.Ytooamcjgejajeaa.KW Go.Proofs.YtooamcjgejajeaaW.PrintWords Go.Proofs.YtooamcjgejajeaaW.PrintLast Go.Proofs.YtooamcjgejajeaaW.PrintMore
attribute [local go_sem] max2_int min2_int max_two min_two max_three min_three max_four min_four   -- for this text's walks alone
set_option linter.unusedVariables false
set_option linter.unusedSimpArgs false

/-! ### impl_isOverlapFree: function 119 -/
def impl_isOverlapFree.f (k : Nat) (l0 : List Int) : Option (Bool) := (impl_HasOverlap.f k l0).bind fun t450 => (some (!t450))
theorem impl_isOverlapFree.mono : ∀ a0 k, LeO (impl_isOverlapFree.f k a0) (impl_isOverlapFree.f (k + 1) a0) := by
 intro a0 k
 unfold impl_isOverlapFree.f
 repeat' first
   | (with_reducible exact impl_HasOverlap.mono _ _)
   | (with_reducible exact LeO.refl _)
   | (with_reducible exact LeO.none _)
   | (with_reducible refine LeO.ite ?_ ?_)
   | (with_reducible refine LeO.bind ?_ (fun _ => ?_))
   | exact impl_HasOverlap.mono _ _
   | exact LeO.none _
   | refine LeO.ite ?_ ?_
   | refine LeO.bind ?_ (fun _ => ?_)
set_option maxHeartbeats 8000000 in
set_option maxRecDepth 100000 in
theorem impl_isOverlapFree.calls (k : Nat) (A0 : Option Addr) (c0 : Nat) (l0 : List Int) (r : Bool) (w : World) (hr0 : Kd.C (Kd.int .i64) w A0 l0.length l0) (hc0 : l0.length ≤ c0) (h : impl_isOverlapFree.f k l0 = some r) :
  Calls Try.prog 119 #[.slice A0 l0.length c0] w fun e w' => e = .returned (.bool r) ∧ Below w.heap.size w w' := by
 have HR0 := Aside0.mk hr0
 have HC0 := Aside0.mk hc0
 clear hr0 hc0
 have HB := Aside0.mk (Below.refl w.heap.size w)
 have H : ((impl_HasOverlap.f k l0).bind fun t450 => (some (!t450))) = some r := h
 clear h
 replace H := Option.bind_eq_some_iff.mp H
 obtain ⟨t450, A20, H⟩ := H
 replace H : (some (!t450)) = some r := H
 have A2 := Aside0.mk A20
 clear A20
 obtain rfl := Option.some.inj H
 go_enter Try.func119, Try.ntmps119
 go_wp2_with (first | ((with_reducible refine gate_callee (f := 52) rfl ?_); refine goesL_ (some 4) rfl rfl Try.func52 (by kernel_rfl) rfl #[.slice A0 l0.length c0] rfl (by (try simp only [List.map_toArray, List.map_cons, List.map_nil]); first | done | rfl | (simp only [List.length_drop, List.length_take]; rfl)) ?_; (with_reducible refine (impl_HasOverlap.calls k _ _ l0 t450 _ ?side1 ?side2 A2.out).mono ?_); (case side1 => repeat (first | exact HR0.out | (with_reducible refine Kd.C_alloc ?_ _) | (with_reducible refine Kd.C_drewN ?_ _) | (with_reducible refine Kd.C_drew ?_))); (case side2 => exact HC0.out); rintro e w3 ⟨rfl, hb⟩; refine ⟨_, rfl, ?_⟩; have n0_ := Aside0.mk (below_step (by repeat (first | (with_reducible first | exact HB.out | apply below_alloc | apply pw_below_drewN | apply below_drew1) | exact HB.out)) hb); clear HB; have HB := n0_; clear n0_; (try clear hb); (try clear hb2); (try clear hk); (try clear hi)))
 go_ret
 exact ⟨by first | rfl | (simp [errW_none, errW_some] <;> rfl) | (simp [*, errW_none, errW_some] <;> rfl), by repeat (first | (with_reducible first | exact HB.out | apply below_alloc | apply pw_below_drewN | apply below_drew1) | exact HB.out)⟩

end Go.Proofs.Ytooamcjgejajeaa.M
/- Walks for this claim, written by a program of mine over the kit's print. No condition of mine. -/
namespace Go.Proofs.Ytooamcjgejajeaa.M
open Go.RowKit Go.Proofs.Ytooamcjgejajeaa.KW Go.Proofs.YtooamcjgejajeaaW.PrintWords Go.Proofs.YtooamcjgejajeaaW.PrintLast Go.Proofs.YtooamcjgejajeaaW.PrintMore
attribute [local go_sem] max2_int min2_int max_two min_two max_three min_three max_four min_four   -- for this text's walks alone
set_option linter.unusedVariables false
set_option linter.unusedSimpArgs false

/-! ### impl_isSquareFree: function 121 -/
def impl_isSquareFree.f (k : Nat) (l0 : List Int) : Option (Bool) := (impl_HasSquare.f k l0).bind fun t554 => (some (!t554))
theorem impl_isSquareFree.mono : ∀ a0 k, LeO (impl_isSquareFree.f k a0) (impl_isSquareFree.f (k + 1) a0) := by
 intro a0 k
 unfold impl_isSquareFree.f
 repeat' first
   | (with_reducible exact impl_HasSquare.mono _ _)
   | (with_reducible exact LeO.refl _)
   | (with_reducible exact LeO.none _)
   | (with_reducible refine LeO.ite ?_ ?_)
   | (with_reducible refine LeO.bind ?_ (fun _ => ?_))
   | exact impl_HasSquare.mono _ _
   | exact LeO.none _
   | refine LeO.ite ?_ ?_
   | refine LeO.bind ?_ (fun _ => ?_)
set_option maxHeartbeats 8000000 in
set_option maxRecDepth 100000 in
theorem impl_isSquareFree.calls (k : Nat) (A0 : Option Addr) (c0 : Nat) (l0 : List Int) (r : Bool) (w : World) (hr0 : Kd.C (Kd.int .i64) w A0 l0.length l0) (hc0 : l0.length ≤ c0) (h : impl_isSquareFree.f k l0 = some r) :
  Calls Try.prog 121 #[.slice A0 l0.length c0] w fun e w' => e = .returned (.bool r) ∧ Below w.heap.size w w' := by
 have HR0 := Aside0.mk hr0
 have HC0 := Aside0.mk hc0
 clear hr0 hc0
 have HB := Aside0.mk (Below.refl w.heap.size w)
 have H : ((impl_HasSquare.f k l0).bind fun t554 => (some (!t554))) = some r := h
 clear h
 replace H := Option.bind_eq_some_iff.mp H
 obtain ⟨t554, A20, H⟩ := H
 replace H : (some (!t554)) = some r := H
 have A2 := Aside0.mk A20
 clear A20
 obtain rfl := Option.some.inj H
 go_enter Try.func121, Try.ntmps121
 go_wp2_with (first | ((with_reducible refine gate_callee (f := 53) rfl ?_); refine goesL_ (some 4) rfl rfl Try.func53 (by kernel_rfl) rfl #[.slice A0 l0.length c0] rfl (by (try simp only [List.map_toArray, List.map_cons, List.map_nil]); first | done | rfl | (simp only [List.length_drop, List.length_take]; rfl)) ?_; (with_reducible refine (impl_HasSquare.calls k _ _ l0 t554 _ ?side1 ?side2 A2.out).mono ?_); (case side1 => repeat (first | exact HR0.out | (with_reducible refine Kd.C_alloc ?_ _) | (with_reducible refine Kd.C_drewN ?_ _) | (with_reducible refine Kd.C_drew ?_))); (case side2 => exact HC0.out); rintro e w3 ⟨rfl, hb⟩; refine ⟨_, rfl, ?_⟩; have n0_ := Aside0.mk (below_step (by repeat (first | (with_reducible first | exact HB.out | apply below_alloc | apply pw_below_drewN | apply below_drew1) | exact HB.out)) hb); clear HB; have HB := n0_; clear n0_; (try clear hb); (try clear hb2); (try clear hk); (try clear hi)))
 go_ret
 exact ⟨by first | rfl | (simp [errW_none, errW_some] <;> rfl) | (simp [*, errW_none, errW_some] <;> rfl), by repeat (first | (with_reducible first | exact HB.out | apply below_alloc | apply pw_below_drewN | apply below_drew1) | exact HB.out)⟩

end Go.Proofs.Ytooamcjgejajeaa.M
/- The program's counts and lists of words without squares or overlaps, walked. No condition. -/
namespace Go.Proofs.Ytooamcjgejajeaa.M
open Go.RowKit Go.Proofs.YtooamcjgejajeaaW.PrintWords Go.Proofs.YtooamcjgejajeaaW.PrintLast Go.Proofs.YtooamcjgejajeaaW.PrintMore Go.Proofs.Ytooamcjgejajeaa.K Go.Proofs.Ytooamcjgejajeaa.KW
set_option linter.unusedVariables false
set_option linter.unusedSimpArgs false

theorem isOV_ev (w : List Int) (hw : w.length ≤ 1048576) : Ev (fun k => impl_isOverlapFree.f k w) (tst true w) := by
  unfold impl_isOverlapFree.f; exact Ev.bind (implOverlap_ev w hw) (Ev.some _)
theorem isSQ_ev (w : List Int) (hw : w.length ≤ 1048576) : Ev (fun k => impl_isSquareFree.f k w) (tst false w) := by
  unfold impl_isSquareFree.f; exact Ev.bind (implSquare_ev w hw) (Ev.some _)

theorem freeOV (m n : Nat) (w : World) (hm : m ≤ 4) (hn : n ≤ 10) :
    Calls Try.prog 118 #[.int .i64 m, .int .i64 n, .func (.func 119) #[] #[]] w fun e w' => ∃ v0_ : Value, e = .returned v0_ ∧ Kd.S (Kd.slice 3 (Kd.int .i64)) 36 w' w.heap.size (fun _ => True) v0_ (fw m (tst true) n) ∧ Below w.heap.size w w' := by
  refine freeWords_calls 119 _ #[] (tst true) m n w Try.func119 (by kernel_rfl) rfl (by omega) (by omega) (small_pow m n hm hn) ?_
  intro W A c xs hB hC hc hl
  obtain ⟨k, hk⟩ := (isOV_ev xs (by omega)).rounds
  rw [Array.append_empty]
  exact impl_isOverlapFree.calls k A c xs _ W hC hc hk
theorem freeSQ (m n : Nat) (w : World) (hm : m ≤ 4) (hn : n ≤ 10) :
    Calls Try.prog 118 #[.int .i64 m, .int .i64 n, .func (.func 121) #[] #[]] w fun e w' => ∃ v0_ : Value, e = .returned v0_ ∧ Kd.S (Kd.slice 3 (Kd.int .i64)) 36 w' w.heap.size (fun _ => True) v0_ (fw m (tst false) n) ∧ Below w.heap.size w w' := by
  refine freeWords_calls 121 _ #[] (tst false) m n w Try.func121 (by kernel_rfl) rfl (by omega) (by omega) (small_pow m n hm hn) ?_
  intro W A c xs hB hC hc hl
  obtain ⟨k, hk⟩ := (isSQ_ev xs (by omega)).rounds
  rw [Array.append_empty]
  exact impl_isSquareFree.calls k A c xs _ W hC hc hk
end Go.Proofs.Ytooamcjgejajeaa.M
/- The program's list of words that pass a test, for one test: in the form of the printed walks. No condition. -/
namespace Go.Proofs.Ytooamcjgejajeaa.M
open Go.RowKit Go.Proofs.YtooamcjgejajeaaW.PrintWords Go.Proofs.YtooamcjgejajeaaW.PrintLast Go.Proofs.YtooamcjgejajeaaW.PrintMore Go.Proofs.Ytooamcjgejajeaa.K
set_option linter.unusedVariables false
/-! ### impl_freeWords_of121: function 118 -/
noncomputable def impl_freeWords_of121.f (k : Nat) (a0 : Int) (a1 : Int) : Option ((List (List Int))) := if (0 ≤ a0 ∧ a0 ≤ 4) ∧ 0 ≤ a1 ∧ a1 ≤ 10 then some (fw a0.toNat (tst false) a1.toNat) else none
theorem impl_freeWords_of121.mono : ∀ a0 a1 k, LeO (impl_freeWords_of121.f k a0 a1) (impl_freeWords_of121.f (k + 1) a0 a1) := fun a0 a1 k => LeO.refl _
theorem impl_freeWords_of121.ev (m n : Nat) (hm : m ≤ 4) (hn : n ≤ 10) : Ev (fun k => impl_freeWords_of121.f k (m : Int) (n : Int)) (fw m (tst false) n) := by
  unfold impl_freeWords_of121.f
  exact Ev.if_pos (by omega) (Ev.same (Ev.some _) (by simp))
theorem impl_freeWords_of121.calls (k : Nat) (a0 : Int) (a1 : Int) (r : List (List Int)) (w : World) (h : impl_freeWords_of121.f k a0 a1 = some r) :
    Calls Try.prog 118 #[.int .i64 a0, .int .i64 a1, .func (.func 121) #[] #[]] w fun e w' => ∃ v0_ : Value, e = .returned (v0_) ∧ Kd.N (Kd.slice 3 (Kd.int .i64)) 36 w' w.heap.size (fun k_ => (w.heap.size ≤ k_)) v0_ r ∧ Below w.heap.size w w' := by
  unfold impl_freeWords_of121.f at h
  split at h
  · rename_i q
    obtain ⟨m, rfl⟩ : ∃ m : Nat, a0 = (m : Int) := ⟨a0.toNat, by omega⟩
    obtain ⟨n, rfl⟩ : ∃ n : Nat, a1 = (n : Int) := ⟨a1.toNat, by omega⟩
    rw [Int.toNat_natCast, Int.toNat_natCast] at h
    obtain rfl := Option.some.inj h
    refine (freeSQ m n w (by omega) (by omega)).mono ?_
    rintro e w1 ⟨v, rfl, hS, hB⟩
    exact ⟨v, rfl, Kd.S_N (Kd.S_mono (Kd.S_bound hS) (fun _ hk => hk.2.1)), hB⟩
  · exact absurd h (by simp)
end Go.Proofs.Ytooamcjgejajeaa.M
