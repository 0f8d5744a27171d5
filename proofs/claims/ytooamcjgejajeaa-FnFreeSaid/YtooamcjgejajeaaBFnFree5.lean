/- Texts of the claim on FnFree, joined (part 5 of 6): walks of the functions, what they come to, and in the last part the row. No condition of mine. -/
import Derived.Test.YtooamcjgejajeaaBFnFree0
import Derived.Test.YtooamcjgejajeaaBFnFree1
import Derived.Test.YtooamcjgejajeaaBFnFree2
import Derived.Test.YtooamcjgejajeaaBFnFree3
import Derived.Test.YtooamcjgejajeaaBFnFree4
import Derived.Laws.BitsLemmas
namespace Go.Proofs.Ytooamcjgejajeaa.M
noncomputable section
open Go.RowKit Go.Proofs.Ytooamcjgejajeaa.KW Go.Proofs.YtooamcjgejajeaaW.PrintWords Go.Proofs.YtooamcjgejajeaaW.PrintLast Go.Proofs.YtooamcjgejajeaaW.PrintMore
attribute [local go_sem] max2_int min2_int max_two min_two max_three min_three max_four min_four
set_option linter.unusedVariables false
set_option linter.unusedSimpArgs false
def impl_SquareFreeWords.f (k : Nat) (a0 : Int) (a1 : Int) : Option ((List (List Int)) × Bool) := if a0 < 1 then (some ((([] : List (List Int))), false)) else (if a0 > 4 then (some ((([] : List (List Int))), false)) else (if a1 < 0 then (some ((([] : List (List Int))), false)) else (if a1 > 5 then (some ((([] : List (List Int))), false)) else ((impl_freeWords_of121.f k a0 a1).bind fun t956 => (some (t956, true))))))
theorem impl_SquareFreeWords.mono : ∀ a0 a1 k, LeO (impl_SquareFreeWords.f k a0 a1) (impl_SquareFreeWords.f (k + 1) a0 a1) := by
 intro a0 a1 k; unfold impl_SquareFreeWords.f
 repeat' first
   | (with_reducible exact impl_freeWords_of121.mono _ _ _)
   | (with_reducible exact LeO.refl _)
   | (with_reducible exact LeO.none _)
   | (with_reducible refine LeO.ite ?_ ?_)
   | (with_reducible refine LeO.bind ?_ (fun _ => ?_))
set_option maxHeartbeats 8000000 in
set_option maxRecDepth 100000 in
theorem impl_SquareFreeWords.calls (k : Nat) (a0 : Int) (a1 : Int) (r1 : List (List Int)) (r2 : Bool) (w : World) (h : impl_SquareFreeWords.f k a0 a1 = some (r1, r2)) :
  Calls Try.prog 56 #[.int .i64 a0, .int .i64 a1] w fun e w' => ∃ v0_ : Value, e = .returned (.tuple #[v0_, .bool r2]) ∧ Kd.N (Kd.slice 3 (Kd.int .i64)) 36 w' w.heap.size (fun k_ => (w.heap.size ≤ k_)) v0_ r1 ∧ Below w.heap.size w w' := by
 have HB := am (Below.refl w.heap.size w); have H : (if a0 < 1 then (some ((([] : List (List Int))), false)) else (if a0 > 4 then (some ((([] : List (List Int))), false)) else (if a1 < 0 then (some ((([] : List (List Int))), false)) else (if a1 > 5 then (some ((([] : List (List Int))), false)) else ((impl_freeWords_of121.f k a0 a1).bind fun t956 => (some (t956, true))))))) = some (r1, r2) := h; clear h; by_cases c3 : a0 < 1
 ·rw [if_pos c3] at H; have c3b0 : decide (a0 < 1) = true := decide_eq_true c3; clear c3; obtain ⟨y944, hy944⟩ : ∃ y_ : List (List Int), y_ = (([] : List (List Int))) := ⟨_, rfl⟩; replace H : (some (y944, false)) = some (r1, r2) := by rw [hy944]; first | exact H | exact (Option.bind_some _ _).symm.trans H
  have Ny944 := am hy944; clear hy944; simp only [Option.some.injEq, Prod.mk.injEq] at H; obtain ⟨rfl, rfl⟩ := H; go_enter Try.func56, Try.ntmps56; go_wp2_with (first | ((with_reducible refine gate_dst (N := 20) rfl ?_); refine Kd.N_lit (Kd.slice 3 (Kd.int .i64)) _ 36 ?hg (N' := 20) ?hd (xs := ([] : List (List Int))) (inner := []) (ok := (fun k_ => (w.heap.size ≤ k_))) (okp := (fun k_ => (w.heap.size ≤ k_))) ?hr ?hp (fun _ hk => hk) ((show ∀ k_, w.heap.size ≤ k_ → (fun k_ => (w.heap.size ≤ k_)) k_ from fun k_ hk => (Nat.le_trans (below_size (by exact rB HB)) hk)) _ (Nat.le_refl _)) (Below.refl _ _) (Nat.le_refl _) (by simp) ?_; (case hd => rfl); (case hg => rfl); (case hr => first | (go_simp; done) | (go_simp; rfl)); (case hp => exact (Reps.none _ _)); intro v945 w4 ho5 hb hg_ hnew_; clear hg_ hnew_; (first | rw [← Ny944.out] at ho5 | (simp only [Int.reduceToNat] at ho5; rw [← Ny944.out] at ho5)); have HO946 := am (Kd.N_lower ho5 (below_size (by exact rB HB))); replace HB := am (below_step (by exact rB HB) hb); clear hb ho5)); go_ret2; exact ⟨_, by first | rfl | (simp [errW_none, errW_some] <;> rfl) | (simp [*, errW_none, errW_some] <;> rfl), by exact rN HO946, by exact rB HB⟩
 ·rw [if_neg c3] at H; have c3b0 : decide (a0 < 1) = false := decide_eq_false c3; clear c3; by_cases c6 : a0 > 4
  ·rw [if_pos c6] at H; have c6b0 : decide (4 < a0) = true := decide_eq_true c6; clear c6; obtain ⟨y947, hy947⟩ : ∃ y_ : List (List Int), y_ = (([] : List (List Int))) := ⟨_, rfl⟩; replace H : (some (y947, false)) = some (r1, r2) := by rw [hy947]; first | exact H | exact (Option.bind_some _ _).symm.trans H
   have Ny947 := am hy947; clear hy947; simp only [Option.some.injEq, Prod.mk.injEq] at H; obtain ⟨rfl, rfl⟩ := H; go_enter Try.func56, Try.ntmps56; go_wp2_with (first | ((with_reducible refine gate_dst (N := 20) rfl ?_); refine Kd.N_lit (Kd.slice 3 (Kd.int .i64)) _ 36 ?hg (N' := 20) ?hd (xs := ([] : List (List Int))) (inner := []) (ok := (fun k_ => (w.heap.size ≤ k_))) (okp := (fun k_ => (w.heap.size ≤ k_))) ?hr ?hp (fun _ hk => hk) ((show ∀ k_, w.heap.size ≤ k_ → (fun k_ => (w.heap.size ≤ k_)) k_ from fun k_ hk => (Nat.le_trans (below_size (by exact rB HB)) hk)) _ (Nat.le_refl _)) (Below.refl _ _) (Nat.le_refl _) (by simp) ?_; (case hd => rfl); (case hg => rfl); (case hr => first | (go_simp; done) | (go_simp; rfl)); (case hp => exact (Reps.none _ _)); intro v948 w7 ho8 hb hg_ hnew_; clear hg_ hnew_; (first | rw [← Ny947.out] at ho8 | (simp only [Int.reduceToNat] at ho8; rw [← Ny947.out] at ho8)); have HO949 := am (Kd.N_lower ho8 (below_size (by exact rB HB))); replace HB := am (below_step (by exact rB HB) hb); clear hb ho8)); go_ret2; exact ⟨_, by first | rfl | (simp [errW_none, errW_some] <;> rfl) | (simp [*, errW_none, errW_some] <;> rfl), by exact rN HO949, by exact rB HB⟩
  ·rw [if_neg c6] at H; have c6b0 : decide (4 < a0) = false := decide_eq_false c6; clear c6; by_cases c9 : a1 < 0
   ·rw [if_pos c9] at H; have c9b0 : decide (a1 < 0) = true := decide_eq_true c9; clear c9; obtain ⟨y950, hy950⟩ : ∃ y_ : List (List Int), y_ = (([] : List (List Int))) := ⟨_, rfl⟩; replace H : (some (y950, false)) = some (r1, r2) := by rw [hy950]; first | exact H | exact (Option.bind_some _ _).symm.trans H
    have Ny950 := am hy950; clear hy950; simp only [Option.some.injEq, Prod.mk.injEq] at H; obtain ⟨rfl, rfl⟩ := H; go_enter Try.func56, Try.ntmps56; go_wp2_with (first | ((with_reducible refine gate_dst (N := 20) rfl ?_); refine Kd.N_lit (Kd.slice 3 (Kd.int .i64)) _ 36 ?hg (N' := 20) ?hd (xs := ([] : List (List Int))) (inner := []) (ok := (fun k_ => (w.heap.size ≤ k_))) (okp := (fun k_ => (w.heap.size ≤ k_))) ?hr ?hp (fun _ hk => hk) ((show ∀ k_, w.heap.size ≤ k_ → (fun k_ => (w.heap.size ≤ k_)) k_ from fun k_ hk => (Nat.le_trans (below_size (by exact rB HB)) hk)) _ (Nat.le_refl _)) (Below.refl _ _) (Nat.le_refl _) (by simp) ?_; (case hd => rfl); (case hg => rfl); (case hr => first | (go_simp; done) | (go_simp; rfl)); (case hp => exact (Reps.none _ _)); intro v951 w10 ho11 hb hg_ hnew_; clear hg_ hnew_; (first | rw [← Ny950.out] at ho11 | (simp only [Int.reduceToNat] at ho11; rw [← Ny950.out] at ho11)); have HO952 := am (Kd.N_lower ho11 (below_size (by exact rB HB))); replace HB := am (below_step (by exact rB HB) hb); clear hb ho11)); go_ret2; exact ⟨_, by first | rfl | (simp [errW_none, errW_some] <;> rfl) | (simp [*, errW_none, errW_some] <;> rfl), by exact rN HO952, by exact rB HB⟩
   ·rw [if_neg c9] at H; have c9b0 : decide (a1 < 0) = false := decide_eq_false c9; clear c9; by_cases c12 : a1 > 5
    ·rw [if_pos c12] at H; have c12b0 : decide (5 < a1) = true := decide_eq_true c12; clear c12; obtain ⟨y953, hy953⟩ : ∃ y_ : List (List Int), y_ = (([] : List (List Int))) := ⟨_, rfl⟩; replace H : (some (y953, false)) = some (r1, r2) := by rw [hy953]; first | exact H | exact (Option.bind_some _ _).symm.trans H
     have Ny953 := am hy953; clear hy953; simp only [Option.some.injEq, Prod.mk.injEq] at H; obtain ⟨rfl, rfl⟩ := H; go_enter Try.func56, Try.ntmps56; go_wp2_with (first | ((with_reducible refine gate_dst (N := 20) rfl ?_); refine Kd.N_lit (Kd.slice 3 (Kd.int .i64)) _ 36 ?hg (N' := 20) ?hd (xs := ([] : List (List Int))) (inner := []) (ok := (fun k_ => (w.heap.size ≤ k_))) (okp := (fun k_ => (w.heap.size ≤ k_))) ?hr ?hp (fun _ hk => hk) ((show ∀ k_, w.heap.size ≤ k_ → (fun k_ => (w.heap.size ≤ k_)) k_ from fun k_ hk => (Nat.le_trans (below_size (by exact rB HB)) hk)) _ (Nat.le_refl _)) (Below.refl _ _) (Nat.le_refl _) (by simp) ?_; (case hd => rfl); (case hg => rfl); (case hr => first | (go_simp; done) | (go_simp; rfl)); (case hp => exact (Reps.none _ _)); intro v954 w13 ho14 hb hg_ hnew_; clear hg_ hnew_; (first | rw [← Ny953.out] at ho14 | (simp only [Int.reduceToNat] at ho14; rw [← Ny953.out] at ho14)); have HO955 := am (Kd.N_lower ho14 (below_size (by exact rB HB))); replace HB := am (below_step (by exact rB HB) hb); clear hb ho14)); go_ret2; exact ⟨_, by first | rfl | (simp [errW_none, errW_some] <;> rfl) | (simp [*, errW_none, errW_some] <;> rfl), by exact rN HO955, by exact rB HB⟩
    ·rw [if_neg c12] at H; have c12b0 : decide (5 < a1) = false := decide_eq_false c12; clear c12; replace H := Option.bind_eq_some_iff.mp H; obtain ⟨t956, A150, H⟩ := H; replace H : (some (t956, true)) = some (r1, r2) := H; have A15 := am A150; clear A150; simp only [Option.some.injEq, Prod.mk.injEq] at H; obtain ⟨rfl, rfl⟩ := H; go_enter Try.func56, Try.ntmps56; go_wp2_with (first | ((with_reducible refine gate_callee (f := 118) rfl ?_); refine goesL_ (some 23) rfl rfl Try.func118 (by kernel_rfl) rfl #[.int .i64 a0, .int .i64 a1, .func (.func 121) #[] #[]] rfl (by (try simp only [mT, mC, mN]); first | done | rfl) ?_; (with_reducible refine (impl_freeWords_of121.calls k a0 a1 t956 _ A15.out).mono ?_); rintro e w16 ⟨v957, rfl, ho0, hb⟩; refine ⟨_, rfl, ?_⟩; have HO958 := am (Kd.N_lower (Kd.N_mono (ok' := fun k_ => (w.heap.size ≤ k_)) ho0 (fun k_ hk_ => (Nat.le_trans (below_size (by exact rB HB)) hk_))) (below_size (by exact rB HB))); replace HB := am (below_step (by exact rB HB) hb); clear hb ho0)); go_ret2; exact ⟨_, by first | rfl | (simp [errW_none, errW_some] <;> rfl) | (simp [*, errW_none, errW_some] <;> rfl), by exact rN HO958, by exact rB HB⟩
mutual
def laws_FnFree.j0 : Nat → List Int → Bool → List Int → Bool → Bool → List (List Int) → Option (Bool)
 | 0, _, _, _, _, _, _ => none
 | k + 1, x0, x6, x7, x10, x76, x965000 => if x76 = true then (some false) else (if x6 = true then ((spec_HasSquare.f k x7).bind fun t979 => (if t979 = true then (laws_FnFree.j1 k x0 true) else (if x10 = true then ((spec_KeepsSquareFree.f k x965000 4).bind fun t980 => (laws_FnFree.j1 k x0 (!t980))) else (laws_FnFree.j1 k x0 false)))) else (if x10 = true then ((spec_KeepsSquareFree.f k x965000 4).bind fun t981 => (laws_FnFree.j1 k x0 (!t981))) else (laws_FnFree.j1 k x0 false)))
def laws_FnFree.j1 : Nat → List Int → Bool → Option (Bool)
 | 0, _, _ => none
 | k + 1, x0, x89 => if x89 = true then (some false) else ((impl_ThueMorphism.f).bind fun t982 => ((impl_TernaryMorphism.f).bind fun t986 => ((spec_ThueMorphism.f).bind fun t990 => ((laws_sameMorphism.f k t982 t990).bind fun t993 => (if t993 = true then ((spec_TernaryMorphism.f).bind fun t994 => ((laws_sameMorphism.f k t986 t994).bind fun t997 => (if t997 = true then ((laws_at.f x0 2).bind fun t998 => ((impl_KeepsOverlapFree.f k t982 (Int.tmod t998 6)).bind fun t999 => (laws_FnFree.j2 k x0 (!t999) t982 t986))) else (laws_FnFree.j2 k x0 true t982 t986)))) else (laws_FnFree.j2 k x0 true t982 t986))))))
def laws_FnFree.j2 : Nat → List Int → Bool → List (List Int) → List (List Int) → Option (Bool)
 | 0, _, _, _, _ => none
 | k + 1, x0, x109, x986000, x990000 => if x109 = true then (some false) else ((spec_FixedPrefix.f k x986000 0 60).bind fun bt1000 => ((spec_FixedPrefix.f k x990000 0 60).bind fun bt1004 => (if bt1000.2 = true then (if bt1004.2 = true then ((impl_HasOverlap.f k bt1000.1).bind fun t1008 => (if t1008 = true then (laws_FnFree.j3 k x0 true) else ((impl_HasSquare.f k bt1004.1).bind fun t1009 => (laws_FnFree.j3 k x0 t1009)))) else (laws_FnFree.j3 k x0 true)) else (laws_FnFree.j3 k x0 true))))
def laws_FnFree.j3 : Nat → List Int → Bool → Option (Bool)
 | 0, _, _ => none
 | k + 1, x0, x133 => if x133 = true then (some false) else ((spec_DrawKeepsOverlapFree.f k x0).bind fun bt1010 => ((spec_DrawSquareFreeWords.f k x0).bind fun bt1015 => ((impl_SquareFreeWords.f k bt1015.1 bt1015.2).bind fun bt1017 => ((spec_SquareFreeWords.f k bt1015.1 bt1015.2).bind fun bt1021 => ((impl_KeepsOverlapFree.f k bt1010.1 bt1010.2).bind fun t1025 => ((spec_KeepsOverlapFree.f k bt1010.1 bt1010.2).bind fun t1026 => (if (t1025 == t1026) = true then (if (bt1017.2 == bt1021.2) = true then ((laws_sameWords.f k bt1017.1 bt1021.1).bind fun t1027 => (some t1027)) else (some false)) else (some false))))))))
end
def laws_FnFree.f (k : Nat) (l0 : List Int) : Option (Bool) := (laws_big.f l0).bind fun t959 => (if t959 = true then (some true) else ((spec_DrawBrokenWord.f k l0).bind fun bt960 => ((impl_BrokenWord.f k bt960.1 bt960.2).bind fun bt965 => ((spec_BrokenWord.f k bt960.1 bt960.2).bind fun bt969 => ((impl_KeepsSquareFree.f k bt960.1 bt960.2).bind fun t973 => ((impl_IsSquareFreeMorphism.f k bt960.1).bind fun t974 => (if (bt965.2 != bt969.2) = true then (laws_FnFree.j0 k l0 bt965.2 bt969.1 t974 true bt960.1) else ((laws_sameInts.f k bt965.1 bt969.1).bind fun t975 => (if t975 = true then ((spec_KeepsSquareFree.f k bt960.1 bt960.2).bind fun t976 => (if (t973 != t976) = true then (laws_FnFree.j0 k l0 bt965.2 bt969.1 t974 true bt960.1) else (if t973 = true then (if bt965.2 = true then (laws_FnFree.j0 k l0 bt965.2 bt969.1 t974 true bt960.1) else ((spec_IsSquareFreeMorphism.f k bt960.1).bind fun t977 => (laws_FnFree.j0 k l0 bt965.2 bt969.1 t974 (t974 != t977) bt960.1))) else ((spec_IsSquareFreeMorphism.f k bt960.1).bind fun t978 => (laws_FnFree.j0 k l0 bt965.2 bt969.1 t974 (t974 != t978) bt960.1))))) else (laws_FnFree.j0 k l0 bt965.2 bt969.1 t974 true bt960.1))))))))))
theorem laws_FnFree.mono_l : ∀ k, (∀ y0 y1 y2 y3 y4 y5, LeO (laws_FnFree.j0 k y0 y1 y2 y3 y4 y5) (laws_FnFree.j0 (k + 1) y0 y1 y2 y3 y4 y5)) ∧ (∀ y0 y1, LeO (laws_FnFree.j1 k y0 y1) (laws_FnFree.j1 (k + 1) y0 y1)) ∧ (∀ y0 y1 y2 y3, LeO (laws_FnFree.j2 k y0 y1 y2 y3) (laws_FnFree.j2 (k + 1) y0 y1 y2 y3)) ∧ (∀ y0 y1, LeO (laws_FnFree.j3 k y0 y1) (laws_FnFree.j3 (k + 1) y0 y1))
 | 0 => ⟨fun _ _ _ _ _ _ r h => by simp [laws_FnFree.j0] at h, fun _ _ r h => by simp [laws_FnFree.j1] at h, fun _ _ _ _ r h => by simp [laws_FnFree.j2] at h, fun _ _ r h => by simp [laws_FnFree.j3] at h⟩
 | k + 1 => by
  obtain ⟨ih0, ih1, ih2, ih3⟩ := laws_FnFree.mono_l k; refine ⟨?_, ?_, ?_, ?_⟩
  ·intro y0 y1 y2 y3 y4 y5; unfold laws_FnFree.j0
   repeat' first
   | (with_reducible exact ih0 _ _ _ _ _ _)
   | (with_reducible exact ih1 _ _)
   | (with_reducible exact ih2 _ _ _ _)
   | (with_reducible exact ih3 _ _)
   | (with_reducible exact impl_BrokenWord.mono _ _ _)
   | (with_reducible exact impl_HasOverlap.mono _ _)
   | (with_reducible exact impl_HasSquare.mono _ _)
   | (with_reducible exact impl_IsSquareFreeMorphism.mono _ _)
   | (with_reducible exact impl_KeepsOverlapFree.mono _ _ _)
   | (with_reducible exact impl_KeepsSquareFree.mono _ _ _)
   | (with_reducible exact impl_SquareFreeWords.mono _ _ _)
   | (with_reducible exact laws_sameInts.mono _ _ _)
   | (with_reducible exact laws_sameMorphism.mono _ _ _)
   | (with_reducible exact laws_sameWords.mono _ _ _)
   | (with_reducible exact spec_BrokenWord.mono _ _ _)
   | (with_reducible exact spec_DrawBrokenWord.mono _ _)
   | (with_reducible exact spec_DrawKeepsOverlapFree.mono _ _)
   | (with_reducible exact spec_DrawSquareFreeWords.mono _ _)
   | (with_reducible exact spec_FixedPrefix.mono _ _ _ _)
   | (with_reducible exact spec_HasSquare.mono _ _)
   | (with_reducible exact spec_IsSquareFreeMorphism.mono _ _)
   | (with_reducible exact spec_KeepsOverlapFree.mono _ _ _)
   | (with_reducible exact spec_KeepsSquareFree.mono _ _ _)
   | (with_reducible exact spec_SquareFreeWords.mono _ _ _)
   | (with_reducible exact LeO.refl _)
   | (with_reducible exact LeO.none _)
   | (with_reducible refine LeO.ite ?_ ?_)
   | (with_reducible refine LeO.bind ?_ (fun _ => ?_))
  ·intro y0 y1; unfold laws_FnFree.j1
   repeat' first
   | (with_reducible exact ih0 _ _ _ _ _ _)
   | (with_reducible exact ih1 _ _)
   | (with_reducible exact ih2 _ _ _ _)
   | (with_reducible exact ih3 _ _)
   | (with_reducible exact impl_BrokenWord.mono _ _ _)
   | (with_reducible exact impl_HasOverlap.mono _ _)
   | (with_reducible exact impl_HasSquare.mono _ _)
   | (with_reducible exact impl_IsSquareFreeMorphism.mono _ _)
   | (with_reducible exact impl_KeepsOverlapFree.mono _ _ _)
   | (with_reducible exact impl_KeepsSquareFree.mono _ _ _)
   | (with_reducible exact impl_SquareFreeWords.mono _ _ _)
   | (with_reducible exact laws_sameInts.mono _ _ _)
   | (with_reducible exact laws_sameMorphism.mono _ _ _)
   | (with_reducible exact laws_sameWords.mono _ _ _)
   | (with_reducible exact spec_BrokenWord.mono _ _ _)
   | (with_reducible exact spec_DrawBrokenWord.mono _ _)
   | (with_reducible exact spec_DrawKeepsOverlapFree.mono _ _)
   | (with_reducible exact spec_DrawSquareFreeWords.mono _ _)
   | (with_reducible exact spec_FixedPrefix.mono _ _ _ _)
   | (with_reducible exact spec_HasSquare.mono _ _)
   | (with_reducible exact spec_IsSquareFreeMorphism.mono _ _)
   | (with_reducible exact spec_KeepsOverlapFree.mono _ _ _)
   | (with_reducible exact spec_KeepsSquareFree.mono _ _ _)
   | (with_reducible exact spec_SquareFreeWords.mono _ _ _)
   | (with_reducible exact LeO.refl _)
   | (with_reducible exact LeO.none _)
   | (with_reducible refine LeO.ite ?_ ?_)
   | (with_reducible refine LeO.bind ?_ (fun _ => ?_))
  ·intro y0 y1 y2 y3; unfold laws_FnFree.j2
   repeat' first
   | (with_reducible exact ih0 _ _ _ _ _ _)
   | (with_reducible exact ih1 _ _)
   | (with_reducible exact ih2 _ _ _ _)
   | (with_reducible exact ih3 _ _)
   | (with_reducible exact impl_BrokenWord.mono _ _ _)
   | (with_reducible exact impl_HasOverlap.mono _ _)
   | (with_reducible exact impl_HasSquare.mono _ _)
   | (with_reducible exact impl_IsSquareFreeMorphism.mono _ _)
   | (with_reducible exact impl_KeepsOverlapFree.mono _ _ _)
   | (with_reducible exact impl_KeepsSquareFree.mono _ _ _)
   | (with_reducible exact impl_SquareFreeWords.mono _ _ _)
   | (with_reducible exact laws_sameInts.mono _ _ _)
   | (with_reducible exact laws_sameMorphism.mono _ _ _)
   | (with_reducible exact laws_sameWords.mono _ _ _)
   | (with_reducible exact spec_BrokenWord.mono _ _ _)
   | (with_reducible exact spec_DrawBrokenWord.mono _ _)
   | (with_reducible exact spec_DrawKeepsOverlapFree.mono _ _)
   | (with_reducible exact spec_DrawSquareFreeWords.mono _ _)
   | (with_reducible exact spec_FixedPrefix.mono _ _ _ _)
   | (with_reducible exact spec_HasSquare.mono _ _)
   | (with_reducible exact spec_IsSquareFreeMorphism.mono _ _)
   | (with_reducible exact spec_KeepsOverlapFree.mono _ _ _)
   | (with_reducible exact spec_KeepsSquareFree.mono _ _ _)
   | (with_reducible exact spec_SquareFreeWords.mono _ _ _)
   | (with_reducible exact LeO.refl _)
   | (with_reducible exact LeO.none _)
   | (with_reducible refine LeO.ite ?_ ?_)
   | (with_reducible refine LeO.bind ?_ (fun _ => ?_))
  ·intro y0 y1; unfold laws_FnFree.j3
   repeat' first
   | (with_reducible exact ih0 _ _ _ _ _ _)
   | (with_reducible exact ih1 _ _)
   | (with_reducible exact ih2 _ _ _ _)
   | (with_reducible exact ih3 _ _)
   | (with_reducible exact impl_BrokenWord.mono _ _ _)
   | (with_reducible exact impl_HasOverlap.mono _ _)
   | (with_reducible exact impl_HasSquare.mono _ _)
   | (with_reducible exact impl_IsSquareFreeMorphism.mono _ _)
   | (with_reducible exact impl_KeepsOverlapFree.mono _ _ _)
   | (with_reducible exact impl_KeepsSquareFree.mono _ _ _)
   | (with_reducible exact impl_SquareFreeWords.mono _ _ _)
   | (with_reducible exact laws_sameInts.mono _ _ _)
   | (with_reducible exact laws_sameMorphism.mono _ _ _)
   | (with_reducible exact laws_sameWords.mono _ _ _)
   | (with_reducible exact spec_BrokenWord.mono _ _ _)
   | (with_reducible exact spec_DrawBrokenWord.mono _ _)
   | (with_reducible exact spec_DrawKeepsOverlapFree.mono _ _)
   | (with_reducible exact spec_DrawSquareFreeWords.mono _ _)
   | (with_reducible exact spec_FixedPrefix.mono _ _ _ _)
   | (with_reducible exact spec_HasSquare.mono _ _)
   | (with_reducible exact spec_IsSquareFreeMorphism.mono _ _)
   | (with_reducible exact spec_KeepsOverlapFree.mono _ _ _)
   | (with_reducible exact spec_KeepsSquareFree.mono _ _ _)
   | (with_reducible exact spec_SquareFreeWords.mono _ _ _)
   | (with_reducible exact LeO.refl _)
   | (with_reducible exact LeO.none _)
   | (with_reducible refine LeO.ite ?_ ?_)
   | (with_reducible refine LeO.bind ?_ (fun _ => ?_))
theorem laws_FnFree.mono : ∀ a0 k, LeO (laws_FnFree.f k a0) (laws_FnFree.f (k + 1) a0) := by
 intro a0 k; obtain ⟨ih0, ih1, ih2, ih3⟩ := laws_FnFree.mono_l k; unfold laws_FnFree.f
 repeat' first
   | (with_reducible exact ih0 _ _ _ _ _ _)
   | (with_reducible exact ih1 _ _)
   | (with_reducible exact ih2 _ _ _ _)
   | (with_reducible exact ih3 _ _)
   | (with_reducible exact impl_BrokenWord.mono _ _ _)
   | (with_reducible exact impl_HasOverlap.mono _ _)
   | (with_reducible exact impl_HasSquare.mono _ _)
   | (with_reducible exact impl_IsSquareFreeMorphism.mono _ _)
   | (with_reducible exact impl_KeepsOverlapFree.mono _ _ _)
   | (with_reducible exact impl_KeepsSquareFree.mono _ _ _)
   | (with_reducible exact impl_SquareFreeWords.mono _ _ _)
   | (with_reducible exact laws_sameInts.mono _ _ _)
   | (with_reducible exact laws_sameMorphism.mono _ _ _)
   | (with_reducible exact laws_sameWords.mono _ _ _)
   | (with_reducible exact spec_BrokenWord.mono _ _ _)
   | (with_reducible exact spec_DrawBrokenWord.mono _ _)
   | (with_reducible exact spec_DrawKeepsOverlapFree.mono _ _)
   | (with_reducible exact spec_DrawSquareFreeWords.mono _ _)
   | (with_reducible exact spec_FixedPrefix.mono _ _ _ _)
   | (with_reducible exact spec_HasSquare.mono _ _)
   | (with_reducible exact spec_IsSquareFreeMorphism.mono _ _)
   | (with_reducible exact spec_KeepsOverlapFree.mono _ _ _)
   | (with_reducible exact spec_KeepsSquareFree.mono _ _ _)
   | (with_reducible exact spec_SquareFreeWords.mono _ _ _)
   | (with_reducible exact LeO.refl _)
   | (with_reducible exact LeO.none _)
   | (with_reducible refine LeO.ite ?_ ?_)
   | (with_reducible refine LeO.bind ?_ (fun _ => ?_))
def laws_FnFree.T14 : Bool × List (List Nat × List Nat) := (true, [([], []), ([], []), ([0, 1, 1], [0, 1]), ([2], [2]), ([3, 2], [3]), ([4], [4]), ([4, 4], [4]), ([5, 6, 6, 4], [4, 5, 6]), ([7, 4], [4, 7]), ([4, 8], [4, 8]), ([9, 7], [9]), ([10], [10]), ([10], [10]), ([12, 10, 10], [10, 12]), ([13, 10], [10, 13]), ([11, 14, 13, 10], [10, 11, 14]), ([15, 10], [10, 15]), ([10, 16], [10, 16])])
def laws_FnFree.B14 : List Nat := [0, 0, 3, 7, 15, 31, 31, 127, 255, 511, 1023, 2047, 2047, 6143, 14335, 32767, 65535, 131071]
theorem laws_FnFree.tab14 : rtab .any (opsOf Try.f11 14) = laws_FnFree.T14 := by kernel_rfl
theorem laws_FnFree.bits14 : waitsOk laws_FnFree.T14.2 laws_FnFree.B14 = true := by kernel_rfl
def laws_FnFree.T24 : Bool × List (List Nat × List Nat) := (true, [([], []), ([], []), ([0, 1], [0, 1]), ([], []), ([], []), ([3, 4, 2], [3, 4]), ([2, 5], [2, 5]), ([6, 5], [6]), ([7], [7]), ([7], [7]), ([8, 9, 7], [7, 8, 9]), ([7, 10], [7, 10]), ([11, 7], [11]), ([12], [12]), ([12], [12]), ([13, 14, 12, 12], [12, 13, 14]), ([12, 15], [12, 15]), ([16, 15, 0, 1, 2, 3, 4, 5, 6, 7, 8, 9, 10, 11, 12, 13, 14, 15, 16], [16])])
def laws_FnFree.B24 : List Nat := [0, 0, 3, 0, 0, 31, 63, 127, 255, 255, 1023, 2047, 4095, 8191, 8191, 32767, 65535, 131071]
theorem laws_FnFree.tab24 : rtab .any (opsOf Try.f11 24) = laws_FnFree.T24 := by kernel_rfl
theorem laws_FnFree.bits24 : waitsOk laws_FnFree.T24.2 laws_FnFree.B24 = true := by kernel_rfl
theorem laws_FnFree.j0_no : ∀ {k : Nat} {y0} {y1} {y2} {y3} {y5} {r : Bool}, laws_FnFree.j0 k y0 y1 y2 y3 true y5 = some r → r = true → False := by
 intro k y0 y1 y2 y3 y5 r h hr; cases k with
 | zero => simp [laws_FnFree.j0] at h
 | succ k => simp only [laws_FnFree.j0] at h; rw [if_pos trivial, hr] at h; cases h
theorem laws_FnFree.j1_no : ∀ {k : Nat} {y0} {r : Bool}, laws_FnFree.j1 k y0 true = some r → r = true → False := by
 intro k y0 r h hr; cases k with
 | zero => simp [laws_FnFree.j1] at h
 | succ k => simp only [laws_FnFree.j1] at h; rw [if_pos trivial, hr] at h; cases h
theorem laws_FnFree.j2_no : ∀ {k : Nat} {y0} {y2} {y3} {r : Bool}, laws_FnFree.j2 k y0 true y2 y3 = some r → r = true → False := by
 intro k y0 y2 y3 r h hr; cases k with
 | zero => simp [laws_FnFree.j2] at h
 | succ k => simp only [laws_FnFree.j2] at h; rw [if_pos trivial, hr] at h; cases h
theorem laws_FnFree.j3_no : ∀ {k : Nat} {y0} {r : Bool}, laws_FnFree.j3 k y0 true = some r → r = true → False := by
 intro k y0 r h hr; cases k with
 | zero => simp [laws_FnFree.j3] at h
 | succ k => simp only [laws_FnFree.j3] at h; rw [if_pos trivial, hr] at h; cases h
set_option maxHeartbeats 8000000 in
set_option maxRecDepth 100000 in
theorem laws_FnFree.calls (k : Nat) (A0 : Option Addr) (c0 : Nat) (l0 : List Int) (r : Bool) (w : World) (hr0 : Kd.C (Kd.int .u8) w A0 l0.length l0) (hc0 : l0.length ≤ c0) (h : laws_FnFree.f k l0 = some r) (hRT : r = true) :
  Calls Try.prog 11 #[.slice A0 l0.length c0] w fun e w' => e = .returned (.bool r) ∧ Below w.heap.size w w' := by
 have HRT := am hRT; clear hRT; have hu28 := Try.underlying28; have HR0 := am hr0; have HC0 := am hc0; clear hr0 hc0; have HB := am (Below.refl w.heap.size w); have H : ((laws_big.f l0).bind fun t959 => (if t959 = true then (some true) else ((spec_DrawBrokenWord.f k l0).bind fun bt960 => ((impl_BrokenWord.f k bt960.1 bt960.2).bind fun bt965 => ((spec_BrokenWord.f k bt960.1 bt960.2).bind fun bt969 => ((impl_KeepsSquareFree.f k bt960.1 bt960.2).bind fun t973 => ((impl_IsSquareFreeMorphism.f k bt960.1).bind fun t974 => (if (bt965.2 != bt969.2) = true then (laws_FnFree.j0 k l0 bt965.2 bt969.1 t974 true bt960.1) else ((laws_sameInts.f k bt965.1 bt969.1).bind fun t975 => (if t975 = true then ((spec_KeepsSquareFree.f k bt960.1 bt960.2).bind fun t976 => (if (t973 != t976) = true then (laws_FnFree.j0 k l0 bt965.2 bt969.1 t974 true bt960.1) else (if t973 = true then (if bt965.2 = true then (laws_FnFree.j0 k l0 bt965.2 bt969.1 t974 true bt960.1) else ((spec_IsSquareFreeMorphism.f k bt960.1).bind fun t977 => (laws_FnFree.j0 k l0 bt965.2 bt969.1 t974 (t974 != t977) bt960.1))) else ((spec_IsSquareFreeMorphism.f k bt960.1).bind fun t978 => (laws_FnFree.j0 k l0 bt965.2 bt969.1 t974 (t974 != t978) bt960.1))))) else (laws_FnFree.j0 k l0 bt965.2 bt969.1 t974 true bt960.1))))))))))) = some r := h; clear h; replace H := Option.bind_eq_some_iff.mp H; obtain ⟨t959, A20, H⟩ := H; replace H : (if t959 = true then (some true) else ((spec_DrawBrokenWord.f k l0).bind fun bt960 => ((impl_BrokenWord.f k bt960.1 bt960.2).bind fun bt965 => ((spec_BrokenWord.f k bt960.1 bt960.2).bind fun bt969 => ((impl_KeepsSquareFree.f k bt960.1 bt960.2).bind fun t973 => ((impl_IsSquareFreeMorphism.f k bt960.1).bind fun t974 => (if (bt965.2 != bt969.2) = true then (laws_FnFree.j0 k l0 bt965.2 bt969.1 t974 true bt960.1) else ((laws_sameInts.f k bt965.1 bt969.1).bind fun t975 => (if t975 = true then ((spec_KeepsSquareFree.f k bt960.1 bt960.2).bind fun t976 => (if (t973 != t976) = true then (laws_FnFree.j0 k l0 bt965.2 bt969.1 t974 true bt960.1) else (if t973 = true then (if bt965.2 = true then (laws_FnFree.j0 k l0 bt965.2 bt969.1 t974 true bt960.1) else ((spec_IsSquareFreeMorphism.f k bt960.1).bind fun t977 => (laws_FnFree.j0 k l0 bt965.2 bt969.1 t974 (t974 != t977) bt960.1))) else ((spec_IsSquareFreeMorphism.f k bt960.1).bind fun t978 => (laws_FnFree.j0 k l0 bt965.2 bt969.1 t974 (t974 != t978) bt960.1))))) else (laws_FnFree.j0 k l0 bt965.2 bt969.1 t974 true bt960.1)))))))))) = some r := H; have A2 := am A20; clear A20; by_cases c3 : t959 = true
 ·subst c3; have H1 : (some true) = some r := by rw [if_pos rfl] at H; exact H
  clear H; have H := H1; clear H1
  as_aux_lemma =>
   obtain rfl := Option.some.inj H; go_enter Try.func11, Try.ntmps11; go_wp2_with (first | ((with_reducible refine gate_callee (f := 41) rfl ?_); refine goesL_ (some 26) rfl rfl Try.func41 (by kernel_rfl) rfl #[.slice A0 l0.length c0] rfl (by (try simp only [mT, mC, mN]); first | done | rfl) ?_; (with_reducible refine (laws_big.calls _ _ l0 true _ ?side1 ?side2 A2.out).mono ?_); (case side1 => exact xC (HR0.out)); (case side2 => exact HC0.out); rintro e w' ⟨rfl, ⟨nd, rfl⟩⟩; refine ⟨_, rfl, ?_⟩)); go_ret; exact ⟨by first | rfl | (simp [errW_none, errW_some] <;> rfl) | (simp [*, errW_none, errW_some] <;> rfl), by exact rB HB⟩
 ·replace c3 := Bool.eq_false_iff.mpr c3; subst c3; have H1 : ((spec_DrawBrokenWord.f k l0).bind fun bt960 => ((impl_BrokenWord.f k bt960.1 bt960.2).bind fun bt965 => ((spec_BrokenWord.f k bt960.1 bt960.2).bind fun bt969 => ((impl_KeepsSquareFree.f k bt960.1 bt960.2).bind fun t973 => ((impl_IsSquareFreeMorphism.f k bt960.1).bind fun t974 => (if (bt965.2 != bt969.2) = true then (laws_FnFree.j0 k l0 bt965.2 bt969.1 t974 true bt960.1) else ((laws_sameInts.f k bt965.1 bt969.1).bind fun t975 => (if t975 = true then ((spec_KeepsSquareFree.f k bt960.1 bt960.2).bind fun t976 => (if (t973 != t976) = true then (laws_FnFree.j0 k l0 bt965.2 bt969.1 t974 true bt960.1) else (if t973 = true then (if bt965.2 = true then (laws_FnFree.j0 k l0 bt965.2 bt969.1 t974 true bt960.1) else ((spec_IsSquareFreeMorphism.f k bt960.1).bind fun t977 => (laws_FnFree.j0 k l0 bt965.2 bt969.1 t974 (t974 != t977) bt960.1))) else ((spec_IsSquareFreeMorphism.f k bt960.1).bind fun t978 => (laws_FnFree.j0 k l0 bt965.2 bt969.1 t974 (t974 != t978) bt960.1))))) else (laws_FnFree.j0 k l0 bt965.2 bt969.1 t974 true bt960.1))))))))) = some r := by rw [if_neg (show ¬ (false = true) by decide)] at H; exact H
  clear H; have H := H1; clear H1; replace H := Option.bind_eq_some_iff.mp H; obtain ⟨⟨t960, t963⟩, A40, H⟩ := H; replace H : ((impl_BrokenWord.f k t960 t963).bind fun bt965 => ((spec_BrokenWord.f k t960 t963).bind fun bt969 => ((impl_KeepsSquareFree.f k t960 t963).bind fun t973 => ((impl_IsSquareFreeMorphism.f k t960).bind fun t974 => (if (bt965.2 != bt969.2) = true then (laws_FnFree.j0 k l0 bt965.2 bt969.1 t974 true t960) else ((laws_sameInts.f k bt965.1 bt969.1).bind fun t975 => (if t975 = true then ((spec_KeepsSquareFree.f k t960 t963).bind fun t976 => (if (t973 != t976) = true then (laws_FnFree.j0 k l0 bt965.2 bt969.1 t974 true t960) else (if t973 = true then (if bt965.2 = true then (laws_FnFree.j0 k l0 bt965.2 bt969.1 t974 true t960) else ((spec_IsSquareFreeMorphism.f k t960).bind fun t977 => (laws_FnFree.j0 k l0 bt965.2 bt969.1 t974 (t974 != t977) t960))) else ((spec_IsSquareFreeMorphism.f k t960).bind fun t978 => (laws_FnFree.j0 k l0 bt965.2 bt969.1 t974 (t974 != t978) t960))))) else (laws_FnFree.j0 k l0 bt965.2 bt969.1 t974 true t960)))))))) = some r := H; have A4 := am A40; clear A40; replace H := Option.bind_eq_some_iff.mp H; obtain ⟨⟨t965, t968⟩, A50, H⟩ := H; replace H : ((spec_BrokenWord.f k t960 t963).bind fun bt969 => ((impl_KeepsSquareFree.f k t960 t963).bind fun t973 => ((impl_IsSquareFreeMorphism.f k t960).bind fun t974 => (if (t968 != bt969.2) = true then (laws_FnFree.j0 k l0 t968 bt969.1 t974 true t960) else ((laws_sameInts.f k t965 bt969.1).bind fun t975 => (if t975 = true then ((spec_KeepsSquareFree.f k t960 t963).bind fun t976 => (if (t973 != t976) = true then (laws_FnFree.j0 k l0 t968 bt969.1 t974 true t960) else (if t973 = true then (if t968 = true then (laws_FnFree.j0 k l0 t968 bt969.1 t974 true t960) else ((spec_IsSquareFreeMorphism.f k t960).bind fun t977 => (laws_FnFree.j0 k l0 t968 bt969.1 t974 (t974 != t977) t960))) else ((spec_IsSquareFreeMorphism.f k t960).bind fun t978 => (laws_FnFree.j0 k l0 t968 bt969.1 t974 (t974 != t978) t960))))) else (laws_FnFree.j0 k l0 t968 bt969.1 t974 true t960))))))) = some r := H; have A5 := am A50; clear A50; replace H := Option.bind_eq_some_iff.mp H; obtain ⟨⟨t969, t972⟩, A60, H⟩ := H; replace H : ((impl_KeepsSquareFree.f k t960 t963).bind fun t973 => ((impl_IsSquareFreeMorphism.f k t960).bind fun t974 => (if (t968 != t972) = true then (laws_FnFree.j0 k l0 t968 t969 t974 true t960) else ((laws_sameInts.f k t965 t969).bind fun t975 => (if t975 = true then ((spec_KeepsSquareFree.f k t960 t963).bind fun t976 => (if (t973 != t976) = true then (laws_FnFree.j0 k l0 t968 t969 t974 true t960) else (if t973 = true then (if t968 = true then (laws_FnFree.j0 k l0 t968 t969 t974 true t960) else ((spec_IsSquareFreeMorphism.f k t960).bind fun t977 => (laws_FnFree.j0 k l0 t968 t969 t974 (t974 != t977) t960))) else ((spec_IsSquareFreeMorphism.f k t960).bind fun t978 => (laws_FnFree.j0 k l0 t968 t969 t974 (t974 != t978) t960))))) else (laws_FnFree.j0 k l0 t968 t969 t974 true t960)))))) = some r := H; have A6 := am A60; clear A60; replace H := Option.bind_eq_some_iff.mp H; obtain ⟨t973, A70, H⟩ := H; replace H : ((impl_IsSquareFreeMorphism.f k t960).bind fun t974 => (if (t968 != t972) = true then (laws_FnFree.j0 k l0 t968 t969 t974 true t960) else ((laws_sameInts.f k t965 t969).bind fun t975 => (if t975 = true then ((spec_KeepsSquareFree.f k t960 t963).bind fun t976 => (if (t973 != t976) = true then (laws_FnFree.j0 k l0 t968 t969 t974 true t960) else (if t973 = true then (if t968 = true then (laws_FnFree.j0 k l0 t968 t969 t974 true t960) else ((spec_IsSquareFreeMorphism.f k t960).bind fun t977 => (laws_FnFree.j0 k l0 t968 t969 t974 (t974 != t977) t960))) else ((spec_IsSquareFreeMorphism.f k t960).bind fun t978 => (laws_FnFree.j0 k l0 t968 t969 t974 (t974 != t978) t960))))) else (laws_FnFree.j0 k l0 t968 t969 t974 true t960))))) = some r := H; have A7 := am A70; clear A70; replace H := Option.bind_eq_some_iff.mp H; obtain ⟨t974, A80, H⟩ := H; replace H : (if (t968 != t972) = true then (laws_FnFree.j0 k l0 t968 t969 t974 true t960) else ((laws_sameInts.f k t965 t969).bind fun t975 => (if t975 = true then ((spec_KeepsSquareFree.f k t960 t963).bind fun t976 => (if (t973 != t976) = true then (laws_FnFree.j0 k l0 t968 t969 t974 true t960) else (if t973 = true then (if t968 = true then (laws_FnFree.j0 k l0 t968 t969 t974 true t960) else ((spec_IsSquareFreeMorphism.f k t960).bind fun t977 => (laws_FnFree.j0 k l0 t968 t969 t974 (t974 != t977) t960))) else ((spec_IsSquareFreeMorphism.f k t960).bind fun t978 => (laws_FnFree.j0 k l0 t968 t969 t974 (t974 != t978) t960))))) else (laws_FnFree.j0 k l0 t968 t969 t974 true t960)))) = some r := H; have A8 := am A80; clear A80; have HC9 := am H; clear H; go_enter Try.func11, Try.ntmps11; go_upto_region 8 with (first | ((with_reducible refine gate_callee (f := 41) rfl ?_); refine goesL_ (some 26) rfl rfl Try.func41 (by kernel_rfl) rfl #[.slice A0 l0.length c0] rfl (by (try simp only [mT, mC, mN]); first | done | rfl) ?_; (with_reducible refine (laws_big.calls _ _ l0 false _ ?side1 ?side2 A2.out).mono ?_); (case side1 => exact xC (HR0.out)); (case side2 => exact HC0.out); rintro e w' ⟨rfl, ⟨nd, rfl⟩⟩; refine ⟨_, rfl, ?_⟩) | ((with_reducible refine gate_callee (f := 42) rfl ?_); refine goesL_ (some 29) rfl rfl Try.func42 (by kernel_rfl) rfl #[.slice A0 l0.length c0] rfl (by (try simp only [mT, mC, mN]); first | done | rfl) ?_; (with_reducible refine (spec_DrawBrokenWord.calls k _ _ l0 t960 t963 _ ?side1 ?side2 A4.out).mono ?_); (case side1 => exact xC (HR0.out)); (case side2 => exact HC0.out); rintro e w10 ⟨v961, rfl, ho0, hb⟩; refine ⟨_, rfl, ?_⟩; have HO962 := am (Kd.N_lower (Kd.N_mono (ok' := fun k_ => True) ho0 (fun k_ hk_ => trivial)) (below_size (by exact rB HB))); replace HB := am (below_step (by exact rB HB) hb); clear hb ho0) | ((with_reducible refine gate_dst (N := 3) rfl ?_); refine box_event ?hg (N := 3) ?hd (cs := #[.slice none 0 0]) (t := 28) ?hr ?_; (case hd => rfl); (case hg => rfl); (case hr => first | (go_simp; done) | (go_simp; rfl)); intro gb964 hg w11 hbox hb; replace HO962 := am (Kd.N_below (Kd.N_elderB (by exact rN HO962) gb964 (Nat.le_of_eq hg.symm)) hb); have BK964 := am (hbox); have GW964 := am ((by rw [hg]; exact (below_size (by exact rB HB)) : w.heap.size ≤ gb964)); have GE964 := am ((by rw [hg]; exact (below_size (by exact rB HB)) : w.heap.size ≤ gb964)); replace HB := am (below_step (by exact rB HB) hb); have qW964 := Ge.mk GW964.out; have qE964 := Ge.mk GE964.out; clear hb hbox hg; obtain ⟨Ao12, co12, eo12⟩ := Kd.N_slice HO962.out; subst eo12; have hcz13_0 : w11.cell? ⟨gb964, 0, none⟩ = some (.slice none 0 0) := (blk_cell BK964.out 0).trans rfl; have hfz13_0 := blk_frozen BK964.out 0) | ((with_reducible refine gate_callee (f := 38) rfl ?_); refine goesL_ (some 35) rfl rfl Try.func38 (by kernel_rfl) rfl #[.agg #[.slice Ao12 t960.length co12], .int .i64 t963] rfl (by (try simp only [mT, mC, mN]); first | done | rfl) ?_; (with_reducible refine (impl_BrokenWord.calls k _ _ t960 t963 t965 t968 _ ?side1 ?side2 A5.out).mono ?_); (case side1 => refine (Kd.N_reads' (e := 36) (base := w.heap.size) (ok := fun k_ => (True ∧ k_ ≠ gb964)) (n := t960.length) (c := co12) ?_).2.2; exact (by exact xN ((Kd.N_mono (Kd.N_far (p := ⟨gb964, 0, none⟩) (Kd.N_mono HO962.out (fun k_ hk => (⟨hk, hk.2⟩ : _ ∧ k_ ≠ gb964))) (fun _ hk => hk.2) (.slice Ao12 t960.length co12)) (fun _ h_ => h_.1))))); (case side2 => exact (Kd.N_reads' HO962.out).2.1); rintro e w14 ⟨v966, rfl, ho0, hb⟩; refine ⟨_, rfl, ?_⟩; have HO967 := am (Kd.V_lower (Kd.V_mono (ok' := fun k_ => some k_ ≠ (.slice Ao12 t960.length co12 : Value).ownBlock ∧ k_ ≠ gb964) ho0 (fun k_ hk_ => ⟨(Kd.fresh' (Kd.N_lt (by exact xN ((Kd.N_mono (Kd.N_far (p := ⟨gb964, 0, none⟩) (Kd.N_mono HO962.out (fun k_ hk => (⟨hk, hk.2⟩ : _ ∧ k_ ≠ gb964))) (fun _ hk => hk.2) (.slice Ao12 t960.length co12)) (fun _ h_ => h_.1))))) k_ hk_), (Kd.freshB (g := gb964) (o := .cells #[.slice Ao12 t960.length co12] 28 (0, 0)) (by (with_reducible repeat (first | refine blk_drewN ?_ _ | refine blk_drew ?_ | refine blk_alloc ?_ _)); refine blk_put (cs := #[.slice none 0 0]) ?_ 0 _ rfl; exact rX BK964) k_ hk_)⟩)) (below_size (by exact rB HB))); replace HO962 := am (Kd.N_below (by exact xN ((Kd.N_mono (Kd.N_far (p := ⟨gb964, 0, none⟩) (Kd.N_mono HO962.out (fun k_ hk => (⟨hk, hk.2⟩ : _ ∧ k_ ≠ gb964))) (fun _ hk => hk.2) (.slice Ao12 t960.length co12)) (fun _ h_ => h_.1)))) hb); replace BK964 := am (blk_below (g := gb964) (o := .cells #[.slice Ao12 t960.length co12] 28 (0, 0)) (by (with_reducible repeat (first | refine blk_drewN ?_ _ | refine blk_drew ?_ | refine blk_alloc ?_ _)); refine blk_put (cs := #[.slice none 0 0]) ?_ 0 _ rfl; exact rX BK964) hb); replace HB := am (below_step (by exact rB HB) hb); clear hb ho0; have hcz15_0 : w14.cell? ⟨gb964, 0, none⟩ = some (.slice Ao12 t960.length co12) := (blk_cell BK964.out 0).trans rfl; have hfz15_0 := blk_frozen BK964.out 0) | ((with_reducible refine gate_callee (f := 37) rfl ?_); refine goesL_ (some 41) rfl rfl Try.func37 (by kernel_rfl) rfl #[.agg #[.slice Ao12 t960.length co12], .int .i64 t963] rfl (by (try simp only [mT, mC, mN]); first | done | rfl) ?_; (with_reducible refine (spec_BrokenWord.calls k _ _ t960 t963 t969 t972 _ ?side1 ?side2 A6.out).mono ?_); (case side1 => exact xC ((Kd.N_reads' HO962.out).2.2)); (case side2 => exact (Kd.N_reads' HO962.out).2.1); rintro e w16 ⟨v970, rfl, ho0, hb⟩; refine ⟨_, rfl, ?_⟩; replace HO962 := am (Kd.N_elder' (by exact rN HO962) (Kd.R_base ho0) hb); replace HO967 := am (Kd.V_elder' (by exact rV HO967) (Kd.R_base ho0) hb); have HO971 := am (Kd.R_lower ho0 (below_size (by exact rB HB))); replace BK964 := am (blk_below (g := gb964) (o := .cells #[.slice Ao12 t960.length co12] 28 (0, 0)) (by exact rX BK964) hb); replace HB := am (below_step (by exact rB HB) hb); clear hb ho0; have hcz17_0 : w16.cell? ⟨gb964, 0, none⟩ = some (.slice Ao12 t960.length co12) := (blk_cell BK964.out 0).trans rfl; have hfz17_0 := blk_frozen BK964.out 0) | ((with_reducible refine gate_callee (f := 36) rfl ?_); refine goesL_ (some 46) rfl rfl Try.func36 (by kernel_rfl) rfl #[.agg #[.slice Ao12 t960.length co12], .int .i64 t963] rfl (by (try simp only [mT, mC, mN]); first | done | rfl) ?_; (with_reducible refine (impl_KeepsSquareFree.calls k _ _ t960 t963 t973 _ ?side1 ?side2 A7.out).mono ?_); (case side1 => exact xC ((Kd.N_reads' HO962.out).2.2)); (case side2 => exact (Kd.N_reads' HO962.out).2.1); rintro e w18 ⟨rfl, hb⟩; refine ⟨_, rfl, ?_⟩; replace HO962 := am (Kd.N_below (by exact rN HO962) hb); replace HO967 := am (Kd.V_below (by exact rV HO967) hb); replace HO971 := am (Kd.R_below (by exact rR HO971) hb); replace BK964 := am (blk_below (g := gb964) (o := .cells #[.slice Ao12 t960.length co12] 28 (0, 0)) (by exact rX BK964) hb); replace HB := am (below_step (by exact rB HB) hb); clear hb; have hcz19_0 : w18.cell? ⟨gb964, 0, none⟩ = some (.slice Ao12 t960.length co12) := (blk_cell BK964.out 0).trans rfl; have hfz19_0 := blk_frozen BK964.out 0) | ((with_reducible refine gate_callee (f := 40) rfl ?_); refine goesL_ (some 48) rfl rfl Try.func40 (by kernel_rfl) rfl #[.agg #[.slice Ao12 t960.length co12]] rfl (by (try simp only [mT, mC, mN]); first | done | rfl) ?_; (with_reducible refine (impl_IsSquareFreeMorphism.calls k _ _ t960 t974 _ ?side1 ?side2 A8.out).mono ?_); (case side1 => exact xC ((Kd.N_reads' HO962.out).2.2)); (case side2 => exact (Kd.N_reads' HO962.out).2.1); rintro e w20 ⟨rfl, hb⟩; refine ⟨_, rfl, ?_⟩; replace HO962 := am (Kd.N_below (by exact rN HO962) hb); replace HO967 := am (Kd.V_below (by exact rV HO967) hb); replace HO971 := am (Kd.R_below (by exact rR HO971) hb); replace BK964 := am (blk_below (g := gb964) (o := .cells #[.slice Ao12 t960.length co12] 28 (0, 0)) (by exact rX BK964) hb); replace HB := am (below_step (by exact rB HB) hb); clear hb)); (try simp only [Act.put, qa, qz, qs]); go_cut [76] (fun v76 wc => ∃ (kq : Nat) (x76_8 : Bool), v76 = .bool x76_8 ∧ Aside0 (laws_FnFree.j0 kq l0 t968 t969 t974 x76_8 t960 = some r) ∧ Aside0 (kq ≤ k) ∧ Aside0 (Kd.R (Kd.int .i64) 3 wc w.heap.size (fun _ => True) v970 t969) ∧ Aside0 (Kd.N (Kd.slice 3 (Kd.int .i64)) 36 wc w.heap.size (fun k_ => some k_ ≠ (v970 : Value).ownBlock ∧ k_ ≠ gb964) (.slice Ao12 t960.length co12) t960) ∧ Aside0 (wc.heap[gb964]? = some (.cells #[(.slice Ao12 t960.length co12)] 28 (0, 0))) ∧ Aside0 (Below w.heap.size w wc))
  case first =>
   have H := HC9.out; clear HC9; by_cases c21 : (t968 != t972) = true
   ·rw [if_pos c21] at H; have c21b0 : (t968 != t972) = true := c21; (try (have c21b1 : decide (t968 = t972) = false := by simpa using c21)); (try (have c21b2 : (t968 == t972) = false := by simpa using c21)); (try (have c21b3 : ¬ (t968 = t972) := by simpa using c21)); clear c21
    (first | rw [c21b0] | (simp only [i64_w, i32_w]; rw [c21b0]) | skip)
    as_aux_lemma =>
     first | exact (laws_FnFree.j0_no H HRT.out).elim | exact (laws_FnFree.j1_no H HRT.out).elim | exact (laws_FnFree.j2_no H HRT.out).elim | exact (laws_FnFree.j3_no H HRT.out).elim
   ·rw [if_neg c21] at H; have c21b0 : (t968 != t972) = false := by simpa using c21
    (try (have c21b1 : decide (t968 = t972) = true := by simpa using c21)); (try (have c21b2 : (t968 == t972) = true := by simpa using c21)); clear c21
    (first | rw [c21b0] | (simp only [i64_w, i32_w]; rw [c21b0]) | skip)
    replace H := Option.bind_eq_some_iff.mp H; obtain ⟨t975, A220, H⟩ := H; replace H : (if t975 = true then ((spec_KeepsSquareFree.f k t960 t963).bind fun t976 => (if (t973 != t976) = true then (laws_FnFree.j0 k l0 t968 t969 t974 true t960) else (if t973 = true then (if t968 = true then (laws_FnFree.j0 k l0 t968 t969 t974 true t960) else ((spec_IsSquareFreeMorphism.f k t960).bind fun t977 => (laws_FnFree.j0 k l0 t968 t969 t974 (t974 != t977) t960))) else ((spec_IsSquareFreeMorphism.f k t960).bind fun t978 => (laws_FnFree.j0 k l0 t968 t969 t974 (t974 != t978) t960))))) else (laws_FnFree.j0 k l0 t968 t969 t974 true t960)) = some r := H; have A22 := am A220; clear A220; by_cases c23 : t975 = true
    ·subst c23; have H1 : ((spec_KeepsSquareFree.f k t960 t963).bind fun t976 => (if (t973 != t976) = true then (laws_FnFree.j0 k l0 t968 t969 t974 true t960) else (if t973 = true then (if t968 = true then (laws_FnFree.j0 k l0 t968 t969 t974 true t960) else ((spec_IsSquareFreeMorphism.f k t960).bind fun t977 => (laws_FnFree.j0 k l0 t968 t969 t974 (t974 != t977) t960))) else ((spec_IsSquareFreeMorphism.f k t960).bind fun t978 => (laws_FnFree.j0 k l0 t968 t969 t974 (t974 != t978) t960))))) = some r := by rw [if_pos rfl] at H; exact H
     clear H; have H := H1; clear H1; replace H := Option.bind_eq_some_iff.mp H; obtain ⟨t976, A240, H⟩ := H; replace H : (if (t973 != t976) = true then (laws_FnFree.j0 k l0 t968 t969 t974 true t960) else (if t973 = true then (if t968 = true then (laws_FnFree.j0 k l0 t968 t969 t974 true t960) else ((spec_IsSquareFreeMorphism.f k t960).bind fun t977 => (laws_FnFree.j0 k l0 t968 t969 t974 (t974 != t977) t960))) else ((spec_IsSquareFreeMorphism.f k t960).bind fun t978 => (laws_FnFree.j0 k l0 t968 t969 t974 (t974 != t978) t960)))) = some r := H; have A24 := am A240; clear A240; by_cases c25 : (t973 != t976) = true
     ·rw [if_pos c25] at H; have c25b0 : (t973 != t976) = true := c25; (try (have c25b1 : decide (t973 = t976) = false := by simpa using c25)); (try (have c25b2 : (t973 == t976) = false := by simpa using c25)); (try (have c25b3 : ¬ (t973 = t976) := by simpa using c25)); clear c25
      as_aux_lemma =>
       first | exact (laws_FnFree.j0_no H HRT.out).elim | exact (laws_FnFree.j1_no H HRT.out).elim | exact (laws_FnFree.j2_no H HRT.out).elim | exact (laws_FnFree.j3_no H HRT.out).elim
     ·rw [if_neg c25] at H; have c25b0 : (t973 != t976) = false := by simpa using c25
      (try (have c25b1 : decide (t973 = t976) = true := by simpa using c25)); (try (have c25b2 : (t973 == t976) = true := by simpa using c25)); clear c25; by_cases c30 : t973 = true
      ·subst c30; have H1 : (if t968 = true then (laws_FnFree.j0 k l0 t968 t969 t974 true t960) else ((spec_IsSquareFreeMorphism.f k t960).bind fun t977 => (laws_FnFree.j0 k l0 t968 t969 t974 (t974 != t977) t960))) = some r := by rw [if_pos rfl] at H; exact H
       clear H; have H := H1; clear H1; by_cases c31 : t968 = true
       ·subst c31; have H1 : (laws_FnFree.j0 k l0 true t969 t974 true t960) = some r := by rw [if_pos rfl] at H; exact H
        clear H; have H := H1; clear H1
        as_aux_lemma =>
         first | exact (laws_FnFree.j0_no H HRT.out).elim | exact (laws_FnFree.j1_no H HRT.out).elim | exact (laws_FnFree.j2_no H HRT.out).elim | exact (laws_FnFree.j3_no H HRT.out).elim
       ·replace c31 := Bool.eq_false_iff.mpr c31; subst c31; have H1 : ((spec_IsSquareFreeMorphism.f k t960).bind fun t977 => (laws_FnFree.j0 k l0 false t969 t974 (t974 != t977) t960)) = some r := by rw [if_neg (show ¬ (false = true) by decide)] at H; exact H
        clear H; have H := H1; clear H1; replace H := Option.bind_eq_some_iff.mp H; obtain ⟨t977, A360, H⟩ := H; replace H : (laws_FnFree.j0 k l0 false t969 t974 (t974 != t977) t960) = some r := H; have A36 := am A360; clear A360
        as_aux_lemma =>
         have H' := am H; clear H; obtain ⟨Ao37, co37, eo37⟩ := Kd.V_slice HO967.out; subst eo37; obtain ⟨Ao38, co38, eo38⟩ := Kd.R_slice HO971.out; subst eo38; go_wp2_with (first | (go_at_call 43; (with_reducible refine (laws_sameInts.calls k _ _ t965 _ _ t969 true _ ?side1 ?side2 ?side3 ?side4 A22.out).mono ?_); (case side1 => exact xC ((Kd.V_reads' HO967.out).2.2)); (case side2 => exact (Kd.V_reads' HO967.out).2.1); (case side3 => exact xC ((Kd.R_reads' HO971.out).2.2)); (case side4 => exact (Kd.R_reads' HO971.out).2.1); rintro e w' ⟨rfl, ⟨nd, rfl⟩⟩; have hcz39_0 : w20.cell? ⟨gb964, 0, none⟩ = some (.slice Ao12 t960.length co12) := (blk_cell BK964.out 0).trans rfl; have hfz39_0 := blk_frozen BK964.out 0) | (go_at_call 35; (with_reducible refine (spec_KeepsSquareFree.calls k _ _ t960 t963 t976 _ ?side1 ?side2 A24.out).mono ?_); (case side1 => exact xC ((Kd.N_reads' HO962.out).2.2)); (case side2 => exact (Kd.N_reads' HO962.out).2.1); rintro e w40 ⟨rfl, hb⟩; replace HO962 := am (Kd.N_below (by exact rN HO962) hb); replace HO967 := am (Kd.V_below (by exact rV HO967) hb); replace HO971 := am (Kd.R_below (by exact rR HO971) hb); replace BK964 := am (blk_below (g := gb964) (o := .cells #[.slice Ao12 t960.length co12] 28 (0, 0)) (by exact rX BK964) hb); replace HB := am (below_step (by exact rB HB) hb); clear hb; have hcz41_0 : w40.cell? ⟨gb964, 0, none⟩ = some (.slice Ao12 t960.length co12) := (blk_cell BK964.out 0).trans rfl; have hfz41_0 := blk_frozen BK964.out 0) | (go_at_call 39; (with_reducible refine (spec_IsSquareFreeMorphism.calls k _ _ t960 t977 _ ?side1 ?side2 A36.out).mono ?_); (case side1 => exact xC ((Kd.N_reads' HO962.out).2.2)); (case side2 => exact (Kd.N_reads' HO962.out).2.1); rintro e w42 ⟨rfl, hb⟩; replace HO962 := am (Kd.N_below (by exact rN HO962) hb); replace HO967 := am (Kd.V_below (by exact rV HO967) hb); replace HO971 := am (Kd.R_below (by exact rR HO971) hb); replace BK964 := am (blk_below (g := gb964) (o := .cells #[.slice Ao12 t960.length co12] 28 (0, 0)) (by exact rX BK964) hb); replace HB := am (below_step (by exact rB HB) hb); clear hb)); go_meet
         case rel => exact ⟨_, ((t974 != t977)), (by first | rfl | (simp; done) | (simp [*]; done)), H', ⟨by first | omega | exact Nat.le_refl _⟩, ⟨by exact rR HO971⟩, ⟨by exact xN (Kd.N_mono HO962.out (fun _ hk => ⟨hk.2, hk.1.2⟩))⟩, ⟨by exact rX BK964⟩, ⟨by exact rB HB⟩⟩
      ·replace c30 := Bool.eq_false_iff.mpr c30; subst c30; have H1 : ((spec_IsSquareFreeMorphism.f k t960).bind fun t978 => (laws_FnFree.j0 k l0 t968 t969 t974 (t974 != t978) t960)) = some r := by rw [if_neg (show ¬ (false = true) by decide)] at H; exact H
       clear H; have H := H1; clear H1; replace H := Option.bind_eq_some_iff.mp H; obtain ⟨t978, A430, H⟩ := H; replace H : (laws_FnFree.j0 k l0 t968 t969 t974 (t974 != t978) t960) = some r := H; have A43 := am A430; clear A430
       as_aux_lemma =>
        have H' := am H; clear H; obtain ⟨Ao44, co44, eo44⟩ := Kd.V_slice HO967.out; subst eo44; obtain ⟨Ao45, co45, eo45⟩ := Kd.R_slice HO971.out; subst eo45; go_wp2_with (first | (go_at_call 43; (with_reducible refine (laws_sameInts.calls k _ _ t965 _ _ t969 true _ ?side1 ?side2 ?side3 ?side4 A22.out).mono ?_); (case side1 => exact xC ((Kd.V_reads' HO967.out).2.2)); (case side2 => exact (Kd.V_reads' HO967.out).2.1); (case side3 => exact xC ((Kd.R_reads' HO971.out).2.2)); (case side4 => exact (Kd.R_reads' HO971.out).2.1); rintro e w' ⟨rfl, ⟨nd, rfl⟩⟩; have hcz46_0 : w20.cell? ⟨gb964, 0, none⟩ = some (.slice Ao12 t960.length co12) := (blk_cell BK964.out 0).trans rfl; have hfz46_0 := blk_frozen BK964.out 0) | (go_at_call 35; (with_reducible refine (spec_KeepsSquareFree.calls k _ _ t960 t963 t976 _ ?side1 ?side2 A24.out).mono ?_); (case side1 => exact xC ((Kd.N_reads' HO962.out).2.2)); (case side2 => exact (Kd.N_reads' HO962.out).2.1); rintro e w47 ⟨rfl, hb⟩; replace HO962 := am (Kd.N_below (by exact rN HO962) hb); replace HO967 := am (Kd.V_below (by exact rV HO967) hb); replace HO971 := am (Kd.R_below (by exact rR HO971) hb); replace BK964 := am (blk_below (g := gb964) (o := .cells #[.slice Ao12 t960.length co12] 28 (0, 0)) (by exact rX BK964) hb); replace HB := am (below_step (by exact rB HB) hb); clear hb; have hcz48_0 : w47.cell? ⟨gb964, 0, none⟩ = some (.slice Ao12 t960.length co12) := (blk_cell BK964.out 0).trans rfl; have hfz48_0 := blk_frozen BK964.out 0) | (go_at_call 39; (with_reducible refine (spec_IsSquareFreeMorphism.calls k _ _ t960 t978 _ ?side1 ?side2 A43.out).mono ?_); (case side1 => exact xC ((Kd.N_reads' HO962.out).2.2)); (case side2 => exact (Kd.N_reads' HO962.out).2.1); rintro e w49 ⟨rfl, hb⟩; replace HO962 := am (Kd.N_below (by exact rN HO962) hb); replace HO967 := am (Kd.V_below (by exact rV HO967) hb); replace HO971 := am (Kd.R_below (by exact rR HO971) hb); replace BK964 := am (blk_below (g := gb964) (o := .cells #[.slice Ao12 t960.length co12] 28 (0, 0)) (by exact rX BK964) hb); replace HB := am (below_step (by exact rB HB) hb); clear hb)); go_meet
        case rel => exact ⟨_, ((t974 != t978)), (by first | rfl | (simp; done) | (simp [*]; done)), H', ⟨by first | omega | exact Nat.le_refl _⟩, ⟨by exact rR HO971⟩, ⟨by exact xN (Kd.N_mono HO962.out (fun _ hk => ⟨hk.2, hk.1.2⟩))⟩, ⟨by exact rX BK964⟩, ⟨by exact rB HB⟩⟩
    ·replace c23 := Bool.eq_false_iff.mpr c23; subst c23; have H1 : (laws_FnFree.j0 k l0 t968 t969 t974 true t960) = some r := by rw [if_neg (show ¬ (false = true) by decide)] at H; exact H
     clear H; have H := H1; clear H1
     as_aux_lemma =>
      first | exact (laws_FnFree.j0_no H HRT.out).elim | exact (laws_FnFree.j1_no H HRT.out).elim | exact (laws_FnFree.j2_no H HRT.out).elim | exact (laws_FnFree.j3_no H HRT.out).elim
  case rest =>
   clear HC9
   try clear c1
   try clear c2
   try clear p2
   try clear c3
   try clear c4
   try clear c11
   try clear c21
   try clear c21b0
   try clear c21b1
   try clear c21b2
   try clear c23
   try clear c25
   try clear c25b0
   try clear c25b1
   try clear c25b2
   try clear c30
   try clear c31
   try clear c36
   try clear c37
   try clear c38
   try clear c40
   try clear c41
   try clear c42
   try clear hcz13_0
   try clear hcz15_0
   try clear hcz17_0
   try clear hcz19_0
   try clear hcz28_0
   try clear hcz34_0
   try clear hcz39_0
   try clear hcz41_0
   try clear hcz46_0
   try clear hcz48_0
   try clear hfz13_0
   try clear hfz15_0
   try clear hfz17_0
   try clear hfz19_0
   try clear hfz28_0
   try clear hfz34_0
   try clear hfz39_0
   try clear hfz41_0
   try clear hfz46_0
   try clear hfz48_0
   obtain ⟨kq, x76_8, rfl, HA, HJ8, HO_7, HO_965000, BK964, HB⟩ := hcut; cases kq with
   | zero => exact absurd HA.out (by simp [laws_FnFree.j0])
   | succ kj8 =>
    have H := HA.out; clear HA; simp only [laws_FnFree.j0] at H; by_cases c52 : x76_8 = true
    ·subst c52; have H1 : (some false) = some r := by rw [if_pos rfl] at H; exact H
     rw [HRT.out] at H1; cases H1
    ·replace c52 := Bool.eq_false_iff.mpr c52; subst c52; have H1 : (if t968 = true then ((spec_HasSquare.f kj8 t969).bind fun t979 => (if t979 = true then (laws_FnFree.j1 kj8 l0 true) else (if t974 = true then ((spec_KeepsSquareFree.f kj8 t960 4).bind fun t980 => (laws_FnFree.j1 kj8 l0 (!t980))) else (laws_FnFree.j1 kj8 l0 false)))) else (if t974 = true then ((spec_KeepsSquareFree.f kj8 t960 4).bind fun t981 => (laws_FnFree.j1 kj8 l0 (!t981))) else (laws_FnFree.j1 kj8 l0 false))) = some r := by rw [if_neg (show ¬ (false = true) by decide)] at H; exact H
     clear H; have H := H1; clear H1; have HC53 := am H; clear H; go_upto_region 10 with (fail); go_cut [89] (fun v89 wc => ∃ (kq : Nat) (x89_52 : Bool), v89 = .bool x89_52 ∧ Aside0 (laws_FnFree.j1 kq l0 x89_52 = some r) ∧ Aside0 (kq ≤ kj8) ∧ Aside0 (Kd.N (Kd.slice 3 (Kd.int .i64)) 36 wc w.heap.size (fun k_ => k_ ≠ gb964) (.slice Ao12 t960.length co12) t960) ∧ Aside0 (wc.heap[gb964]? = some (.cells #[(.slice Ao12 t960.length co12)] 28 (0, 0))) ∧ Aside0 (Below w.heap.size w wc))
     case first =>
      have H := HC53.out; clear HC53; by_cases c54 : t968 = true
      ·subst c54; have H1 : ((spec_HasSquare.f kj8 t969).bind fun t979 => (if t979 = true then (laws_FnFree.j1 kj8 l0 true) else (if t974 = true then ((spec_KeepsSquareFree.f kj8 t960 4).bind fun t980 => (laws_FnFree.j1 kj8 l0 (!t980))) else (laws_FnFree.j1 kj8 l0 false)))) = some r := by rw [if_pos rfl] at H; exact H
       clear H; have H := H1; clear H1; replace H := Option.bind_eq_some_iff.mp H; obtain ⟨t979, A550, H⟩ := H; replace H : (if t979 = true then (laws_FnFree.j1 kj8 l0 true) else (if t974 = true then ((spec_KeepsSquareFree.f kj8 t960 4).bind fun t980 => (laws_FnFree.j1 kj8 l0 (!t980))) else (laws_FnFree.j1 kj8 l0 false))) = some r := H; have A55 := am A550; clear A550; by_cases c56 : t979 = true
       ·subst c56; have H1 : (laws_FnFree.j1 kj8 l0 true) = some r := by rw [if_pos rfl] at H; exact H
        clear H; have H := H1; clear H1
        as_aux_lemma =>
         first | exact (laws_FnFree.j0_no H HRT.out).elim | exact (laws_FnFree.j1_no H HRT.out).elim | exact (laws_FnFree.j2_no H HRT.out).elim | exact (laws_FnFree.j3_no H HRT.out).elim
       ·replace c56 := Bool.eq_false_iff.mpr c56; subst c56; have H1 : (if t974 = true then ((spec_KeepsSquareFree.f kj8 t960 4).bind fun t980 => (laws_FnFree.j1 kj8 l0 (!t980))) else (laws_FnFree.j1 kj8 l0 false)) = some r := by rw [if_neg (show ¬ (false = true) by decide)] at H; exact H
        clear H; have H := H1; clear H1; by_cases c59 : t974 = true
        ·subst c59; have H1 : ((spec_KeepsSquareFree.f kj8 t960 4).bind fun t980 => (laws_FnFree.j1 kj8 l0 (!t980))) = some r := by rw [if_pos rfl] at H; exact H
         clear H; have H := H1; clear H1; replace H := Option.bind_eq_some_iff.mp H; obtain ⟨t980, A600, H⟩ := H; replace H : (laws_FnFree.j1 kj8 l0 (!t980)) = some r := H; have A60 := am A600; clear A600
         as_aux_lemma =>
          have H' := am H; clear H; obtain ⟨Ao61, co61, eo61⟩ := Kd.R_slice HO_7.out; subst eo61; go_wp2_with (first | (go_at_call 44; (with_reducible refine (spec_HasSquare.calls kj8 _ _ t969 false _ ?side1 ?side2 A55.out).mono ?_); (case side1 => exact xC ((Kd.R_reads' HO_7.out).2.2)); (case side2 => exact (Kd.R_reads' HO_7.out).2.1); rintro e w62 ⟨rfl, hb⟩; replace HO_7 := am (Kd.R_below (by exact rR HO_7) hb); replace HO_965000 := am (Kd.N_below (by exact rN HO_965000) hb); replace BK964 := am (blk_below (g := gb964) (o := .cells #[.slice Ao12 t960.length co12] 28 (0, 0)) (by exact rX BK964) hb); replace HB := am (below_step (by exact rB HB) hb); clear hb; have hcz63_0 : w62.cell? ⟨gb964, 0, none⟩ = some (.slice Ao12 t960.length co12) := (blk_cell BK964.out 0).trans rfl; have hfz63_0 := blk_frozen BK964.out 0) | (go_at_call 35; (with_reducible refine (spec_KeepsSquareFree.calls kj8 _ _ t960 4 t980 _ ?side1 ?side2 A60.out).mono ?_); (case side1 => exact xC ((Kd.N_reads' HO_965000.out).2.2)); (case side2 => exact (Kd.N_reads' HO_965000.out).2.1); rintro e w64 ⟨rfl, hb⟩; replace HO_7 := am (Kd.R_below (by exact rR HO_7) hb); replace HO_965000 := am (Kd.N_below (by exact rN HO_965000) hb); replace BK964 := am (blk_below (g := gb964) (o := .cells #[.slice Ao12 t960.length co12] 28 (0, 0)) (by exact rX BK964) hb); replace HB := am (below_step (by exact rB HB) hb); clear hb)); go_meet
          case rel => exact ⟨_, (!t980), (by first | rfl | (simp; done) | (simp [*]; done)), H', ⟨by have := HJ8.out; first | omega | exact Nat.le_refl _⟩, ⟨by exact xN (Kd.N_mono HO_965000.out (fun _ hk => hk.2))⟩, ⟨by exact rX BK964⟩, ⟨by exact rB HB⟩⟩
        ·replace c59 := Bool.eq_false_iff.mpr c59; subst c59; have H1 : (laws_FnFree.j1 kj8 l0 false) = some r := by rw [if_neg (show ¬ (false = true) by decide)] at H; exact H
         clear H; have H := H1; clear H1
         as_aux_lemma =>
          have H' := am H; clear H; obtain ⟨Ao65, co65, eo65⟩ := Kd.R_slice HO_7.out; subst eo65; go_wp2_with (first | (go_at_call 44; (with_reducible refine (spec_HasSquare.calls kj8 _ _ t969 false _ ?side1 ?side2 A55.out).mono ?_); (case side1 => exact xC ((Kd.R_reads' HO_7.out).2.2)); (case side2 => exact (Kd.R_reads' HO_7.out).2.1); rintro e w66 ⟨rfl, hb⟩; replace HO_7 := am (Kd.R_below (by exact rR HO_7) hb); replace HO_965000 := am (Kd.N_below (by exact rN HO_965000) hb); replace BK964 := am (blk_below (g := gb964) (o := .cells #[.slice Ao12 t960.length co12] 28 (0, 0)) (by exact rX BK964) hb); replace HB := am (below_step (by exact rB HB) hb); clear hb)); go_meet
          case rel => exact ⟨_, (false), (by first | rfl | (simp; done) | (simp [*]; done)), H', ⟨by have := HJ8.out; first | omega | exact Nat.le_refl _⟩, ⟨by exact xN (Kd.N_mono HO_965000.out (fun _ hk => hk.2))⟩, ⟨by exact rX BK964⟩, ⟨by exact rB HB⟩⟩
      ·replace c54 := Bool.eq_false_iff.mpr c54; subst c54; have H1 : (if t974 = true then ((spec_KeepsSquareFree.f kj8 t960 4).bind fun t981 => (laws_FnFree.j1 kj8 l0 (!t981))) else (laws_FnFree.j1 kj8 l0 false)) = some r := by rw [if_neg (show ¬ (false = true) by decide)] at H; exact H
       clear H; have H := H1; clear H1; by_cases c67 : t974 = true
       ·subst c67; have H1 : ((spec_KeepsSquareFree.f kj8 t960 4).bind fun t981 => (laws_FnFree.j1 kj8 l0 (!t981))) = some r := by rw [if_pos rfl] at H; exact H
        clear H; have H := H1; clear H1; replace H := Option.bind_eq_some_iff.mp H; obtain ⟨t981, A680, H⟩ := H; replace H : (laws_FnFree.j1 kj8 l0 (!t981)) = some r := H; have A68 := am A680; clear A680
        as_aux_lemma =>
         have H' := am H; clear H; have hcz69_0 : wc.cell? ⟨gb964, 0, none⟩ = some (.slice Ao12 t960.length co12) := (blk_cell BK964.out 0).trans rfl; have hfz69_0 := blk_frozen BK964.out 0; go_wp2_with (first | (go_at_call 35; (with_reducible refine (spec_KeepsSquareFree.calls kj8 _ _ t960 4 t981 _ ?side1 ?side2 A68.out).mono ?_); (case side1 => exact xC ((Kd.N_reads' HO_965000.out).2.2)); (case side2 => exact (Kd.N_reads' HO_965000.out).2.1); rintro e w70 ⟨rfl, hb⟩; replace HO_7 := am (Kd.R_below (by exact rR HO_7) hb); replace HO_965000 := am (Kd.N_below (by exact rN HO_965000) hb); replace BK964 := am (blk_below (g := gb964) (o := .cells #[.slice Ao12 t960.length co12] 28 (0, 0)) (by exact rX BK964) hb); replace HB := am (below_step (by exact rB HB) hb); clear hb)); go_meet
         case rel => exact ⟨_, (!t981), (by first | rfl | (simp; done) | (simp [*]; done)), H', ⟨by have := HJ8.out; first | omega | exact Nat.le_refl _⟩, ⟨by exact xN (Kd.N_mono HO_965000.out (fun _ hk => hk.2))⟩, ⟨by exact rX BK964⟩, ⟨by exact rB HB⟩⟩
       ·replace c67 := Bool.eq_false_iff.mpr c67; subst c67; have H1 : (laws_FnFree.j1 kj8 l0 false) = some r := by rw [if_neg (show ¬ (false = true) by decide)] at H; exact H
        clear H; have H := H1; clear H1
        as_aux_lemma =>
         have H' := am H; clear H; go_wp2; go_meet
         case rel => exact ⟨_, (false), (by first | rfl | (simp; done) | (simp [*]; done)), H', ⟨by have := HJ8.out; first | omega | exact Nat.le_refl _⟩, ⟨by exact xN (Kd.N_mono HO_965000.out (fun _ hk => hk.2))⟩, ⟨by exact rX BK964⟩, ⟨by exact rB HB⟩⟩
     case rest =>
      clear HC53
      try clear c1
      try clear c2
      try clear p2
      try clear c3
      try clear c4
      try clear c5
      try clear c6
      try clear c11
      try clear c21
      try clear c21b0
      try clear c21b1
      try clear c21b2
      try clear c23
      try clear c25
      try clear c25b0
      try clear c25b1
      try clear c25b2
      try clear c30
      try clear c31
      try clear c36
      try clear c37
      try clear c38
      try clear c40
      try clear c41
      try clear c42
      try clear c52
      try clear c54
      try clear c56
      try clear c59
      try clear c67
      try clear hcz13_0
      try clear hcz15_0
      try clear hcz17_0
      try clear hcz19_0
      try clear hcz28_0
      try clear hcz34_0
      try clear hcz39_0
      try clear hcz41_0
      try clear hcz46_0
      try clear hcz48_0
      try clear hcz63_0
      try clear hcz69_0
      try clear hfz13_0
      try clear hfz15_0
      try clear hfz17_0
      try clear hfz19_0
      try clear hfz28_0
      try clear hfz34_0
      try clear hfz39_0
      try clear hfz41_0
      try clear hfz46_0
      try clear hfz48_0
      try clear hfz63_0
      try clear hfz69_0
      try clear p2
      obtain ⟨kq, x89_52, rfl, HA, HJ52, HO_965000, BK964, HB⟩ := hcut; cases kq with
      | zero => exact absurd HA.out (by simp [laws_FnFree.j1])
      | succ kj52 =>
       have H := HA.out; clear HA; simp only [laws_FnFree.j1] at H; by_cases c71 : x89_52 = true
       ·subst c71; have H1 : (some false) = some r := by rw [if_pos rfl] at H; exact H
        rw [HRT.out] at H1; cases H1
       ·replace c71 := Bool.eq_false_iff.mpr c71; subst c71; have H1 : ((impl_ThueMorphism.f).bind fun t982 => ((impl_TernaryMorphism.f).bind fun t986 => ((spec_ThueMorphism.f).bind fun t990 => ((laws_sameMorphism.f kj52 t982 t990).bind fun t993 => (if t993 = true then ((spec_TernaryMorphism.f).bind fun t994 => ((laws_sameMorphism.f kj52 t986 t994).bind fun t997 => (if t997 = true then ((laws_at.f l0 2).bind fun t998 => ((impl_KeepsOverlapFree.f kj52 t982 (Int.tmod t998 6)).bind fun t999 => (laws_FnFree.j2 kj52 l0 (!t999) t982 t986))) else (laws_FnFree.j2 kj52 l0 true t982 t986)))) else (laws_FnFree.j2 kj52 l0 true t982 t986)))))) = some r := by rw [if_neg (show ¬ (false = true) by decide)] at H; exact H
        clear H; have H := H1; clear H1; replace H := Option.bind_eq_some_iff.mp H; obtain ⟨t982, A720, H⟩ := H; replace H : ((impl_TernaryMorphism.f).bind fun t986 => ((spec_ThueMorphism.f).bind fun t990 => ((laws_sameMorphism.f kj52 t982 t990).bind fun t993 => (if t993 = true then ((spec_TernaryMorphism.f).bind fun t994 => ((laws_sameMorphism.f kj52 t986 t994).bind fun t997 => (if t997 = true then ((laws_at.f l0 2).bind fun t998 => ((impl_KeepsOverlapFree.f kj52 t982 (Int.tmod t998 6)).bind fun t999 => (laws_FnFree.j2 kj52 l0 (!t999) t982 t986))) else (laws_FnFree.j2 kj52 l0 true t982 t986)))) else (laws_FnFree.j2 kj52 l0 true t982 t986))))) = some r := H; have A72 := am A720; clear A720; replace H := Option.bind_eq_some_iff.mp H; obtain ⟨t986, A730, H⟩ := H; replace H : ((spec_ThueMorphism.f).bind fun t990 => ((laws_sameMorphism.f kj52 t982 t990).bind fun t993 => (if t993 = true then ((spec_TernaryMorphism.f).bind fun t994 => ((laws_sameMorphism.f kj52 t986 t994).bind fun t997 => (if t997 = true then ((laws_at.f l0 2).bind fun t998 => ((impl_KeepsOverlapFree.f kj52 t982 (Int.tmod t998 6)).bind fun t999 => (laws_FnFree.j2 kj52 l0 (!t999) t982 t986))) else (laws_FnFree.j2 kj52 l0 true t982 t986)))) else (laws_FnFree.j2 kj52 l0 true t982 t986)))) = some r := H; have A73 := am A730; clear A730; have HC74 := am H; clear H; go_upto_region 14 with (first | ((with_reducible refine gate_callee (f := 45) rfl ?_); refine goesL_ (some 90) rfl rfl Try.func45 (by kernel_rfl) rfl #[] rfl (by (try simp only [mT, mC, mN]); first | done | rfl) ?_; (with_reducible refine (impl_ThueMorphism.calls  t982 _ A72.out).mono ?_); rintro e w75 ⟨v983, rfl, ho0, hb⟩; refine ⟨_, rfl, ?_⟩; have HO984 := am (Kd.N_lower (Kd.N_mono (ok' := fun k_ => some k_ ≠ (.slice Ao12 t960.length co12 : Value).ownBlock ∧ k_ ≠ gb964) ho0 (fun k_ hk_ => ⟨(Kd.fresh' (Kd.N_lt (by exact rN HO_965000)) k_ hk_), (Kd.freshB (g := gb964) (o := .cells #[.slice Ao12 t960.length co12] 28 (0, 0)) (by exact rX BK964) k_ hk_)⟩)) (below_size (by exact rB HB))); replace HO_965000 := am (Kd.N_elder' (by exact rN HO_965000) (Kd.N_base ho0) hb); replace BK964 := am (blk_below (g := gb964) (o := .cells #[.slice Ao12 t960.length co12] 28 (0, 0)) (by exact rX BK964) hb); replace HB := am (below_step (by exact rB HB) hb); clear hb ho0) | ((with_reducible refine gate_dst (N := 11) rfl ?_); refine box_event ?hg (N := 11) ?hd (cs := #[.slice none 0 0]) (t := 28) ?hr ?_; (case hd => rfl); (case hg => rfl); (case hr => first | (go_simp; done) | (go_simp; rfl)); intro gb985 hg w76 hbox hb; replace HO_965000 := am (Kd.N_below (Kd.N_elderB (by exact rN HO_965000) gb985 (Nat.le_of_eq hg.symm)) hb); replace HO984 := am (Kd.N_below (Kd.N_elderB (by exact rN HO984) gb985 (Nat.le_of_eq hg.symm)) hb); have BK985 := am (hbox); have GW985 := am ((by rw [hg]; exact (below_size (by exact rB HB)) : w.heap.size ≤ gb985)); have GE985 := am ((by rw [hg]; exact (below_size (by exact rB HB)) : w.heap.size ≤ gb985)); replace HB := am (below_step (by exact rB HB) hb); have NB964_985 := am ((by rw [hg]; exact Nat.ne_of_lt (blk_lt (g := gb964) (o := .cells #[.slice Ao12 t960.length co12] 28 (0, 0)) (by exact rX BK964)) : gb964 ≠ gb985)); have NB985_964 := am ((by rw [hg]; exact Nat.ne_of_gt (blk_lt (g := gb964) (o := .cells #[.slice Ao12 t960.length co12] 28 (0, 0)) (by exact rX BK964)) : gb985 ≠ gb964)); replace BK964 := am (blk_below (g := gb964) (o := .cells #[.slice Ao12 t960.length co12] 28 (0, 0)) (by exact rX BK964) hb); have qW985 := Ge.mk GW985.out; have qE985 := Ge.mk GE985.out; clear hb hbox hg; obtain ⟨Ao77, co77, eo77⟩ := Kd.N_slice HO984.out; subst eo77; have hnb78 := NB985_964.out; have hnc78 := NB964_985.out; have hcz79_0 : w76.cell? ⟨gb985, 0, none⟩ = some (.slice none 0 0) := (blk_cell BK985.out 0).trans rfl; have hfz79_0 := blk_frozen BK985.out 0) | ((with_reducible refine gate_callee (f := 46) rfl ?_); refine goesL_ (some 91) rfl rfl Try.func46 (by kernel_rfl) rfl #[] rfl (by (try simp only [mT, mC, mN]); first | done | rfl) ?_; (with_reducible refine (impl_TernaryMorphism.calls  t986 _ A73.out).mono ?_); rintro e w80 ⟨v987, rfl, ho0, hb⟩; refine ⟨_, rfl, ?_⟩; have HO988 := am (Kd.N_lower (Kd.N_mono (ok' := fun k_ => some k_ ≠ (.slice Ao12 t960.length co12 : Value).ownBlock ∧ some k_ ≠ (.slice Ao77 t982.length co77 : Value).ownBlock ∧ k_ ≠ gb964 ∧ k_ ≠ gb985) ho0 (fun k_ hk_ => ⟨(Kd.fresh' (Kd.N_lt (by exact xN ((Kd.N_mono (Kd.N_far (p := ⟨gb985, 0, none⟩) (Kd.N_mono HO_965000.out (fun k_ hk => (⟨hk, hk.2⟩ : _ ∧ k_ ≠ gb985))) (fun _ hk => hk.2) (.slice Ao77 t982.length co77)) (fun _ h_ => h_.1))))) k_ hk_), (Kd.fresh' (Kd.N_lt (by exact xN ((Kd.N_mono (Kd.N_far (p := ⟨gb985, 0, none⟩) (Kd.N_mono HO984.out (fun k_ hk => (⟨hk, hk.2⟩ : _ ∧ k_ ≠ gb985))) (fun _ hk => hk.2) (.slice Ao77 t982.length co77)) (fun _ h_ => h_.1))))) k_ hk_), (Kd.freshB (g := gb964) (o := .cells #[.slice Ao12 t960.length co12] 28 (0, 0)) (by (with_reducible repeat (first | refine blk_drewN ?_ _ | refine blk_drew ?_ | refine blk_alloc ?_ _)); refine blk_far ?_ NB964_985.out _; exact rX BK964) k_ hk_), (Kd.freshB (g := gb985) (o := .cells #[.slice Ao77 t982.length co77] 28 (0, 0)) (by (with_reducible repeat (first | refine blk_drewN ?_ _ | refine blk_drew ?_ | refine blk_alloc ?_ _)); refine blk_put (cs := #[.slice none 0 0]) ?_ 0 _ rfl; exact rX BK985) k_ hk_)⟩)) (below_size (by exact rB HB))); replace HO_965000 := am (Kd.N_elder' (by exact xN ((Kd.N_mono (Kd.N_far (p := ⟨gb985, 0, none⟩) (Kd.N_mono HO_965000.out (fun k_ hk => (⟨hk, hk.2⟩ : _ ∧ k_ ≠ gb985))) (fun _ hk => hk.2) (.slice Ao77 t982.length co77)) (fun _ h_ => h_.1)))) (Kd.N_base ho0) hb); replace HO984 := am (Kd.N_elder' (by exact xN ((Kd.N_mono (Kd.N_far (p := ⟨gb985, 0, none⟩) (Kd.N_mono HO984.out (fun k_ hk => (⟨hk, hk.2⟩ : _ ∧ k_ ≠ gb985))) (fun _ hk => hk.2) (.slice Ao77 t982.length co77)) (fun _ h_ => h_.1)))) (Kd.N_base ho0) hb); replace BK964 := am (blk_below (g := gb964) (o := .cells #[.slice Ao12 t960.length co12] 28 (0, 0)) (by (with_reducible repeat (first | refine blk_drewN ?_ _ | refine blk_drew ?_ | refine blk_alloc ?_ _)); refine blk_far ?_ NB964_985.out _; exact rX BK964) hb); replace BK985 := am (blk_below (g := gb985) (o := .cells #[.slice Ao77 t982.length co77] 28 (0, 0)) (by (with_reducible repeat (first | refine blk_drewN ?_ _ | refine blk_drew ?_ | refine blk_alloc ?_ _)); refine blk_put (cs := #[.slice none 0 0]) ?_ 0 _ rfl; exact rX BK985) hb); replace HB := am (below_step (by exact rB HB) hb); clear hb ho0) | ((with_reducible refine gate_dst (N := 12) rfl ?_); refine box_event ?hg (N := 12) ?hd (cs := #[.slice none 0 0]) (t := 28) ?hr ?_; (case hd => rfl); (case hg => rfl); (case hr => first | (go_simp; done) | (go_simp; rfl)); intro gb989 hg w81 hbox hb; replace HO_965000 := am (Kd.N_below (Kd.N_elderB (by exact rN HO_965000) gb989 (Nat.le_of_eq hg.symm)) hb); replace HO984 := am (Kd.N_below (Kd.N_elderB (by exact rN HO984) gb989 (Nat.le_of_eq hg.symm)) hb); replace HO988 := am (Kd.N_below (Kd.N_elderB (by exact rN HO988) gb989 (Nat.le_of_eq hg.symm)) hb); have BK989 := am (hbox); have GW989 := am ((by rw [hg]; exact (below_size (by exact rB HB)) : w.heap.size ≤ gb989)); have GE989 := am ((by rw [hg]; exact (below_size (by exact rB HB)) : w.heap.size ≤ gb989)); replace HB := am (below_step (by exact rB HB) hb); have NB964_989 := am ((by rw [hg]; exact Nat.ne_of_lt (blk_lt (g := gb964) (o := .cells #[.slice Ao12 t960.length co12] 28 (0, 0)) (by exact rX BK964)) : gb964 ≠ gb989)); have NB989_964 := am ((by rw [hg]; exact Nat.ne_of_gt (blk_lt (g := gb964) (o := .cells #[.slice Ao12 t960.length co12] 28 (0, 0)) (by exact rX BK964)) : gb989 ≠ gb964)); replace BK964 := am (blk_below (g := gb964) (o := .cells #[.slice Ao12 t960.length co12] 28 (0, 0)) (by exact rX BK964) hb); have NB985_989 := am ((by rw [hg]; exact Nat.ne_of_lt (blk_lt (g := gb985) (o := .cells #[.slice Ao77 t982.length co77] 28 (0, 0)) (by exact rX BK985)) : gb985 ≠ gb989)); have NB989_985 := am ((by rw [hg]; exact Nat.ne_of_gt (blk_lt (g := gb985) (o := .cells #[.slice Ao77 t982.length co77] 28 (0, 0)) (by exact rX BK985)) : gb989 ≠ gb985)); replace BK985 := am (blk_below (g := gb985) (o := .cells #[.slice Ao77 t982.length co77] 28 (0, 0)) (by exact rX BK985) hb); have qW989 := Ge.mk GW989.out; have qE989 := Ge.mk GE989.out; clear hb hbox hg; obtain ⟨Ao82, co82, eo82⟩ := Kd.N_slice HO988.out; subst eo82; have hnb83 := NB989_964.out; have hnc83 := NB964_989.out; have hnb84 := NB989_985.out; have hnc84 := NB985_989.out; have hcz85_0 : w81.cell? ⟨gb989, 0, none⟩ = some (.slice none 0 0) := (blk_cell BK989.out 0).trans rfl; have hfz85_0 := blk_frozen BK989.out 0)); (try simp only [Act.put, qa, qz, qs]); go_cut [109] (fun v109 wc => ∃ (kq : Nat) (x109_73 : Bool), v109 = .bool x109_73 ∧ Aside0 (laws_FnFree.j2 kq l0 x109_73 t982 t986 = some r) ∧ Aside0 (kq ≤ kj52) ∧ Aside0 (Kd.N (Kd.slice 3 (Kd.int .i64)) 36 wc w.heap.size (fun k_ => some k_ ≠ ((.slice Ao77 t982.length co77) : Value).ownBlock ∧ some k_ ≠ ((.slice Ao82 t986.length co82) : Value).ownBlock ∧ k_ ≠ gb964 ∧ k_ ≠ gb985 ∧ k_ ≠ gb989) (.slice Ao12 t960.length co12) t960) ∧ Aside0 (Kd.N (Kd.slice 3 (Kd.int .i64)) 36 wc w.heap.size (fun k_ => some k_ ≠ ((.slice Ao12 t960.length co12) : Value).ownBlock ∧ some k_ ≠ ((.slice Ao82 t986.length co82) : Value).ownBlock ∧ k_ ≠ gb964 ∧ k_ ≠ gb985 ∧ k_ ≠ gb989) (.slice Ao77 t982.length co77) t982) ∧ Aside0 (Kd.N (Kd.slice 3 (Kd.int .i64)) 36 wc w.heap.size (fun k_ => some k_ ≠ ((.slice Ao12 t960.length co12) : Value).ownBlock ∧ some k_ ≠ ((.slice Ao77 t982.length co77) : Value).ownBlock ∧ k_ ≠ gb964 ∧ k_ ≠ gb985 ∧ k_ ≠ gb989) (.slice Ao82 t986.length co82) t986) ∧ Aside0 (wc.heap[gb964]? = some (.cells #[(.slice Ao12 t960.length co12)] 28 (0, 0))) ∧ Aside0 (wc.heap[gb985]? = some (.cells #[(.slice Ao77 t982.length co77)] 28 (0, 0))) ∧ Aside0 (wc.heap[gb989]? = some (.cells #[(.slice Ao82 t986.length co82)] 28 (0, 0))) ∧ Aside0 (Below w.heap.size w wc))
        case first =>
         have H := HC74.out; clear HC74; replace H := Option.bind_eq_some_iff.mp H; obtain ⟨t990, A860, H⟩ := H; replace H : ((laws_sameMorphism.f kj52 t982 t990).bind fun t993 => (if t993 = true then ((spec_TernaryMorphism.f).bind fun t994 => ((laws_sameMorphism.f kj52 t986 t994).bind fun t997 => (if t997 = true then ((laws_at.f l0 2).bind fun t998 => ((impl_KeepsOverlapFree.f kj52 t982 (Int.tmod t998 6)).bind fun t999 => (laws_FnFree.j2 kj52 l0 (!t999) t982 t986))) else (laws_FnFree.j2 kj52 l0 true t982 t986)))) else (laws_FnFree.j2 kj52 l0 true t982 t986))) = some r := H; have A86 := am A860; clear A860; replace H := Option.bind_eq_some_iff.mp H; obtain ⟨t993, A870, H⟩ := H; replace H : (if t993 = true then ((spec_TernaryMorphism.f).bind fun t994 => ((laws_sameMorphism.f kj52 t986 t994).bind fun t997 => (if t997 = true then ((laws_at.f l0 2).bind fun t998 => ((impl_KeepsOverlapFree.f kj52 t982 (Int.tmod t998 6)).bind fun t999 => (laws_FnFree.j2 kj52 l0 (!t999) t982 t986))) else (laws_FnFree.j2 kj52 l0 true t982 t986)))) else (laws_FnFree.j2 kj52 l0 true t982 t986)) = some r := H; have A87 := am A870; clear A870; by_cases c88 : t993 = true
         ·subst c88; have H1 : ((spec_TernaryMorphism.f).bind fun t994 => ((laws_sameMorphism.f kj52 t986 t994).bind fun t997 => (if t997 = true then ((laws_at.f l0 2).bind fun t998 => ((impl_KeepsOverlapFree.f kj52 t982 (Int.tmod t998 6)).bind fun t999 => (laws_FnFree.j2 kj52 l0 (!t999) t982 t986))) else (laws_FnFree.j2 kj52 l0 true t982 t986)))) = some r := by rw [if_pos rfl] at H; exact H
          clear H; have H := H1; clear H1; replace H := Option.bind_eq_some_iff.mp H; obtain ⟨t994, A890, H⟩ := H; replace H : ((laws_sameMorphism.f kj52 t986 t994).bind fun t997 => (if t997 = true then ((laws_at.f l0 2).bind fun t998 => ((impl_KeepsOverlapFree.f kj52 t982 (Int.tmod t998 6)).bind fun t999 => (laws_FnFree.j2 kj52 l0 (!t999) t982 t986))) else (laws_FnFree.j2 kj52 l0 true t982 t986))) = some r := H; have A89 := am A890; clear A890; replace H := Option.bind_eq_some_iff.mp H; obtain ⟨t997, A900, H⟩ := H; replace H : (if t997 = true then ((laws_at.f l0 2).bind fun t998 => ((impl_KeepsOverlapFree.f kj52 t982 (Int.tmod t998 6)).bind fun t999 => (laws_FnFree.j2 kj52 l0 (!t999) t982 t986))) else (laws_FnFree.j2 kj52 l0 true t982 t986)) = some r := H; have A90 := am A900; clear A900; by_cases c91 : t997 = true
          ·subst c91; have H1 : ((laws_at.f l0 2).bind fun t998 => ((impl_KeepsOverlapFree.f kj52 t982 (Int.tmod t998 6)).bind fun t999 => (laws_FnFree.j2 kj52 l0 (!t999) t982 t986))) = some r := by rw [if_pos rfl] at H; exact H
           clear H; have H := H1; clear H1; replace H := Option.bind_eq_some_iff.mp H; obtain ⟨t998, A920, H⟩ := H; replace H : ((impl_KeepsOverlapFree.f kj52 t982 (Int.tmod t998 6)).bind fun t999 => (laws_FnFree.j2 kj52 l0 (!t999) t982 t986)) = some r := H; have A92 := am A920; clear A920; replace H := Option.bind_eq_some_iff.mp H; obtain ⟨t999, A930, H⟩ := H; replace H : (laws_FnFree.j2 kj52 l0 (!t999) t982 t986) = some r := H; have A93 := am A930; clear A930
           as_aux_lemma =>
            have H' := am H; clear H
            try go_wp2
            have n0_ : Aside0 (Kd.N (Kd.slice 3 (Kd.int .i64)) 36 (w81.setCell ⟨gb989, 0, none⟩ (.slice Ao82 t986.length co82)) w.heap.size (fun k_ => some k_ ≠ (.slice Ao77 t982.length co77 : Value).ownBlock ∧ some k_ ≠ (.slice Ao82 t986.length co82 : Value).ownBlock ∧ k_ ≠ gb964 ∧ k_ ≠ gb985 ∧ k_ ≠ gb989) (.slice Ao12 t960.length co12) t960) := ⟨by exact xN (Kd.N_mono (Kd.N_far (p := ⟨gb989, 0, none⟩) (Kd.N_mono HO_965000.out (fun k_ hk => (⟨hk, hk.2⟩ : _ ∧ k_ ≠ gb989))) (fun _ hk => hk.2) (.slice Ao82 t986.length co82)) (fun _ hk => ⟨hk.1.1.1.1.2, ⟨hk.1.1.2, ⟨hk.1.1.1.1.1, ⟨hk.1.1.1.2, hk.1.2⟩⟩⟩⟩))⟩; have n1_ : Aside0 (Kd.N (Kd.slice 3 (Kd.int .i64)) 36 (w81.setCell ⟨gb989, 0, none⟩ (.slice Ao82 t986.length co82)) w.heap.size (fun k_ => some k_ ≠ (.slice Ao12 t960.length co12 : Value).ownBlock ∧ some k_ ≠ (.slice Ao82 t986.length co82 : Value).ownBlock ∧ k_ ≠ gb964 ∧ k_ ≠ gb985 ∧ k_ ≠ gb989) (.slice Ao77 t982.length co77) t982) := ⟨by exact xN (Kd.N_mono (Kd.N_far (p := ⟨gb989, 0, none⟩) (Kd.N_mono HO984.out (fun k_ hk => (⟨hk, hk.2⟩ : _ ∧ k_ ≠ gb989))) (fun _ hk => hk.2) (.slice Ao82 t986.length co82)) (fun _ hk => ⟨hk.1.1.1.1.1, ⟨hk.1.1.2, ⟨hk.1.1.1.1.2, ⟨hk.1.1.1.2, hk.1.2⟩⟩⟩⟩))⟩; have n2_ : Aside0 (Kd.N (Kd.slice 3 (Kd.int .i64)) 36 (w81.setCell ⟨gb989, 0, none⟩ (.slice Ao82 t986.length co82)) w.heap.size (fun k_ => some k_ ≠ (.slice Ao12 t960.length co12 : Value).ownBlock ∧ some k_ ≠ (.slice Ao77 t982.length co77 : Value).ownBlock ∧ k_ ≠ gb964 ∧ k_ ≠ gb985 ∧ k_ ≠ gb989) (.slice Ao82 t986.length co82) t986) := ⟨by exact xN (Kd.N_mono (Kd.N_far (p := ⟨gb989, 0, none⟩) (Kd.N_mono HO988.out (fun k_ hk => (⟨hk, hk.2⟩ : _ ∧ k_ ≠ gb989))) (fun _ hk => hk.2) (.slice Ao82 t986.length co82)) (fun _ hk => ⟨hk.1.1.1, ⟨hk.1.1.2.1, ⟨hk.1.1.2.2.1, ⟨hk.1.1.2.2.2, hk.1.2⟩⟩⟩⟩))⟩; have n3_ : Aside0 ((w81.setCell ⟨gb989, 0, none⟩ (.slice Ao82 t986.length co82)).heap[gb964]? = some (.cells #[.slice Ao12 t960.length co12] 28 (0, 0))) := ⟨by (with_reducible repeat (first | refine blk_drewN ?_ _ | refine blk_drew ?_ | refine blk_alloc ?_ _)); refine blk_far ?_ NB964_989.out _; exact rX BK964⟩; have n4_ : Aside0 ((w81.setCell ⟨gb989, 0, none⟩ (.slice Ao82 t986.length co82)).heap[gb985]? = some (.cells #[.slice Ao77 t982.length co77] 28 (0, 0))) := ⟨by (with_reducible repeat (first | refine blk_drewN ?_ _ | refine blk_drew ?_ | refine blk_alloc ?_ _)); refine blk_far ?_ NB985_989.out _; exact rX BK985⟩; have n5_ : Aside0 ((w81.setCell ⟨gb989, 0, none⟩ (.slice Ao82 t986.length co82)).heap[gb989]? = some (.cells #[.slice Ao82 t986.length co82] 28 (0, 0))) := ⟨by (with_reducible repeat (first | refine blk_drewN ?_ _ | refine blk_drew ?_ | refine blk_alloc ?_ _)); refine blk_put (cs := #[.slice none 0 0]) ?_ 0 _ rfl; exact rX BK989⟩; have n6_ : Aside0 (Below w.heap.size w (w81.setCell ⟨gb989, 0, none⟩ (.slice Ao82 t986.length co82))) := ⟨by exact rB HB⟩; (try clear HO_965000); (try clear HO984); (try clear HO988); (try clear BK964); (try clear BK985); (try clear BK989); (try clear HB); generalize (w81.setCell ⟨gb989, 0, none⟩ (.slice Ao82 t986.length co82)) = w94 at n0_ n1_ n2_ n3_ n4_ n5_ n6_ ⊢; have HO_965000 := n0_; have HO984 := n1_; have HO988 := n2_; have BK964 := n3_; have BK985 := n4_; have BK989 := n5_; have HB := n6_; clear n0_ n1_ n2_ n3_ n4_ n5_ n6_; replace HO_965000 := am (Kd.N_drew HO_965000.out); replace HO984 := am (Kd.N_drew HO984.out); replace HO988 := am (Kd.N_drew HO988.out); replace BK964 := am (blk_drew BK964.out); replace BK985 := am (blk_drew BK985.out); replace BK989 := am (blk_drew BK989.out); replace HB := am (below_drew1 HB.out)
            refine start_ (n := 18) (S := fun w' => w'.cell? ⟨gb985, 0, none⟩ = some (.slice Ao77 t982.length co77) ∧ w'.cell? ⟨gb989, 0, none⟩ = some (.slice Ao82 t986.length co82)) (ds := []) #[false, false, false, false, false, false, false, false, false, false, false, false, false, false, false, false, false, false] (by kernel_rfl) rfl rfl ⟨(blk_cell BK985.out 0).trans rfl, (blk_cell BK989.out 0).trans rfl⟩ (fun hHeld => ?_); refine with_tabW laws_FnFree.tab14 laws_FnFree.bits14 (fun HT_ HW_ => ?_); generalize w94.drew = w95 at HO_965000 HO984 HO988 BK964 BK985 BK989 HB hHeld ⊢; refine take_ (i := 0) (N := some 92) (v := ?_) (a' := ?_) (bA 18 1) rfl rfl (take_ofW HT_.out HW_.out (by kernel_rfl)) (fun _ _ _ h => h) (Or.inl ⟨by rfl, ?_⟩) hHeld ?_ ?_; rotate_left; (rintro w' ⟨s0, s1⟩; go_simp; (with_reducible rfl)); rotate_left; (simp only [Act.put, qa, qz, qs, i64_w, i32_w]; rfl); refine one_ (i := 1) (N := some 93) (bA 18 3) rfl rfl (one_of HT_.out (by kernel_rfl)) (by decide) (fun K hK => ?_); refine goes_ Try.func48 (by kernel_rfl) rfl #[] (by rfl) rfl rfl (by (try simp only [mT, mC, mN]); first | done | rfl) ?_; (with_reducible refine (spec_ThueMorphism.calls  t990 _ A86.out).mono ?_); rintro e w96 ⟨v991, rfl, ho0, hb⟩; refine ⟨_, rfl, ?_⟩; have HO992 := am (Kd.N_lower (Kd.N_mono (ok' := fun k_ => some k_ ≠ (.slice Ao12 t960.length co12 : Value).ownBlock ∧ some k_ ≠ (.slice Ao77 t982.length co77 : Value).ownBlock ∧ some k_ ≠ (.slice Ao82 t986.length co82 : Value).ownBlock ∧ k_ ≠ gb964 ∧ k_ ≠ gb985 ∧ k_ ≠ gb989) ho0 (fun k_ hk_ => ⟨(Kd.fresh' (Kd.N_lt (by exact rN HO_965000)) k_ hk_), (Kd.fresh' (Kd.N_lt (by exact rN HO984)) k_ hk_), (Kd.fresh' (Kd.N_lt (by exact rN HO988)) k_ hk_), (Kd.freshB (g := gb964) (o := .cells #[.slice Ao12 t960.length co12] 28 (0, 0)) (by exact rX BK964) k_ hk_), (Kd.freshB (g := gb985) (o := .cells #[.slice Ao77 t982.length co77] 28 (0, 0)) (by exact rX BK985) k_ hk_), (Kd.freshB (g := gb989) (o := .cells #[.slice Ao82 t986.length co82] 28 (0, 0)) (by exact rX BK989) k_ hk_)⟩)) (below_size (by exact rB HB))); replace HO_965000 := am (Kd.N_elder' (by exact rN HO_965000) (Kd.N_base ho0) hb); replace HO984 := am (Kd.N_elder' (by exact rN HO984) (Kd.N_base ho0) hb); replace HO988 := am (Kd.N_elder' (by exact rN HO988) (Kd.N_base ho0) hb); replace BK964 := am (blk_below (g := gb964) (o := .cells #[.slice Ao12 t960.length co12] 28 (0, 0)) (by exact rX BK964) hb); replace BK985 := am (blk_below (g := gb985) (o := .cells #[.slice Ao77 t982.length co77] 28 (0, 0)) (by exact rX BK985) hb); replace BK989 := am (blk_below (g := gb989) (o := .cells #[.slice Ao82 t986.length co82] 28 (0, 0)) (by exact rX BK989) hb); replace HB := am (below_step (by exact rB HB) hb)
            (try clear hb); (try clear hb2); (try clear hk); (try clear hi); (try clear ho0); obtain ⟨Ao97, co97, eo97⟩ := Kd.N_slice HO992.out
            (first | subst eo97 | (injection eo97 with f1_ f2_ f3_; have f4_ := f1_.symm; have f5_ := f3_.symm; clear f1_ f2_ f3_; subst f4_; subst f5_))
            refine hK.out _ _ ⟨(blk_cell BK985.out 0).trans rfl, (blk_cell BK989.out 0).trans rfl⟩ (fun hHeld => ?_); clear hK K; refine norm_ (a' := ?_) ?_ ?_; rotate_left; (show Act.put _ (some 93) _ = _; simp only [Act.put, qa, qz, qs, i64_w, i32_w]; rfl); refine one_ (i := 2) (N := some 94) (bA 18 7) rfl rfl (one_of HT_.out (by kernel_rfl)) (by decide) (fun K hK => ?_); refine goes_ Try.func47 (by kernel_rfl) rfl #[.agg #[.slice Ao77 t982.length co77], .agg #[.slice Ao97 t990.length co97]] (by rfl) rfl rfl (by (try simp only [mT, mC, mN]); first | done | rfl) ?_; (with_reducible refine (laws_sameMorphism.calls kj52 _ _ t982 _ _ t990 true _ ?side1 ?side2 ?side3 ?side4 A87.out).mono ?_); (case side1 => exact xC ((Kd.N_reads' HO984.out).2.2)); (case side2 => exact (Kd.N_reads' HO984.out).2.1); (case side3 => exact xC ((Kd.N_reads' HO992.out).2.2)); (case side4 => exact (Kd.N_reads' HO992.out).2.1); rintro e w98 ⟨rfl, hb⟩; refine ⟨_, rfl, ?_⟩; replace HO_965000 := am (Kd.N_below (by exact rN HO_965000) hb); replace HO984 := am (Kd.N_below (by exact rN HO984) hb); replace HO988 := am (Kd.N_below (by exact rN HO988) hb); replace HO992 := am (Kd.N_below (by exact rN HO992) hb); replace BK964 := am (blk_below (g := gb964) (o := .cells #[.slice Ao12 t960.length co12] 28 (0, 0)) (by exact rX BK964) hb); replace BK985 := am (blk_below (g := gb985) (o := .cells #[.slice Ao77 t982.length co77] 28 (0, 0)) (by exact rX BK985) hb); replace BK989 := am (blk_below (g := gb989) (o := .cells #[.slice Ao82 t986.length co82] 28 (0, 0)) (by exact rX BK989) hb); replace HB := am (below_step (by exact rB HB) hb)
            (try clear hb); (try clear hb2); (try clear hk); (try clear hi); refine hK.out _ _ ⟨(blk_cell BK985.out 0).trans rfl, (blk_cell BK989.out 0).trans rfl⟩ (fun hHeld => ?_); clear hK K; refine norm_ (a' := ?_) ?_ ?_; rotate_left; (show Act.put _ (some 94) _ = _; simp only [Act.put, qa, qz, qs, i64_w, i32_w]; rfl); refine pure_ (i := 3) (N := some 95) (v := ?_) (a' := ?_) (bA 18 15) rfl rfl (any_of HT_.out (by kernel_rfl)) (fun _ _ _ h => h) (Or.inl ⟨by rfl, ?_⟩) ?_ ?_; rotate_left
            ·intro w'; go_simp; (with_reducible rfl)
            rotate_left; (simp only [Act.put, qa, qz, qs, i64_w, i32_w]; rfl); refine pure_ (i := 4) (N := some 96) (v := ?_) (a' := ?_) (bA 18 31) rfl rfl (any_of HT_.out (by kernel_rfl)) (fun _ _ _ h => h) (Or.inl ⟨by rfl, ?_⟩) ?_ ?_; rotate_left
            ·intro w'; go_simp; (with_reducible rfl)
            rotate_left; (simp only [Act.put, qa, qz, qs, i64_w, i32_w]; rfl); refine take_ (i := 5) (N := some 97) (v := ?_) (a' := ?_) (bA 18 63) rfl rfl (take_ofW HT_.out HW_.out (by kernel_rfl)) (fun _ _ _ h => h) (Or.inl ⟨by rfl, ?_⟩) hHeld ?_ ?_; rotate_left
            ·rintro w' ⟨s0, s1⟩; go_simp; (with_reducible rfl)
            rotate_left; (simp only [Act.put, qa, qz, qs, i64_w, i32_w]; rfl); refine one_ (i := 6) (N := some 98) (bA 18 127) rfl rfl (one_of HT_.out (by kernel_rfl)) (by decide) (fun K hK => ?_); refine goes_ Try.func49 (by kernel_rfl) rfl #[] (by rfl) rfl rfl (by (try simp only [mT, mC, mN]); first | done | rfl) ?_; (with_reducible refine (spec_TernaryMorphism.calls  t994 _ A89.out).mono ?_); rintro e w99 ⟨v995, rfl, ho0, hb⟩; refine ⟨_, rfl, ?_⟩; have HO996 := am (Kd.N_lower (Kd.N_mono (ok' := fun k_ => some k_ ≠ (.slice Ao12 t960.length co12 : Value).ownBlock ∧ some k_ ≠ (.slice Ao77 t982.length co77 : Value).ownBlock ∧ some k_ ≠ (.slice Ao82 t986.length co82 : Value).ownBlock ∧ some k_ ≠ (.slice Ao97 t990.length co97 : Value).ownBlock ∧ k_ ≠ gb964 ∧ k_ ≠ gb985 ∧ k_ ≠ gb989) ho0 (fun k_ hk_ => ⟨(Kd.fresh' (Kd.N_lt (by exact rN HO_965000)) k_ hk_), (Kd.fresh' (Kd.N_lt (by exact rN HO984)) k_ hk_), (Kd.fresh' (Kd.N_lt (by exact rN HO988)) k_ hk_), (Kd.fresh' (Kd.N_lt (by exact rN HO992)) k_ hk_), (Kd.freshB (g := gb964) (o := .cells #[.slice Ao12 t960.length co12] 28 (0, 0)) (by exact rX BK964) k_ hk_), (Kd.freshB (g := gb985) (o := .cells #[.slice Ao77 t982.length co77] 28 (0, 0)) (by exact rX BK985) k_ hk_), (Kd.freshB (g := gb989) (o := .cells #[.slice Ao82 t986.length co82] 28 (0, 0)) (by exact rX BK989) k_ hk_)⟩)) (below_size (by exact rB HB))); replace HO_965000 := am (Kd.N_elder' (by exact rN HO_965000) (Kd.N_base ho0) hb); replace HO984 := am (Kd.N_elder' (by exact rN HO984) (Kd.N_base ho0) hb); replace HO988 := am (Kd.N_elder' (by exact rN HO988) (Kd.N_base ho0) hb); replace HO992 := am (Kd.N_elder' (by exact rN HO992) (Kd.N_base ho0) hb); replace BK964 := am (blk_below (g := gb964) (o := .cells #[.slice Ao12 t960.length co12] 28 (0, 0)) (by exact rX BK964) hb); replace BK985 := am (blk_below (g := gb985) (o := .cells #[.slice Ao77 t982.length co77] 28 (0, 0)) (by exact rX BK985) hb); replace BK989 := am (blk_below (g := gb989) (o := .cells #[.slice Ao82 t986.length co82] 28 (0, 0)) (by exact rX BK989) hb); replace HB := am (below_step (by exact rB HB) hb)
            (try clear hb); (try clear hb2); (try clear hk); (try clear hi); (try clear ho0); obtain ⟨Ao100, co100, eo100⟩ := Kd.N_slice HO996.out
            (first | subst eo100 | (injection eo100 with f1_ f2_ f3_; have f4_ := f1_.symm; have f5_ := f3_.symm; clear f1_ f2_ f3_; subst f4_; subst f5_))
            refine hK.out _ _ ⟨(blk_cell BK985.out 0).trans rfl, (blk_cell BK989.out 0).trans rfl⟩ (fun hHeld => ?_); clear hK K; refine norm_ (a' := ?_) ?_ ?_; rotate_left; (show Act.put _ (some 98) _ = _; simp only [Act.put, qa, qz, qs, i64_w, i32_w]; rfl); refine one_ (i := 7) (N := some 99) (bA 18 255) rfl rfl (one_of HT_.out (by kernel_rfl)) (by decide) (fun K hK => ?_); refine goes_ Try.func47 (by kernel_rfl) rfl #[.agg #[.slice Ao82 t986.length co82], .agg #[.slice Ao100 t994.length co100]] (by rfl) rfl rfl (by (try simp only [mT, mC, mN]); first | done | rfl) ?_; (with_reducible refine (laws_sameMorphism.calls kj52 _ _ t986 _ _ t994 true _ ?side1 ?side2 ?side3 ?side4 A90.out).mono ?_); (case side1 => exact xC ((Kd.N_reads' HO988.out).2.2)); (case side2 => exact (Kd.N_reads' HO988.out).2.1); (case side3 => exact xC ((Kd.N_reads' HO996.out).2.2)); (case side4 => exact (Kd.N_reads' HO996.out).2.1); rintro e w101 ⟨rfl, hb⟩; refine ⟨_, rfl, ?_⟩; replace HO_965000 := am (Kd.N_below (by exact rN HO_965000) hb); replace HO984 := am (Kd.N_below (by exact rN HO984) hb); replace HO988 := am (Kd.N_below (by exact rN HO988) hb); replace HO992 := am (Kd.N_below (by exact rN HO992) hb); replace HO996 := am (Kd.N_below (by exact rN HO996) hb); replace BK964 := am (blk_below (g := gb964) (o := .cells #[.slice Ao12 t960.length co12] 28 (0, 0)) (by exact rX BK964) hb); replace BK985 := am (blk_below (g := gb985) (o := .cells #[.slice Ao77 t982.length co77] 28 (0, 0)) (by exact rX BK985) hb); replace BK989 := am (blk_below (g := gb989) (o := .cells #[.slice Ao82 t986.length co82] 28 (0, 0)) (by exact rX BK989) hb); replace HB := am (below_step (by exact rB HB) hb)
            (try clear hb); (try clear hb2); (try clear hk); (try clear hi); refine hK.out _ _ ⟨(blk_cell BK985.out 0).trans rfl, (blk_cell BK989.out 0).trans rfl⟩ (fun hHeld => ?_); clear hK K; refine norm_ (a' := ?_) ?_ ?_; rotate_left; (show Act.put _ (some 99) _ = _; simp only [Act.put, qa, qz, qs, i64_w, i32_w]; rfl); refine pure_ (i := 8) (N := some 100) (v := ?_) (a' := ?_) (bA 18 511) rfl rfl (any_of HT_.out (by kernel_rfl)) (fun _ _ _ h => h) (Or.inl ⟨by rfl, ?_⟩) ?_ ?_; rotate_left
            ·intro w'; go_simp; (with_reducible rfl)
            rotate_left; (simp only [Act.put, qa, qz, qs, i64_w, i32_w]; rfl); refine pure_ (i := 9) (N := some 101) (v := ?_) (a' := ?_) (bA 18 1023) rfl rfl (any_of HT_.out (by kernel_rfl)) (fun _ _ _ h => h) (Or.inl ⟨by rfl, ?_⟩) ?_ ?_; rotate_left
            ·intro w'; go_simp; (with_reducible rfl)
            rotate_left; (simp only [Act.put, qa, qz, qs, i64_w, i32_w]; rfl); refine pure_ (i := 10) (N := some 102) (v := ?_) (a' := ?_) (bA 18 2047) rfl rfl (any_of HT_.out (by kernel_rfl)) (fun _ _ _ h => h) (Or.inl ⟨by rfl, ?_⟩) ?_ ?_; rotate_left
            ·intro w'; go_simp; (with_reducible rfl)
            rotate_left; (simp only [Act.put, qa, qz, qs, i64_w, i32_w]; rfl); refine pure_ (i := 12) (N := some 104) (v := ?_) (a' := ?_) (bA 18 6143) rfl rfl (any_of HT_.out (by kernel_rfl)) (fun _ _ _ h => h) (Or.inl ⟨by rfl, ?_⟩) ?_ ?_; rotate_left
            ·intro w'; go_simp; (with_reducible rfl)
            rotate_left; (simp only [Act.put, qa, qz, qs, i64_w, i32_w]; rfl); refine take_ (i := 11) (N := some 103) (v := ?_) (a' := ?_) (bA 18 8191) rfl rfl (take_ofW HT_.out HW_.out (by kernel_rfl)) (fun _ _ _ h => h) (Or.inl ⟨by rfl, ?_⟩) hHeld ?_ ?_; rotate_left
            ·rintro w' ⟨s0, s1⟩; go_simp; (with_reducible rfl)
            rotate_left; (simp only [Act.put, qa, qz, qs, i64_w, i32_w]; rfl); refine one_ (i := 13) (N := some 105) (bA 18 16383) rfl rfl (one_of HT_.out (by kernel_rfl)) (by decide) (fun K hK => ?_); refine goes_ Try.func50 (by kernel_rfl) rfl #[.slice A0 l0.length c0, .int .i64 2] (by rfl) rfl rfl (by (try simp only [mT, mC, mN]); first | done | rfl) ?_; (with_reducible refine (laws_at.calls _ _ l0 2 t998 _ ?side1 ?side2 A92.out).mono ?_); (case side1 => exact xC ((Kd.C_below HR0.out HB.out))); (case side2 => exact HC0.out); rintro e w' ⟨rfl, ⟨nd, rfl⟩⟩; refine ⟨_, rfl, ?_⟩; refine hK.out _ _ ⟨(blk_cell BK985.out 0).trans rfl, (blk_cell BK989.out 0).trans rfl⟩ (fun hHeld => ?_); clear hK K; refine norm_ (a' := ?_) ?_ ?_; rotate_left
            ·show Act.put _ (some 105) _ = _; simp only [Act.put, qa, qz, qs, i64_w, i32_w]; rfl
            refine pure_ (i := 14) (N := some 106) (v := ?_) (a' := ?_) (bA 18 32767) rfl rfl (any_of HT_.out (by kernel_rfl)) (fun _ _ _ h => h) (Or.inl ⟨by rfl, ?_⟩) ?_ ?_; rotate_left; (intro w'; go_simp; (with_reducible rfl)); rotate_left; (simp only [Act.put, qa, qz, qs, i64_w, i32_w]; rfl); refine one_ (i := 15) (N := some 107) (bA 18 65535) rfl rfl (one_of HT_.out (by kernel_rfl)) (by decide) (fun K hK => ?_); refine goes_ Try.func34 (by kernel_rfl) rfl #[.agg #[.slice Ao77 t982.length co77], .int .i64 (Int.tmod t998 6)] (by rfl) rfl rfl (by (try simp only [mT, mC, mN]); first | done | rfl) ?_; (with_reducible refine (impl_KeepsOverlapFree.calls kj52 _ _ t982 (Int.tmod t998 6) t999 _ ?side1 ?side2 A93.out).mono ?_); (case side1 => exact xC ((Kd.N_reads' HO984.out).2.2)); (case side2 => exact (Kd.N_reads' HO984.out).2.1); rintro e w102 ⟨rfl, hb⟩; refine ⟨_, rfl, ?_⟩; replace HO_965000 := am (Kd.N_below (by exact rN HO_965000) hb); replace HO984 := am (Kd.N_below (by exact rN HO984) hb); replace HO988 := am (Kd.N_below (by exact rN HO988) hb); replace HO992 := am (Kd.N_below (by exact rN HO992) hb); replace HO996 := am (Kd.N_below (by exact rN HO996) hb); replace BK964 := am (blk_below (g := gb964) (o := .cells #[.slice Ao12 t960.length co12] 28 (0, 0)) (by exact rX BK964) hb); replace BK985 := am (blk_below (g := gb985) (o := .cells #[.slice Ao77 t982.length co77] 28 (0, 0)) (by exact rX BK985) hb); replace BK989 := am (blk_below (g := gb989) (o := .cells #[.slice Ao82 t986.length co82] 28 (0, 0)) (by exact rX BK989) hb); replace HB := am (below_step (by exact rB HB) hb)
            (try clear hb); (try clear hb2); (try clear hk); (try clear hi); refine hK.out _ _ ⟨(blk_cell BK985.out 0).trans rfl, (blk_cell BK989.out 0).trans rfl⟩ (fun hHeld => ?_); clear hK K; refine norm_ (a' := ?_) ?_ ?_; rotate_left; (show Act.put _ (some 107) _ = _; simp only [Act.put, qa, qz, qs, i64_w, i32_w]; rfl); refine pure_ (i := 16) (N := some 108) (v := ?_) (a' := ?_) (bA 18 131071) rfl rfl (any_of HT_.out (by kernel_rfl)) (fun _ _ _ h => h) (Or.inl ⟨by rfl, ?_⟩) ?_ ?_; rotate_left
            ·intro w'; go_simp; (with_reducible rfl)
            rotate_left; (simp only [Act.put, qa, qz, qs, i64_w, i32_w]; rfl); refine pure_ (i := 17) (N := some 109) (v := ?_) (a' := ?_) (bA 18 262143) rfl rfl (any_of HT_.out (by kernel_rfl)) (fun _ _ _ h => h) (Or.inl ⟨by rfl, ?_⟩) ?_ ?_; rotate_left
            ·intro w'; go_simp; (with_reducible rfl)
            rotate_left; (simp only [Act.put, qa, qz, qs, i64_w, i32_w]; rfl); refine done_ (done_of HT_.out (by kernel_rfl)) ?_
            try go_wp2
            go_meet
            case rel => exact ⟨_, (!t999), (by first | rfl | (simp; done) | (simp [*]; done)), H', ⟨by have := HJ8.out; have := HJ52.out; first | omega | exact Nat.le_refl _⟩, ⟨by exact xN (Kd.N_mono HO_965000.out (fun _ hk => ⟨hk.1.1.1, ⟨hk.1.1.2.1, ⟨hk.1.1.2.2.1, ⟨hk.1.1.2.2.2.1, hk.1.1.2.2.2.2⟩⟩⟩⟩))⟩, ⟨by exact xN (Kd.N_mono HO984.out (fun _ hk => ⟨hk.1.1.1, ⟨hk.1.1.2.1, ⟨hk.1.1.2.2.1, ⟨hk.1.1.2.2.2.1, hk.1.1.2.2.2.2⟩⟩⟩⟩))⟩, ⟨by exact xN (Kd.N_mono HO988.out (fun _ hk => ⟨hk.1.1.1, ⟨hk.1.1.2.1, ⟨hk.1.1.2.2.1, ⟨hk.1.1.2.2.2.1, hk.1.1.2.2.2.2⟩⟩⟩⟩))⟩, ⟨by exact rX BK964⟩, ⟨by exact rX BK985⟩, ⟨by exact rX BK989⟩, ⟨by exact rB HB⟩⟩
          ·replace c91 := Bool.eq_false_iff.mpr c91; subst c91; have H1 : (laws_FnFree.j2 kj52 l0 true t982 t986) = some r := by rw [if_neg (show ¬ (false = true) by decide)] at H; exact H
           clear H; have H := H1; clear H1
           as_aux_lemma =>
            first | exact (laws_FnFree.j0_no H HRT.out).elim | exact (laws_FnFree.j1_no H HRT.out).elim | exact (laws_FnFree.j2_no H HRT.out).elim | exact (laws_FnFree.j3_no H HRT.out).elim
         ·replace c88 := Bool.eq_false_iff.mpr c88; subst c88; have H1 : (laws_FnFree.j2 kj52 l0 true t982 t986) = some r := by rw [if_neg (show ¬ (false = true) by decide)] at H; exact H
          clear H; have H := H1; clear H1
          as_aux_lemma =>
           first | exact (laws_FnFree.j0_no H HRT.out).elim | exact (laws_FnFree.j1_no H HRT.out).elim | exact (laws_FnFree.j2_no H HRT.out).elim | exact (laws_FnFree.j3_no H HRT.out).elim
        case rest =>
         clear HC74
         try clear p2
         try clear c4
         try clear c8
         try clear c9
         try clear c47
         try clear c48
         try clear c49
         try clear c88
         try clear c91
         obtain ⟨kq, x109_73, rfl, HA, HJ73, HO_965000, HO_986000, HO_990000, BK964, BK985, BK989, HB⟩ := hcut; cases kq with
         | zero => exact absurd HA.out (by simp [laws_FnFree.j2])
         | succ kj73 =>
          have H := HA.out; clear HA; simp only [laws_FnFree.j2] at H; by_cases c116 : x109_73 = true
          ·subst c116; have H1 : (some false) = some r := by rw [if_pos rfl] at H; exact H
           rw [HRT.out] at H1; cases H1
          ·replace c116 := Bool.eq_false_iff.mpr c116; subst c116; have H1 : ((spec_FixedPrefix.f kj73 t982 0 60).bind fun bt1000 => ((spec_FixedPrefix.f kj73 t986 0 60).bind fun bt1004 => (if bt1000.2 = true then (if bt1004.2 = true then ((impl_HasOverlap.f kj73 bt1000.1).bind fun t1008 => (if t1008 = true then (laws_FnFree.j3 kj73 l0 true) else ((impl_HasSquare.f kj73 bt1004.1).bind fun t1009 => (laws_FnFree.j3 kj73 l0 t1009)))) else (laws_FnFree.j3 kj73 l0 true)) else (laws_FnFree.j3 kj73 l0 true)))) = some r := by rw [if_neg (show ¬ (false = true) by decide)] at H; exact H
           clear H; have H := H1; clear H1; replace H := Option.bind_eq_some_iff.mp H; obtain ⟨⟨t1000, t1003⟩, A1170, H⟩ := H; replace H : ((spec_FixedPrefix.f kj73 t986 0 60).bind fun bt1004 => (if t1003 = true then (if bt1004.2 = true then ((impl_HasOverlap.f kj73 t1000).bind fun t1008 => (if t1008 = true then (laws_FnFree.j3 kj73 l0 true) else ((impl_HasSquare.f kj73 bt1004.1).bind fun t1009 => (laws_FnFree.j3 kj73 l0 t1009)))) else (laws_FnFree.j3 kj73 l0 true)) else (laws_FnFree.j3 kj73 l0 true))) = some r := H; have A117 := am A1170; clear A1170; replace H := Option.bind_eq_some_iff.mp H; obtain ⟨⟨t1004, t1007⟩, A1180, H⟩ := H; replace H : (if t1003 = true then (if t1007 = true then ((impl_HasOverlap.f kj73 t1000).bind fun t1008 => (if t1008 = true then (laws_FnFree.j3 kj73 l0 true) else ((impl_HasSquare.f kj73 t1004).bind fun t1009 => (laws_FnFree.j3 kj73 l0 t1009)))) else (laws_FnFree.j3 kj73 l0 true)) else (laws_FnFree.j3 kj73 l0 true)) = some r := H; have A118 := am A1180; clear A1180; have HC119 := am H; clear H; have hnb120 := NB985_964.out; have hnc120 := NB964_985.out; have hnb121 := NB985_989.out; have hnc121 := NB989_985.out; have hcz122_0 : wc.cell? ⟨gb985, 0, none⟩ = some (.slice Ao77 t982.length co77) := (blk_cell BK985.out 0).trans rfl; have hfz122_0 := blk_frozen BK985.out 0; go_upto_region 18 with (first | ((with_reducible refine gate_callee (f := 51) rfl ?_); refine goesL_ (some 112) rfl rfl Try.func51 (by kernel_rfl) rfl #[.agg #[.slice Ao77 t982.length co77], .int .i64 0, .int .i64 60] rfl (by (try simp only [mT, mC, mN]); first | done | rfl) ?_; (with_reducible refine (spec_FixedPrefix.calls kj73 _ _ t982 0 60 t1000 t1003 _ ?side1 ?side2 A117.out).mono ?_); (case side1 => exact xC ((Kd.N_reads' HO_986000.out).2.2)); (case side2 => exact (Kd.N_reads' HO_986000.out).2.1); rintro e w123 ⟨v1001, rfl, ho0, hb⟩; refine ⟨_, rfl, ?_⟩; replace HO_965000 := am (Kd.N_elder' (by exact rN HO_965000) (Kd.R_base ho0) hb); replace HO_986000 := am (Kd.N_elder' (by exact rN HO_986000) (Kd.R_base ho0) hb); replace HO_990000 := am (Kd.N_elder' (by exact rN HO_990000) (Kd.R_base ho0) hb); have HO1002 := am (Kd.R_lower ho0 (below_size (by exact rB HB))); replace BK964 := am (blk_below (g := gb964) (o := .cells #[.slice Ao12 t960.length co12] 28 (0, 0)) (by exact rX BK964) hb); replace BK985 := am (blk_below (g := gb985) (o := .cells #[.slice Ao77 t982.length co77] 28 (0, 0)) (by exact rX BK985) hb); replace BK989 := am (blk_below (g := gb989) (o := .cells #[.slice Ao82 t986.length co82] 28 (0, 0)) (by exact rX BK989) hb); replace HB := am (below_step (by exact rB HB) hb); clear hb ho0; have hnb124 := NB989_964.out; have hnc124 := NB964_989.out; have hcz125_0 : w123.cell? ⟨gb989, 0, none⟩ = some (.slice Ao82 t986.length co82) := (blk_cell BK989.out 0).trans rfl; have hfz125_0 := blk_frozen BK989.out 0) | ((with_reducible refine gate_callee (f := 51) rfl ?_); refine goesL_ (some 117) rfl rfl Try.func51 (by kernel_rfl) rfl #[.agg #[.slice Ao82 t986.length co82], .int .i64 0, .int .i64 60] rfl (by (try simp only [mT, mC, mN]); first | done | rfl) ?_; (with_reducible refine (spec_FixedPrefix.calls kj73 _ _ t986 0 60 t1004 t1007 _ ?side1 ?side2 A118.out).mono ?_); (case side1 => exact xC ((Kd.N_reads' HO_990000.out).2.2)); (case side2 => exact (Kd.N_reads' HO_990000.out).2.1); rintro e w126 ⟨v1005, rfl, ho0, hb⟩; refine ⟨_, rfl, ?_⟩; replace HO_965000 := am (Kd.N_elder' (by exact rN HO_965000) (Kd.R_base ho0) hb); replace HO_986000 := am (Kd.N_elder' (by exact rN HO_986000) (Kd.R_base ho0) hb); replace HO_990000 := am (Kd.N_elder' (by exact rN HO_990000) (Kd.R_base ho0) hb); have HO1006 := am (Kd.R_lower (Kd.R_new' ho0 (Kd.R_lt (by exact rR HO1002))) (below_size (by exact rB HB))); replace HO1002 := am (Kd.R_elder' (by exact rR HO1002) (Kd.R_base ho0) hb); replace BK964 := am (blk_below (g := gb964) (o := .cells #[.slice Ao12 t960.length co12] 28 (0, 0)) (by exact rX BK964) hb); replace BK985 := am (blk_below (g := gb985) (o := .cells #[.slice Ao77 t982.length co77] 28 (0, 0)) (by exact rX BK985) hb); replace BK989 := am (blk_below (g := gb989) (o := .cells #[.slice Ao82 t986.length co82] 28 (0, 0)) (by exact rX BK989) hb); replace HB := am (below_step (by exact rB HB) hb); clear hb ho0)); (try simp only [Act.put, qa, qz, qs]); go_cut [133] (fun v133 wc => ∃ (kq : Nat) (x133_118 : Bool), v133 = .bool x133_118 ∧ Aside0 (laws_FnFree.j3 kq l0 x133_118 = some r) ∧ Aside0 (kq ≤ kj73) ∧ Aside0 (Kd.N (Kd.slice 3 (Kd.int .i64)) 36 wc w.heap.size (fun k_ => some k_ ≠ ((.slice Ao77 t982.length co77) : Value).ownBlock ∧ some k_ ≠ ((.slice Ao82 t986.length co82) : Value).ownBlock ∧ k_ ≠ gb964 ∧ k_ ≠ gb985 ∧ k_ ≠ gb989) (.slice Ao12 t960.length co12) t960) ∧ Aside0 (Kd.N (Kd.slice 3 (Kd.int .i64)) 36 wc w.heap.size (fun k_ => some k_ ≠ ((.slice Ao12 t960.length co12) : Value).ownBlock ∧ some k_ ≠ ((.slice Ao82 t986.length co82) : Value).ownBlock ∧ k_ ≠ gb964 ∧ k_ ≠ gb985 ∧ k_ ≠ gb989) (.slice Ao77 t982.length co77) t982) ∧ Aside0 (Kd.N (Kd.slice 3 (Kd.int .i64)) 36 wc w.heap.size (fun k_ => some k_ ≠ ((.slice Ao12 t960.length co12) : Value).ownBlock ∧ some k_ ≠ ((.slice Ao77 t982.length co77) : Value).ownBlock ∧ k_ ≠ gb964 ∧ k_ ≠ gb985 ∧ k_ ≠ gb989) (.slice Ao82 t986.length co82) t986) ∧ Aside0 (wc.heap[gb964]? = some (.cells #[(.slice Ao12 t960.length co12)] 28 (0, 0))) ∧ Aside0 (wc.heap[gb985]? = some (.cells #[(.slice Ao77 t982.length co77)] 28 (0, 0))) ∧ Aside0 (wc.heap[gb989]? = some (.cells #[(.slice Ao82 t986.length co82)] 28 (0, 0))) ∧ Aside0 (Below w.heap.size w wc))
           case first =>
            have H := HC119.out; clear HC119; by_cases c127 : t1003 = true
            ·subst c127; have H1 : (if t1007 = true then ((impl_HasOverlap.f kj73 t1000).bind fun t1008 => (if t1008 = true then (laws_FnFree.j3 kj73 l0 true) else ((impl_HasSquare.f kj73 t1004).bind fun t1009 => (laws_FnFree.j3 kj73 l0 t1009)))) else (laws_FnFree.j3 kj73 l0 true)) = some r := by rw [if_pos rfl] at H; exact H
             clear H; have H := H1; clear H1; by_cases c128 : t1007 = true
             ·subst c128; have H1 : ((impl_HasOverlap.f kj73 t1000).bind fun t1008 => (if t1008 = true then (laws_FnFree.j3 kj73 l0 true) else ((impl_HasSquare.f kj73 t1004).bind fun t1009 => (laws_FnFree.j3 kj73 l0 t1009)))) = some r := by rw [if_pos rfl] at H; exact H
              clear H; have H := H1; clear H1; replace H := Option.bind_eq_some_iff.mp H; obtain ⟨t1008, A1290, H⟩ := H; replace H : (if t1008 = true then (laws_FnFree.j3 kj73 l0 true) else ((impl_HasSquare.f kj73 t1004).bind fun t1009 => (laws_FnFree.j3 kj73 l0 t1009))) = some r := H; have A129 := am A1290; clear A1290; by_cases c130 : t1008 = true
              ·subst c130; have H1 : (laws_FnFree.j3 kj73 l0 true) = some r := by rw [if_pos rfl] at H; exact H
               clear H; have H := H1; clear H1
               as_aux_lemma =>
                first | exact (laws_FnFree.j0_no H HRT.out).elim | exact (laws_FnFree.j1_no H HRT.out).elim | exact (laws_FnFree.j2_no H HRT.out).elim | exact (laws_FnFree.j3_no H HRT.out).elim
              ·replace c130 := Bool.eq_false_iff.mpr c130; subst c130; have H1 : ((impl_HasSquare.f kj73 t1004).bind fun t1009 => (laws_FnFree.j3 kj73 l0 t1009)) = some r := by rw [if_neg (show ¬ (false = true) by decide)] at H; exact H
               clear H; have H := H1; clear H1; replace H := Option.bind_eq_some_iff.mp H; obtain ⟨t1009, A1330, H⟩ := H; replace H : (laws_FnFree.j3 kj73 l0 t1009) = some r := H; have A133 := am A1330; clear A1330
               as_aux_lemma =>
                have H' := am H; clear H; obtain ⟨Ao134, co134, eo134⟩ := Kd.R_slice HO1002.out; subst eo134; go_wp2_with (first | (go_at_call 52; (with_reducible refine (impl_HasOverlap.calls kj73 _ _ t1000 false _ ?side1 ?side2 A129.out).mono ?_); (case side1 => exact xC ((Kd.R_reads' HO1002.out).2.2)); (case side2 => exact (Kd.R_reads' HO1002.out).2.1); rintro e w135 ⟨rfl, hb⟩; replace HO_965000 := am (Kd.N_below (by exact rN HO_965000) hb); replace HO_986000 := am (Kd.N_below (by exact rN HO_986000) hb); replace HO_990000 := am (Kd.N_below (by exact rN HO_990000) hb); replace HO1002 := am (Kd.R_below (by exact rR HO1002) hb); replace HO1006 := am (Kd.R_below (by exact rR HO1006) hb); replace BK964 := am (blk_below (g := gb964) (o := .cells #[.slice Ao12 t960.length co12] 28 (0, 0)) (by exact rX BK964) hb); replace BK985 := am (blk_below (g := gb985) (o := .cells #[.slice Ao77 t982.length co77] 28 (0, 0)) (by exact rX BK985) hb); replace BK989 := am (blk_below (g := gb989) (o := .cells #[.slice Ao82 t986.length co82] 28 (0, 0)) (by exact rX BK989) hb); replace HB := am (below_step (by exact rB HB) hb); clear hb; obtain ⟨Ao136, co136, eo136⟩ := Kd.R_slice HO1006.out; subst eo136) | (go_at_call 53; (with_reducible refine (impl_HasSquare.calls kj73 _ _ t1004 t1009 _ ?side1 ?side2 A133.out).mono ?_); (case side1 => exact xC ((Kd.R_reads' HO1006.out).2.2)); (case side2 => exact (Kd.R_reads' HO1006.out).2.1); rintro e w137 ⟨rfl, hb⟩; replace HO_965000 := am (Kd.N_below (by exact rN HO_965000) hb); replace HO_986000 := am (Kd.N_below (by exact rN HO_986000) hb); replace HO_990000 := am (Kd.N_below (by exact rN HO_990000) hb); replace HO1002 := am (Kd.R_below (by exact rR HO1002) hb); replace HO1006 := am (Kd.R_below (by exact rR HO1006) hb); replace BK964 := am (blk_below (g := gb964) (o := .cells #[.slice Ao12 t960.length co12] 28 (0, 0)) (by exact rX BK964) hb); replace BK985 := am (blk_below (g := gb985) (o := .cells #[.slice Ao77 t982.length co77] 28 (0, 0)) (by exact rX BK985) hb); replace BK989 := am (blk_below (g := gb989) (o := .cells #[.slice Ao82 t986.length co82] 28 (0, 0)) (by exact rX BK989) hb); replace HB := am (below_step (by exact rB HB) hb); clear hb)); go_meet
                case rel => exact ⟨_, (t1009), (by first | rfl | (simp; done) | (simp [*]; done)), H', ⟨by have := HJ8.out; have := HJ52.out; have := HJ73.out; first | omega | exact Nat.le_refl _⟩, ⟨by exact xN (Kd.N_mono HO_965000.out (fun _ hk => ⟨hk.1.1.1, ⟨hk.1.1.2.1, ⟨hk.1.1.2.2.1, ⟨hk.1.1.2.2.2.1, hk.1.1.2.2.2.2⟩⟩⟩⟩))⟩, ⟨by exact xN (Kd.N_mono HO_986000.out (fun _ hk => ⟨hk.1.1.1, ⟨hk.1.1.2.1, ⟨hk.1.1.2.2.1, ⟨hk.1.1.2.2.2.1, hk.1.1.2.2.2.2⟩⟩⟩⟩))⟩, ⟨by exact xN (Kd.N_mono HO_990000.out (fun _ hk => ⟨hk.1.1.1, ⟨hk.1.1.2.1, ⟨hk.1.1.2.2.1, ⟨hk.1.1.2.2.2.1, hk.1.1.2.2.2.2⟩⟩⟩⟩))⟩, ⟨by exact rX BK964⟩, ⟨by exact rX BK985⟩, ⟨by exact rX BK989⟩, ⟨by exact rB HB⟩⟩
             ·replace c128 := Bool.eq_false_iff.mpr c128; subst c128; have H1 : (laws_FnFree.j3 kj73 l0 true) = some r := by rw [if_neg (show ¬ (false = true) by decide)] at H; exact H
              clear H; have H := H1; clear H1
              as_aux_lemma =>
               first | exact (laws_FnFree.j0_no H HRT.out).elim | exact (laws_FnFree.j1_no H HRT.out).elim | exact (laws_FnFree.j2_no H HRT.out).elim | exact (laws_FnFree.j3_no H HRT.out).elim
            ·replace c127 := Bool.eq_false_iff.mpr c127; subst c127; have H1 : (laws_FnFree.j3 kj73 l0 true) = some r := by rw [if_neg (show ¬ (false = true) by decide)] at H; exact H
             clear H; have H := H1; clear H1
             as_aux_lemma =>
              first | exact (laws_FnFree.j0_no H HRT.out).elim | exact (laws_FnFree.j1_no H HRT.out).elim | exact (laws_FnFree.j2_no H HRT.out).elim | exact (laws_FnFree.j3_no H HRT.out).elim
           case rest =>
            clear HC119
            try clear c1
            try clear p2
            try clear c4
            try clear c5
            try clear c8
            try clear c9
            try clear c11
            try clear c12
            try clear c13
            try clear c47
            try clear c48
            try clear c49
            try clear c51
            try clear c88
            try clear c91
            try clear c116
            try clear c120
            try clear c121
            try clear c124
            try clear c127
            try clear c128
            try clear c130
            try clear hcz122_0
            try clear hcz125_0
            try clear hfz122_0
            try clear hfz125_0
            try clear p2
            obtain ⟨kq, x133_118, rfl, HA, HJ118, HO_965000, HO_986000, HO_990000, BK964, BK985, BK989, HB⟩ := hcut; cases kq with
            | zero => exact absurd HA.out (by simp [laws_FnFree.j3])
            | succ kj118 =>
             have H := HA.out; clear HA; simp only [laws_FnFree.j3] at H; by_cases c138 : x133_118 = true
             ·subst c138; have H1 : (some false) = some r := by rw [if_pos rfl] at H; exact H
              rw [HRT.out] at H1; cases H1
             ·replace c138 := Bool.eq_false_iff.mpr c138; subst c138; have H1 : ((spec_DrawKeepsOverlapFree.f kj118 l0).bind fun bt1010 => ((spec_DrawSquareFreeWords.f kj118 l0).bind fun bt1015 => ((impl_SquareFreeWords.f kj118 bt1015.1 bt1015.2).bind fun bt1017 => ((spec_SquareFreeWords.f kj118 bt1015.1 bt1015.2).bind fun bt1021 => ((impl_KeepsOverlapFree.f kj118 bt1010.1 bt1010.2).bind fun t1025 => ((spec_KeepsOverlapFree.f kj118 bt1010.1 bt1010.2).bind fun t1026 => (if (t1025 == t1026) = true then (if (bt1017.2 == bt1021.2) = true then ((laws_sameWords.f kj118 bt1017.1 bt1021.1).bind fun t1027 => (some t1027)) else (some false)) else (some false)))))))) = some r := by rw [if_neg (show ¬ (false = true) by decide)] at H; exact H
              clear H; have H := H1; clear H1; replace H := Option.bind_eq_some_iff.mp H; obtain ⟨⟨t1010, t1013⟩, A1390, H⟩ := H; replace H : ((spec_DrawSquareFreeWords.f kj118 l0).bind fun bt1015 => ((impl_SquareFreeWords.f kj118 bt1015.1 bt1015.2).bind fun bt1017 => ((spec_SquareFreeWords.f kj118 bt1015.1 bt1015.2).bind fun bt1021 => ((impl_KeepsOverlapFree.f kj118 t1010 t1013).bind fun t1025 => ((spec_KeepsOverlapFree.f kj118 t1010 t1013).bind fun t1026 => (if (t1025 == t1026) = true then (if (bt1017.2 == bt1021.2) = true then ((laws_sameWords.f kj118 bt1017.1 bt1021.1).bind fun t1027 => (some t1027)) else (some false)) else (some false))))))) = some r := H; have A139 := am A1390; clear A1390; replace H := Option.bind_eq_some_iff.mp H; obtain ⟨⟨t1015, t1016⟩, A1400, H⟩ := H; replace H : ((impl_SquareFreeWords.f kj118 t1015 t1016).bind fun bt1017 => ((spec_SquareFreeWords.f kj118 t1015 t1016).bind fun bt1021 => ((impl_KeepsOverlapFree.f kj118 t1010 t1013).bind fun t1025 => ((spec_KeepsOverlapFree.f kj118 t1010 t1013).bind fun t1026 => (if (t1025 == t1026) = true then (if (bt1017.2 == bt1021.2) = true then ((laws_sameWords.f kj118 bt1017.1 bt1021.1).bind fun t1027 => (some t1027)) else (some false)) else (some false)))))) = some r := H; have A140 := am A1400; clear A1400; replace H := Option.bind_eq_some_iff.mp H; obtain ⟨⟨t1017, t1020⟩, A1410, H⟩ := H; replace H : ((spec_SquareFreeWords.f kj118 t1015 t1016).bind fun bt1021 => ((impl_KeepsOverlapFree.f kj118 t1010 t1013).bind fun t1025 => ((spec_KeepsOverlapFree.f kj118 t1010 t1013).bind fun t1026 => (if (t1025 == t1026) = true then (if (t1020 == bt1021.2) = true then ((laws_sameWords.f kj118 t1017 bt1021.1).bind fun t1027 => (some t1027)) else (some false)) else (some false))))) = some r := H; have A141 := am A1410; clear A1410; replace H := Option.bind_eq_some_iff.mp H; obtain ⟨⟨t1021, t1024⟩, A1420, H⟩ := H; replace H : ((impl_KeepsOverlapFree.f kj118 t1010 t1013).bind fun t1025 => ((spec_KeepsOverlapFree.f kj118 t1010 t1013).bind fun t1026 => (if (t1025 == t1026) = true then (if (t1020 == t1024) = true then ((laws_sameWords.f kj118 t1017 t1021).bind fun t1027 => (some t1027)) else (some false)) else (some false)))) = some r := H; have A142 := am A1420; clear A1420; replace H := Option.bind_eq_some_iff.mp H; obtain ⟨t1025, A1430, H⟩ := H; replace H : ((spec_KeepsOverlapFree.f kj118 t1010 t1013).bind fun t1026 => (if (t1025 == t1026) = true then (if (t1020 == t1024) = true then ((laws_sameWords.f kj118 t1017 t1021).bind fun t1027 => (some t1027)) else (some false)) else (some false))) = some r := H; have A143 := am A1430; clear A1430; replace H := Option.bind_eq_some_iff.mp H; obtain ⟨t1026, A1440, H⟩ := H; replace H : (if (t1025 == t1026) = true then (if (t1020 == t1024) = true then ((laws_sameWords.f kj118 t1017 t1021).bind fun t1027 => (some t1027)) else (some false)) else (some false)) = some r := H; have A144 := am A1440; clear A1440; by_cases c145 : (t1025 == t1026) = true
              ·rw [if_pos c145] at H; have c145b0 : (t1025 == t1026) = true := c145; (try (have c145b1 : decide (t1025 = t1026) = true := by simpa using c145)); (try (have c145b2 : (t1025 == t1026) = true := by simpa using c145)); clear c145; by_cases c146 : (t1020 == t1024) = true
               ·rw [if_pos c146] at H; have c146b0 : (t1020 == t1024) = true := c146; (try (have c146b1 : decide (t1020 = t1024) = true := by simpa using c146)); (try (have c146b2 : (t1020 == t1024) = true := by simpa using c146)); clear c146; replace H := Option.bind_eq_some_iff.mp H; obtain ⟨t1027, A1470, H⟩ := H; replace H : (some t1027) = some r := H; have A147 := am A1470; clear A1470
                as_aux_lemma =>
                 obtain rfl := Option.some.inj H
                 try go_wp2_with (first | ((with_reducible refine gate_callee (f := 54) rfl ?_); refine goesL_ (some 136) rfl rfl Try.func54 (by kernel_rfl) rfl #[.slice A0 l0.length c0] rfl (by (try simp only [mT, mC, mN]); first | done | rfl) ?_; (with_reducible refine (spec_DrawKeepsOverlapFree.calls kj118 _ _ l0 t1010 t1013 _ ?side1 ?side2 A139.out).mono ?_); (case side1 => exact xC ((Kd.C_below HR0.out HB.out))); (case side2 => exact HC0.out); rintro e w148 ⟨v1011, rfl, ho0, hb⟩; refine ⟨_, rfl, ?_⟩; have HO1012 := am (Kd.N_lower (Kd.N_mono (ok' := fun k_ => some k_ ≠ (.slice Ao12 t960.length co12 : Value).ownBlock ∧ some k_ ≠ (.slice Ao77 t982.length co77 : Value).ownBlock ∧ some k_ ≠ (.slice Ao82 t986.length co82 : Value).ownBlock ∧ k_ ≠ gb964 ∧ k_ ≠ gb985 ∧ k_ ≠ gb989) ho0 (fun k_ hk_ => ⟨(Kd.fresh' (Kd.N_lt (by exact rN HO_965000)) k_ hk_), (Kd.fresh' (Kd.N_lt (by exact rN HO_986000)) k_ hk_), (Kd.fresh' (Kd.N_lt (by exact rN HO_990000)) k_ hk_), (Kd.freshB (g := gb964) (o := .cells #[.slice Ao12 t960.length co12] 28 (0, 0)) (by exact rX BK964) k_ hk_), (Kd.freshB (g := gb985) (o := .cells #[.slice Ao77 t982.length co77] 28 (0, 0)) (by exact rX BK985) k_ hk_), (Kd.freshB (g := gb989) (o := .cells #[.slice Ao82 t986.length co82] 28 (0, 0)) (by exact rX BK989) k_ hk_)⟩)) (below_size (by exact rB HB))); replace HO_965000 := am (Kd.N_elder' (by exact rN HO_965000) (Kd.N_base ho0) hb); replace HO_986000 := am (Kd.N_elder' (by exact rN HO_986000) (Kd.N_base ho0) hb); replace HO_990000 := am (Kd.N_elder' (by exact rN HO_990000) (Kd.N_base ho0) hb); replace BK964 := am (blk_below (g := gb964) (o := .cells #[.slice Ao12 t960.length co12] 28 (0, 0)) (by exact rX BK964) hb); replace BK985 := am (blk_below (g := gb985) (o := .cells #[.slice Ao77 t982.length co77] 28 (0, 0)) (by exact rX BK985) hb); replace BK989 := am (blk_below (g := gb989) (o := .cells #[.slice Ao82 t986.length co82] 28 (0, 0)) (by exact rX BK989) hb); replace HB := am (below_step (by exact rB HB) hb); clear hb ho0) | ((with_reducible refine gate_dst (N := 17) rfl ?_); refine box_event ?hg (N := 17) ?hd (cs := #[.slice none 0 0]) (t := 28) ?hr ?_; (case hd => rfl); (case hg => rfl); (case hr => first | (go_simp; done) | (go_simp; rfl)); intro gb1014 hg w149 hbox hb; replace HO_965000 := am (Kd.N_below (Kd.N_elderB (by exact rN HO_965000) gb1014 (Nat.le_of_eq hg.symm)) hb); replace HO_986000 := am (Kd.N_below (Kd.N_elderB (by exact rN HO_986000) gb1014 (Nat.le_of_eq hg.symm)) hb); replace HO_990000 := am (Kd.N_below (Kd.N_elderB (by exact rN HO_990000) gb1014 (Nat.le_of_eq hg.symm)) hb); replace HO1012 := am (Kd.N_below (Kd.N_elderB (by exact rN HO1012) gb1014 (Nat.le_of_eq hg.symm)) hb); have BK1014 := am (hbox); have GW1014 := am ((by rw [hg]; exact (below_size (by exact rB HB)) : w.heap.size ≤ gb1014)); have GE1014 := am ((by rw [hg]; exact (below_size (by exact rB HB)) : w.heap.size ≤ gb1014)); replace HB := am (below_step (by exact rB HB) hb); have NB964_1014 := am ((by rw [hg]; exact Nat.ne_of_lt (blk_lt (g := gb964) (o := .cells #[.slice Ao12 t960.length co12] 28 (0, 0)) (by exact rX BK964)) : gb964 ≠ gb1014)); have NB1014_964 := am ((by rw [hg]; exact Nat.ne_of_gt (blk_lt (g := gb964) (o := .cells #[.slice Ao12 t960.length co12] 28 (0, 0)) (by exact rX BK964)) : gb1014 ≠ gb964)); replace BK964 := am (blk_below (g := gb964) (o := .cells #[.slice Ao12 t960.length co12] 28 (0, 0)) (by exact rX BK964) hb); have NB985_1014 := am ((by rw [hg]; exact Nat.ne_of_lt (blk_lt (g := gb985) (o := .cells #[.slice Ao77 t982.length co77] 28 (0, 0)) (by exact rX BK985)) : gb985 ≠ gb1014)); have NB1014_985 := am ((by rw [hg]; exact Nat.ne_of_gt (blk_lt (g := gb985) (o := .cells #[.slice Ao77 t982.length co77] 28 (0, 0)) (by exact rX BK985)) : gb1014 ≠ gb985)); replace BK985 := am (blk_below (g := gb985) (o := .cells #[.slice Ao77 t982.length co77] 28 (0, 0)) (by exact rX BK985) hb); have NB989_1014 := am ((by rw [hg]; exact Nat.ne_of_lt (blk_lt (g := gb989) (o := .cells #[.slice Ao82 t986.length co82] 28 (0, 0)) (by exact rX BK989)) : gb989 ≠ gb1014)); have NB1014_989 := am ((by rw [hg]; exact Nat.ne_of_gt (blk_lt (g := gb989) (o := .cells #[.slice Ao82 t986.length co82] 28 (0, 0)) (by exact rX BK989)) : gb1014 ≠ gb989)); replace BK989 := am (blk_below (g := gb989) (o := .cells #[.slice Ao82 t986.length co82] 28 (0, 0)) (by exact rX BK989) hb); have qW1014 := Ge.mk GW1014.out; have qE1014 := Ge.mk GE1014.out; clear hb hbox hg; obtain ⟨Ao150, co150, eo150⟩ := Kd.N_slice HO1012.out; subst eo150; have hnb151 := NB1014_964.out; have hnc151 := NB964_1014.out; have hnb152 := NB1014_985.out; have hnc152 := NB985_1014.out; have hnb153 := NB1014_989.out; have hnc153 := NB989_1014.out; have hcz154_0 : w149.cell? ⟨gb1014, 0, none⟩ = some (.slice none 0 0) := (blk_cell BK1014.out 0).trans rfl; have hfz154_0 := blk_frozen BK1014.out 0) | ((with_reducible refine gate_callee (f := 55) rfl ?_); refine goesL_ (some 141) rfl rfl Try.func55 (by kernel_rfl) rfl #[.slice A0 l0.length c0] rfl (by (try simp only [mT, mC, mN]); first | done | rfl) ?_; (with_reducible refine (spec_DrawSquareFreeWords.calls kj118 _ _ l0 t1015 t1016 _ ?side1 ?side2 A140.out).mono ?_); (case side1 => exact Kd.C_below HR0.out (by exact rB HB)); (case side2 => exact HC0.out); rintro e w155 ⟨rfl, hb⟩; refine ⟨_, rfl, ?_⟩; replace HO_965000 := am (Kd.N_below (by exact xN ((Kd.N_mono (Kd.N_far (p := ⟨gb1014, 0, none⟩) (Kd.N_mono HO_965000.out (fun k_ hk => (⟨hk, hk.2⟩ : _ ∧ k_ ≠ gb1014))) (fun _ hk => hk.2) (.slice Ao150 t1010.length co150)) (fun _ h_ => h_.1)))) hb); replace HO_986000 := am (Kd.N_below (by exact xN ((Kd.N_mono (Kd.N_far (p := ⟨gb1014, 0, none⟩) (Kd.N_mono HO_986000.out (fun k_ hk => (⟨hk, hk.2⟩ : _ ∧ k_ ≠ gb1014))) (fun _ hk => hk.2) (.slice Ao150 t1010.length co150)) (fun _ h_ => h_.1)))) hb); replace HO_990000 := am (Kd.N_below (by exact xN ((Kd.N_mono (Kd.N_far (p := ⟨gb1014, 0, none⟩) (Kd.N_mono HO_990000.out (fun k_ hk => (⟨hk, hk.2⟩ : _ ∧ k_ ≠ gb1014))) (fun _ hk => hk.2) (.slice Ao150 t1010.length co150)) (fun _ h_ => h_.1)))) hb); replace HO1012 := am (Kd.N_below (by exact xN ((Kd.N_mono (Kd.N_far (p := ⟨gb1014, 0, none⟩) (Kd.N_mono HO1012.out (fun k_ hk => (⟨hk, hk.2⟩ : _ ∧ k_ ≠ gb1014))) (fun _ hk => hk.2) (.slice Ao150 t1010.length co150)) (fun _ h_ => h_.1)))) hb); replace BK964 := am (blk_below (g := gb964) (o := .cells #[.slice Ao12 t960.length co12] 28 (0, 0)) (by (with_reducible repeat (first | refine blk_drewN ?_ _ | refine blk_drew ?_ | refine blk_alloc ?_ _)); refine blk_far ?_ NB964_1014.out _; exact rX BK964) hb); replace BK985 := am (blk_below (g := gb985) (o := .cells #[.slice Ao77 t982.length co77] 28 (0, 0)) (by (with_reducible repeat (first | refine blk_drewN ?_ _ | refine blk_drew ?_ | refine blk_alloc ?_ _)); refine blk_far ?_ NB985_1014.out _; exact rX BK985) hb); replace BK989 := am (blk_below (g := gb989) (o := .cells #[.slice Ao82 t986.length co82] 28 (0, 0)) (by (with_reducible repeat (first | refine blk_drewN ?_ _ | refine blk_drew ?_ | refine blk_alloc ?_ _)); refine blk_far ?_ NB989_1014.out _; exact rX BK989) hb); replace BK1014 := am (blk_below (g := gb1014) (o := .cells #[.slice Ao150 t1010.length co150] 28 (0, 0)) (by (with_reducible repeat (first | refine blk_drewN ?_ _ | refine blk_drew ?_ | refine blk_alloc ?_ _)); refine blk_put (cs := #[.slice none 0 0]) ?_ 0 _ rfl; exact rX BK1014) hb); replace HB := am (below_step (by exact rB HB) hb); clear hb) | ((with_reducible refine gate_callee (f := 56) rfl ?_); refine goesL_ (some 147) rfl rfl Try.func56 (by kernel_rfl) rfl #[.int .i64 t1015, .int .i64 t1016] rfl (by (try simp only [mT, mC, mN]); first | done | rfl) ?_; (with_reducible refine (impl_SquareFreeWords.calls kj118 t1015 t1016 t1017 t1020 _ A141.out).mono ?_); rintro e w156 ⟨v1018, rfl, ho0, hb⟩; refine ⟨_, rfl, ?_⟩; have HO1019 := am (Kd.N_lower (Kd.N_mono (ok' := fun k_ => some k_ ≠ (.slice Ao12 t960.length co12 : Value).ownBlock ∧ some k_ ≠ (.slice Ao77 t982.length co77 : Value).ownBlock ∧ some k_ ≠ (.slice Ao82 t986.length co82 : Value).ownBlock ∧ some k_ ≠ (.slice Ao150 t1010.length co150 : Value).ownBlock ∧ k_ ≠ gb964 ∧ k_ ≠ gb985 ∧ k_ ≠ gb989 ∧ k_ ≠ gb1014) ho0 (fun k_ hk_ => ⟨(Kd.fresh' (Kd.N_lt (by exact rN HO_965000)) k_ hk_), (Kd.fresh' (Kd.N_lt (by exact rN HO_986000)) k_ hk_), (Kd.fresh' (Kd.N_lt (by exact rN HO_990000)) k_ hk_), (Kd.fresh' (Kd.N_lt (by exact rN HO1012)) k_ hk_), (Kd.freshB (g := gb964) (o := .cells #[.slice Ao12 t960.length co12] 28 (0, 0)) (by exact rX BK964) k_ hk_), (Kd.freshB (g := gb985) (o := .cells #[.slice Ao77 t982.length co77] 28 (0, 0)) (by exact rX BK985) k_ hk_), (Kd.freshB (g := gb989) (o := .cells #[.slice Ao82 t986.length co82] 28 (0, 0)) (by exact rX BK989) k_ hk_), (Kd.freshB (g := gb1014) (o := .cells #[.slice Ao150 t1010.length co150] 28 (0, 0)) (by exact rX BK1014) k_ hk_)⟩)) (below_size (by exact rB HB))); replace HO_965000 := am (Kd.N_elder' (by exact rN HO_965000) (Kd.N_base ho0) hb); replace HO_986000 := am (Kd.N_elder' (by exact rN HO_986000) (Kd.N_base ho0) hb); replace HO_990000 := am (Kd.N_elder' (by exact rN HO_990000) (Kd.N_base ho0) hb); replace HO1012 := am (Kd.N_elder' (by exact rN HO1012) (Kd.N_base ho0) hb); replace BK964 := am (blk_below (g := gb964) (o := .cells #[.slice Ao12 t960.length co12] 28 (0, 0)) (by exact rX BK964) hb); replace BK985 := am (blk_below (g := gb985) (o := .cells #[.slice Ao77 t982.length co77] 28 (0, 0)) (by exact rX BK985) hb); replace BK989 := am (blk_below (g := gb989) (o := .cells #[.slice Ao82 t986.length co82] 28 (0, 0)) (by exact rX BK989) hb); replace BK1014 := am (blk_below (g := gb1014) (o := .cells #[.slice Ao150 t1010.length co150] 28 (0, 0)) (by exact rX BK1014) hb); replace HB := am (below_step (by exact rB HB) hb); clear hb ho0) | ((with_reducible refine gate_callee (f := 57) rfl ?_); refine goesL_ (some 153) rfl rfl Try.func57 (by kernel_rfl) rfl #[.int .i64 t1015, .int .i64 t1016] rfl (by (try simp only [mT, mC, mN]); first | done | rfl) ?_; (with_reducible refine (spec_SquareFreeWords.calls kj118 t1015 t1016 t1021 t1024 _ A142.out).mono ?_); rintro e w157 ⟨v1022, rfl, ho0, hb⟩; refine ⟨_, rfl, ?_⟩; have HO1023 := am (Kd.N_lower (Kd.N_mono (ok' := fun k_ => some k_ ≠ (.slice Ao12 t960.length co12 : Value).ownBlock ∧ some k_ ≠ (.slice Ao77 t982.length co77 : Value).ownBlock ∧ some k_ ≠ (.slice Ao82 t986.length co82 : Value).ownBlock ∧ some k_ ≠ (.slice Ao150 t1010.length co150 : Value).ownBlock ∧ some k_ ≠ (v1018 : Value).ownBlock ∧ k_ ≠ gb964 ∧ k_ ≠ gb985 ∧ k_ ≠ gb989 ∧ k_ ≠ gb1014) ho0 (fun k_ hk_ => ⟨(Kd.fresh' (Kd.N_lt (by exact rN HO_965000)) k_ hk_), (Kd.fresh' (Kd.N_lt (by exact rN HO_986000)) k_ hk_), (Kd.fresh' (Kd.N_lt (by exact rN HO_990000)) k_ hk_), (Kd.fresh' (Kd.N_lt (by exact rN HO1012)) k_ hk_), (Kd.fresh' (Kd.N_lt (by exact rN HO1019)) k_ hk_), (Kd.freshB (g := gb964) (o := .cells #[.slice Ao12 t960.length co12] 28 (0, 0)) (by exact rX BK964) k_ hk_), (Kd.freshB (g := gb985) (o := .cells #[.slice Ao77 t982.length co77] 28 (0, 0)) (by exact rX BK985) k_ hk_), (Kd.freshB (g := gb989) (o := .cells #[.slice Ao82 t986.length co82] 28 (0, 0)) (by exact rX BK989) k_ hk_), (Kd.freshB (g := gb1014) (o := .cells #[.slice Ao150 t1010.length co150] 28 (0, 0)) (by exact rX BK1014) k_ hk_)⟩)) (below_size (by exact rB HB))); replace HO_965000 := am (Kd.N_elder' (by exact rN HO_965000) (Kd.N_base ho0) hb); replace HO_986000 := am (Kd.N_elder' (by exact rN HO_986000) (Kd.N_base ho0) hb); replace HO_990000 := am (Kd.N_elder' (by exact rN HO_990000) (Kd.N_base ho0) hb); replace HO1012 := am (Kd.N_elder' (by exact rN HO1012) (Kd.N_base ho0) hb); replace HO1019 := am (Kd.N_elder' (by exact rN HO1019) (Kd.N_base ho0) hb); replace BK964 := am (blk_below (g := gb964) (o := .cells #[.slice Ao12 t960.length co12] 28 (0, 0)) (by exact rX BK964) hb); replace BK985 := am (blk_below (g := gb985) (o := .cells #[.slice Ao77 t982.length co77] 28 (0, 0)) (by exact rX BK985) hb); replace BK989 := am (blk_below (g := gb989) (o := .cells #[.slice Ao82 t986.length co82] 28 (0, 0)) (by exact rX BK989) hb); replace BK1014 := am (blk_below (g := gb1014) (o := .cells #[.slice Ao150 t1010.length co150] 28 (0, 0)) (by exact rX BK1014) hb); replace HB := am (below_step (by exact rB HB) hb); clear hb ho0))
                 replace HO_965000 := am (Kd.N_drew HO_965000.out); replace HO_986000 := am (Kd.N_drew HO_986000.out); replace HO_990000 := am (Kd.N_drew HO_990000.out); replace HO1012 := am (Kd.N_drew HO1012.out); replace HO1019 := am (Kd.N_drew HO1019.out); replace HO1023 := am (Kd.N_drew HO1023.out); replace BK964 := am (blk_drew BK964.out); replace BK985 := am (blk_drew BK985.out); replace BK989 := am (blk_drew BK989.out); replace BK1014 := am (blk_drew BK1014.out); replace HB := am (below_drew1 HB.out)
                 refine start_ (n := 18) (S := fun w' => w'.cell? ⟨gb1014, 0, none⟩ = some (.slice Ao150 t1010.length co150)) (ds := []) #[false, false, false, false, false, false, false, false, false, false, false, false, false, false, false, false, false, false] (by kernel_rfl) rfl rfl ((blk_cell BK1014.out 0).trans rfl) (fun hHeld => ?_); refine with_tabW laws_FnFree.tab24 laws_FnFree.bits24 (fun HT_ HW_ => ?_); generalize w157.drew = w158 at HO_965000 HO_986000 HO_990000 HO1012 HO1019 HO1023 BK964 BK985 BK989 BK1014 HB hHeld ⊢; refine pure_ (i := 1) (N := some 157) (v := ?_) (a' := ?_) (bA 18 2) rfl rfl (any_of HT_.out (by kernel_rfl)) (fun _ _ _ h => h) (Or.inl ⟨by rfl, ?_⟩) ?_ ?_; rotate_left; (intro w'; go_simp; (with_reducible rfl)); rotate_left; (simp only [Act.put, qa, qz, qs, i64_w, i32_w]; rfl); refine pure_ (i := 4) (N := some 160) (v := ?_) (a' := ?_) (bA 18 18) rfl rfl (any_of HT_.out (by kernel_rfl)) (fun _ _ _ h => h) (Or.inl ⟨by rfl, ?_⟩) ?_ ?_; rotate_left
                 ·intro w'; go_simp; (with_reducible rfl)
                 rotate_left; (simp only [Act.put, qa, qz, qs, i64_w, i32_w]; rfl); refine take_ (i := 0) (N := some 156) (v := ?_) (a' := ?_) (bA 18 19) rfl rfl (take_ofW HT_.out HW_.out (by kernel_rfl)) (fun _ _ _ h => h) (Or.inl ⟨by rfl, ?_⟩) hHeld ?_ ?_; rotate_left
                 ·intro w' s0; go_simp; (with_reducible rfl)
                 rotate_left; (simp only [Act.put, qa, qz, qs, i64_w, i32_w]; rfl); refine take_ (i := 3) (N := some 159) (v := ?_) (a' := ?_) (bA 18 27) rfl rfl (take_ofW HT_.out HW_.out (by kernel_rfl)) (fun _ _ _ h => h) (Or.inl ⟨by rfl, ?_⟩) hHeld ?_ ?_; rotate_left
                 ·intro w' s0; go_simp; (with_reducible rfl)
                 rotate_left; (simp only [Act.put, qa, qz, qs, i64_w, i32_w]; rfl); refine one_ (i := 2) (N := some 158) (bA 18 31) rfl rfl (one_of HT_.out (by kernel_rfl)) (by decide) (fun K hK => ?_); refine goes_ Try.func34 (by kernel_rfl) rfl #[.agg #[.slice Ao150 t1010.length co150], .int .i64 t1013] (by rfl) rfl rfl (by (try simp only [mT, mC, mN]); first | done | rfl) ?_; (with_reducible refine (impl_KeepsOverlapFree.calls kj118 _ _ t1010 t1013 t1025 _ ?side1 ?side2 A143.out).mono ?_); (case side1 => exact xC ((Kd.N_reads' HO1012.out).2.2)); (case side2 => exact (Kd.N_reads' HO1012.out).2.1); rintro e w159 ⟨rfl, hb⟩; refine ⟨_, rfl, ?_⟩; replace HO_965000 := am (Kd.N_below (by exact rN HO_965000) hb); replace HO_986000 := am (Kd.N_below (by exact rN HO_986000) hb); replace HO_990000 := am (Kd.N_below (by exact rN HO_990000) hb); replace HO1012 := am (Kd.N_below (by exact rN HO1012) hb); replace HO1019 := am (Kd.N_below (by exact rN HO1019) hb); replace HO1023 := am (Kd.N_below (by exact rN HO1023) hb); replace BK964 := am (blk_below (g := gb964) (o := .cells #[.slice Ao12 t960.length co12] 28 (0, 0)) (by exact rX BK964) hb); replace BK985 := am (blk_below (g := gb985) (o := .cells #[.slice Ao77 t982.length co77] 28 (0, 0)) (by exact rX BK985) hb); replace BK989 := am (blk_below (g := gb989) (o := .cells #[.slice Ao82 t986.length co82] 28 (0, 0)) (by exact rX BK989) hb); replace BK1014 := am (blk_below (g := gb1014) (o := .cells #[.slice Ao150 t1010.length co150] 28 (0, 0)) (by exact rX BK1014) hb); replace HB := am (below_step (by exact rB HB) hb)
                 (try clear hb); (try clear hb2); (try clear hk); (try clear hi); refine hK.out _ _ ((blk_cell BK1014.out 0).trans rfl) (fun hHeld => ?_); clear hK K; refine norm_ (a' := ?_) ?_ ?_; rotate_left; (show Act.put _ (some 158) _ = _; simp only [Act.put, qa, qz, qs, i64_w, i32_w]; rfl); refine one_ (i := 5) (N := some 161) (bA 18 63) rfl rfl (one_of HT_.out (by kernel_rfl)) (by decide) (fun K hK => ?_); refine goes_ Try.func33 (by kernel_rfl) rfl #[.agg #[.slice Ao150 t1010.length co150], .int .i64 t1013] (by rfl) rfl rfl (by (try simp only [mT, mC, mN]); first | done | rfl) ?_; (with_reducible refine (spec_KeepsOverlapFree.calls kj118 _ _ t1010 t1013 t1026 _ ?side1 ?side2 A144.out).mono ?_); (case side1 => exact xC ((Kd.N_reads' HO1012.out).2.2)); (case side2 => exact (Kd.N_reads' HO1012.out).2.1); rintro e w160 ⟨rfl, hb⟩; refine ⟨_, rfl, ?_⟩; replace HO_965000 := am (Kd.N_below (by exact rN HO_965000) hb); replace HO_986000 := am (Kd.N_below (by exact rN HO_986000) hb); replace HO_990000 := am (Kd.N_below (by exact rN HO_990000) hb); replace HO1012 := am (Kd.N_below (by exact rN HO1012) hb); replace HO1019 := am (Kd.N_below (by exact rN HO1019) hb); replace HO1023 := am (Kd.N_below (by exact rN HO1023) hb); replace BK964 := am (blk_below (g := gb964) (o := .cells #[.slice Ao12 t960.length co12] 28 (0, 0)) (by exact rX BK964) hb); replace BK985 := am (blk_below (g := gb985) (o := .cells #[.slice Ao77 t982.length co77] 28 (0, 0)) (by exact rX BK985) hb); replace BK989 := am (blk_below (g := gb989) (o := .cells #[.slice Ao82 t986.length co82] 28 (0, 0)) (by exact rX BK989) hb); replace BK1014 := am (blk_below (g := gb1014) (o := .cells #[.slice Ao150 t1010.length co150] 28 (0, 0)) (by exact rX BK1014) hb); replace HB := am (below_step (by exact rB HB) hb)
                 (try clear hb); (try clear hb2); (try clear hk); (try clear hi); obtain ⟨Ao161, co161, eo161⟩ := Kd.N_slice HO1019.out
                 (first | subst eo161 | (injection eo161 with f1_ f2_ f3_; have f4_ := f1_.symm; have f5_ := f3_.symm; clear f1_ f2_ f3_; subst f4_; subst f5_))
                 obtain ⟨Ao162, co162, eo162⟩ := Kd.N_slice HO1023.out
                 (first | subst eo162 | (injection eo162 with f1_ f2_ f3_; have f4_ := f1_.symm; have f5_ := f3_.symm; clear f1_ f2_ f3_; subst f4_; subst f5_))
                 refine hK.out _ _ ((blk_cell BK1014.out 0).trans rfl) (fun hHeld => ?_); clear hK K; refine norm_ (a' := ?_) ?_ ?_; rotate_left; (show Act.put _ (some 161) _ = _; simp only [Act.put, qa, qz, qs, i64_w, i32_w]; rfl); refine pure_ (i := 6) (N := some 162) (v := ?_) (a' := ?_) (bA 18 127) rfl rfl (any_of HT_.out (by kernel_rfl)) (fun _ _ _ h => h) (Or.inl ⟨by rfl, ?_⟩) ?_ ?_; rotate_left
                 ·intro w'; go_simp; (with_reducible rfl)
                 rotate_left; (simp only [Act.put, qa, qz, qs, i64_w, i32_w]; rfl); refine pure_ (i := 7) (N := some 163) (v := ?_) (a' := ?_) (bA 18 255) rfl rfl (any_of HT_.out (by kernel_rfl)) (fun _ _ _ h => h) (Or.inl ⟨by rfl, ?_⟩) ?_ ?_; rotate_left
                 ·intro w'; go_simp; (with_reducible rfl)
                 rotate_left; (simp only [Act.put, qa, qz, qs, i64_w, i32_w]; rfl); refine pure_ (i := 8) (N := some 164) (v := ?_) (a' := ?_) (bA 18 511) rfl rfl (any_of HT_.out (by kernel_rfl)) (fun _ _ _ h => h) (Or.inl ⟨by rfl, ?_⟩) ?_ ?_; rotate_left
                 ·intro w'; go_simp; (with_reducible rfl)
                 rotate_left; (simp only [Act.put, qa, qz, qs, i64_w, i32_w]; rfl); refine pure_ (i := 9) (N := some 165) (v := ?_) (a' := ?_) (bA 18 1023) rfl rfl (any_of HT_.out (by kernel_rfl)) (fun _ _ _ h => h) (Or.inl ⟨by rfl, ?_⟩) ?_ ?_; rotate_left
                 ·intro w'; go_simp; (with_reducible rfl)
                 rotate_left; (simp only [Act.put, qa, qz, qs, i64_w, i32_w]; rfl); refine pure_ (i := 10) (N := some 166) (v := ?_) (a' := ?_) (bA 18 2047) rfl rfl (any_of HT_.out (by kernel_rfl)) (fun _ _ _ h => h) (Or.inl ⟨by rfl, ?_⟩) ?_ ?_; rotate_left
                 ·intro w'; go_simp; (with_reducible rfl)
                 rotate_left; (simp only [Act.put, qa, qz, qs, i64_w, i32_w]; rfl); refine pure_ (i := 11) (N := some 167) (v := ?_) (a' := ?_) (bA 18 4095) rfl rfl (any_of HT_.out (by kernel_rfl)) (fun _ _ _ h => h) (Or.inl ⟨by rfl, ?_⟩) ?_ ?_; rotate_left
                 ·intro w'; go_simp; (with_reducible rfl)
                 rotate_left; (simp only [Act.put, qa, qz, qs, i64_w, i32_w]; rfl); refine pure_ (i := 12) (N := some 168) (v := ?_) (a' := ?_) (bA 18 8191) rfl rfl (any_of HT_.out (by kernel_rfl)) (fun _ _ _ h => h) (Or.inl ⟨by rfl, ?_⟩) ?_ ?_; rotate_left
                 ·intro w'; go_simp; (with_reducible rfl)
                 rotate_left; (simp only [Act.put, qa, qz, qs, i64_w, i32_w]; rfl); refine pure_ (i := 13) (N := some 169) (v := ?_) (a' := ?_) (bA 18 16383) rfl rfl (any_of HT_.out (by kernel_rfl)) (fun _ _ _ h => h) (Or.inl ⟨by rfl, ?_⟩) ?_ ?_; rotate_left
                 ·intro w'; go_simp; (with_reducible rfl)
                 rotate_left; (simp only [Act.put, qa, qz, qs, i64_w, i32_w]; rfl); refine pure_ (i := 14) (N := some 170) (v := ?_) (a' := ?_) (bA 18 32767) rfl rfl (any_of HT_.out (by kernel_rfl)) (fun _ _ _ h => h) (Or.inl ⟨by rfl, ?_⟩) ?_ ?_; rotate_left
                 ·intro w'; go_simp; (with_reducible rfl)
                 rotate_left; (simp only [Act.put, qa, qz, qs, i64_w, i32_w]; rfl); refine one_ (i := 15) (N := some 171) (bA 18 65535) rfl rfl (one_of HT_.out (by kernel_rfl)) (by decide) (fun K hK => ?_); refine goes_ Try.func58 (by kernel_rfl) rfl #[.slice Ao161 t1017.length co161, .slice Ao162 t1021.length co162] (by rfl) rfl rfl (by (try simp only [mT, mC, mN]); first | done | rfl) ?_; (with_reducible refine (laws_sameWords.calls kj118 _ _ t1017 _ _ t1021 t1027 _ ?side1 ?side2 ?side3 ?side4 A147.out).mono ?_); (case side1 => exact xC ((Kd.N_reads' HO1019.out).2.2)); (case side2 => exact (Kd.N_reads' HO1019.out).2.1); (case side3 => exact xC ((Kd.N_reads' HO1023.out).2.2)); (case side4 => exact (Kd.N_reads' HO1023.out).2.1); rintro e w' ⟨rfl, ⟨nd, rfl⟩⟩; refine ⟨_, rfl, ?_⟩; refine hK.out _ _ ((blk_cell BK1014.out 0).trans rfl) (fun hHeld => ?_); clear hK K; refine norm_ (a' := ?_) ?_ ?_; rotate_left
                 ·show Act.put _ (some 171) _ = _; simp only [Act.put, qa, qz, qs, i64_w, i32_w]; rfl
                 refine pure_ (i := 16) (N := some 172) (v := ?_) (a' := ?_) (bA 18 131071) rfl rfl (any_of HT_.out (by kernel_rfl)) (fun _ _ _ h => h) (Or.inl ⟨by rfl, ?_⟩) ?_ ?_; rotate_left; (intro w'; go_simp; (with_reducible rfl)); rotate_left; (simp only [Act.put, qa, qz, qs, i64_w, i32_w]; rfl); refine pure_ (i := 17) (N := some 2) (v := ?_) (a' := ?_) (bA 18 262143) rfl rfl (any_of HT_.out (by kernel_rfl)) (fun _ _ _ h => h) (Or.inl ⟨by rfl, ?_⟩) ?_ ?_; rotate_left
                 ·intro w'; go_simp; (with_reducible rfl)
                 rotate_left; (simp only [Act.put, qa, qz, qs, i64_w, i32_w]; rfl); refine done_ (done_of HT_.out (by kernel_rfl)) ?_
                 try go_wp2
                 go_ret; exact ⟨by first | rfl | (simp [errW_none, errW_some] <;> rfl) | (simp [*, errW_none, errW_some] <;> rfl), by exact rB HB⟩
               ·rw [if_neg c146] at H; have c146b0 : (t1020 == t1024) = false := by simpa using c146
                (try (have c146b1 : decide (t1020 = t1024) = false := by simpa using c146)); (try (have c146b2 : (t1020 == t1024) = false := by simpa using c146)); (try (have c146b3 : ¬ (t1020 = t1024) := by simpa using c146)); clear c146
                as_aux_lemma =>
                 obtain rfl := Option.some.inj H
                 try go_wp2_with (first | ((with_reducible refine gate_callee (f := 54) rfl ?_); refine goesL_ (some 136) rfl rfl Try.func54 (by kernel_rfl) rfl #[.slice A0 l0.length c0] rfl (by (try simp only [mT, mC, mN]); first | done | rfl) ?_; (with_reducible refine (spec_DrawKeepsOverlapFree.calls kj118 _ _ l0 t1010 t1013 _ ?side1 ?side2 A139.out).mono ?_); (case side1 => exact xC ((Kd.C_below HR0.out HB.out))); (case side2 => exact HC0.out); rintro e w163 ⟨v1011, rfl, ho0, hb⟩; refine ⟨_, rfl, ?_⟩; have HO1012 := am (Kd.N_lower (Kd.N_mono (ok' := fun k_ => some k_ ≠ (.slice Ao12 t960.length co12 : Value).ownBlock ∧ some k_ ≠ (.slice Ao77 t982.length co77 : Value).ownBlock ∧ some k_ ≠ (.slice Ao82 t986.length co82 : Value).ownBlock ∧ k_ ≠ gb964 ∧ k_ ≠ gb985 ∧ k_ ≠ gb989) ho0 (fun k_ hk_ => ⟨(Kd.fresh' (Kd.N_lt (by exact rN HO_965000)) k_ hk_), (Kd.fresh' (Kd.N_lt (by exact rN HO_986000)) k_ hk_), (Kd.fresh' (Kd.N_lt (by exact rN HO_990000)) k_ hk_), (Kd.freshB (g := gb964) (o := .cells #[.slice Ao12 t960.length co12] 28 (0, 0)) (by exact rX BK964) k_ hk_), (Kd.freshB (g := gb985) (o := .cells #[.slice Ao77 t982.length co77] 28 (0, 0)) (by exact rX BK985) k_ hk_), (Kd.freshB (g := gb989) (o := .cells #[.slice Ao82 t986.length co82] 28 (0, 0)) (by exact rX BK989) k_ hk_)⟩)) (below_size (by exact rB HB))); replace HO_965000 := am (Kd.N_elder' (by exact rN HO_965000) (Kd.N_base ho0) hb); replace HO_986000 := am (Kd.N_elder' (by exact rN HO_986000) (Kd.N_base ho0) hb); replace HO_990000 := am (Kd.N_elder' (by exact rN HO_990000) (Kd.N_base ho0) hb); replace BK964 := am (blk_below (g := gb964) (o := .cells #[.slice Ao12 t960.length co12] 28 (0, 0)) (by exact rX BK964) hb); replace BK985 := am (blk_below (g := gb985) (o := .cells #[.slice Ao77 t982.length co77] 28 (0, 0)) (by exact rX BK985) hb); replace BK989 := am (blk_below (g := gb989) (o := .cells #[.slice Ao82 t986.length co82] 28 (0, 0)) (by exact rX BK989) hb); replace HB := am (below_step (by exact rB HB) hb); clear hb ho0) | ((with_reducible refine gate_dst (N := 17) rfl ?_); refine box_event ?hg (N := 17) ?hd (cs := #[.slice none 0 0]) (t := 28) ?hr ?_; (case hd => rfl); (case hg => rfl); (case hr => first | (go_simp; done) | (go_simp; rfl)); intro gb1014 hg w164 hbox hb; replace HO_965000 := am (Kd.N_below (Kd.N_elderB (by exact rN HO_965000) gb1014 (Nat.le_of_eq hg.symm)) hb); replace HO_986000 := am (Kd.N_below (Kd.N_elderB (by exact rN HO_986000) gb1014 (Nat.le_of_eq hg.symm)) hb); replace HO_990000 := am (Kd.N_below (Kd.N_elderB (by exact rN HO_990000) gb1014 (Nat.le_of_eq hg.symm)) hb); replace HO1012 := am (Kd.N_below (Kd.N_elderB (by exact rN HO1012) gb1014 (Nat.le_of_eq hg.symm)) hb); have BK1014 := am (hbox); have GW1014 := am ((by rw [hg]; exact (below_size (by exact rB HB)) : w.heap.size ≤ gb1014)); have GE1014 := am ((by rw [hg]; exact (below_size (by exact rB HB)) : w.heap.size ≤ gb1014)); replace HB := am (below_step (by exact rB HB) hb); have NB964_1014 := am ((by rw [hg]; exact Nat.ne_of_lt (blk_lt (g := gb964) (o := .cells #[.slice Ao12 t960.length co12] 28 (0, 0)) (by exact rX BK964)) : gb964 ≠ gb1014)); have NB1014_964 := am ((by rw [hg]; exact Nat.ne_of_gt (blk_lt (g := gb964) (o := .cells #[.slice Ao12 t960.length co12] 28 (0, 0)) (by exact rX BK964)) : gb1014 ≠ gb964)); replace BK964 := am (blk_below (g := gb964) (o := .cells #[.slice Ao12 t960.length co12] 28 (0, 0)) (by exact rX BK964) hb); have NB985_1014 := am ((by rw [hg]; exact Nat.ne_of_lt (blk_lt (g := gb985) (o := .cells #[.slice Ao77 t982.length co77] 28 (0, 0)) (by exact rX BK985)) : gb985 ≠ gb1014)); have NB1014_985 := am ((by rw [hg]; exact Nat.ne_of_gt (blk_lt (g := gb985) (o := .cells #[.slice Ao77 t982.length co77] 28 (0, 0)) (by exact rX BK985)) : gb1014 ≠ gb985)); replace BK985 := am (blk_below (g := gb985) (o := .cells #[.slice Ao77 t982.length co77] 28 (0, 0)) (by exact rX BK985) hb); have NB989_1014 := am ((by rw [hg]; exact Nat.ne_of_lt (blk_lt (g := gb989) (o := .cells #[.slice Ao82 t986.length co82] 28 (0, 0)) (by exact rX BK989)) : gb989 ≠ gb1014)); have NB1014_989 := am ((by rw [hg]; exact Nat.ne_of_gt (blk_lt (g := gb989) (o := .cells #[.slice Ao82 t986.length co82] 28 (0, 0)) (by exact rX BK989)) : gb1014 ≠ gb989)); replace BK989 := am (blk_below (g := gb989) (o := .cells #[.slice Ao82 t986.length co82] 28 (0, 0)) (by exact rX BK989) hb); have qW1014 := Ge.mk GW1014.out; have qE1014 := Ge.mk GE1014.out; clear hb hbox hg; obtain ⟨Ao165, co165, eo165⟩ := Kd.N_slice HO1012.out; subst eo165; have hnb166 := NB1014_964.out; have hnc166 := NB964_1014.out; have hnb167 := NB1014_985.out; have hnc167 := NB985_1014.out; have hnb168 := NB1014_989.out; have hnc168 := NB989_1014.out; have hcz169_0 : w164.cell? ⟨gb1014, 0, none⟩ = some (.slice none 0 0) := (blk_cell BK1014.out 0).trans rfl; have hfz169_0 := blk_frozen BK1014.out 0) | ((with_reducible refine gate_callee (f := 55) rfl ?_); refine goesL_ (some 141) rfl rfl Try.func55 (by kernel_rfl) rfl #[.slice A0 l0.length c0] rfl (by (try simp only [mT, mC, mN]); first | done | rfl) ?_; (with_reducible refine (spec_DrawSquareFreeWords.calls kj118 _ _ l0 t1015 t1016 _ ?side1 ?side2 A140.out).mono ?_); (case side1 => exact Kd.C_below HR0.out (by exact rB HB)); (case side2 => exact HC0.out); rintro e w170 ⟨rfl, hb⟩; refine ⟨_, rfl, ?_⟩; replace HO_965000 := am (Kd.N_below (by exact xN ((Kd.N_mono (Kd.N_far (p := ⟨gb1014, 0, none⟩) (Kd.N_mono HO_965000.out (fun k_ hk => (⟨hk, hk.2⟩ : _ ∧ k_ ≠ gb1014))) (fun _ hk => hk.2) (.slice Ao165 t1010.length co165)) (fun _ h_ => h_.1)))) hb); replace HO_986000 := am (Kd.N_below (by exact xN ((Kd.N_mono (Kd.N_far (p := ⟨gb1014, 0, none⟩) (Kd.N_mono HO_986000.out (fun k_ hk => (⟨hk, hk.2⟩ : _ ∧ k_ ≠ gb1014))) (fun _ hk => hk.2) (.slice Ao165 t1010.length co165)) (fun _ h_ => h_.1)))) hb); replace HO_990000 := am (Kd.N_below (by exact xN ((Kd.N_mono (Kd.N_far (p := ⟨gb1014, 0, none⟩) (Kd.N_mono HO_990000.out (fun k_ hk => (⟨hk, hk.2⟩ : _ ∧ k_ ≠ gb1014))) (fun _ hk => hk.2) (.slice Ao165 t1010.length co165)) (fun _ h_ => h_.1)))) hb); replace HO1012 := am (Kd.N_below (by exact xN ((Kd.N_mono (Kd.N_far (p := ⟨gb1014, 0, none⟩) (Kd.N_mono HO1012.out (fun k_ hk => (⟨hk, hk.2⟩ : _ ∧ k_ ≠ gb1014))) (fun _ hk => hk.2) (.slice Ao165 t1010.length co165)) (fun _ h_ => h_.1)))) hb); replace BK964 := am (blk_below (g := gb964) (o := .cells #[.slice Ao12 t960.length co12] 28 (0, 0)) (by (with_reducible repeat (first | refine blk_drewN ?_ _ | refine blk_drew ?_ | refine blk_alloc ?_ _)); refine blk_far ?_ NB964_1014.out _; exact rX BK964) hb); replace BK985 := am (blk_below (g := gb985) (o := .cells #[.slice Ao77 t982.length co77] 28 (0, 0)) (by (with_reducible repeat (first | refine blk_drewN ?_ _ | refine blk_drew ?_ | refine blk_alloc ?_ _)); refine blk_far ?_ NB985_1014.out _; exact rX BK985) hb); replace BK989 := am (blk_below (g := gb989) (o := .cells #[.slice Ao82 t986.length co82] 28 (0, 0)) (by (with_reducible repeat (first | refine blk_drewN ?_ _ | refine blk_drew ?_ | refine blk_alloc ?_ _)); refine blk_far ?_ NB989_1014.out _; exact rX BK989) hb); replace BK1014 := am (blk_below (g := gb1014) (o := .cells #[.slice Ao165 t1010.length co165] 28 (0, 0)) (by (with_reducible repeat (first | refine blk_drewN ?_ _ | refine blk_drew ?_ | refine blk_alloc ?_ _)); refine blk_put (cs := #[.slice none 0 0]) ?_ 0 _ rfl; exact rX BK1014) hb); replace HB := am (below_step (by exact rB HB) hb); clear hb) | ((with_reducible refine gate_callee (f := 56) rfl ?_); refine goesL_ (some 147) rfl rfl Try.func56 (by kernel_rfl) rfl #[.int .i64 t1015, .int .i64 t1016] rfl (by (try simp only [mT, mC, mN]); first | done | rfl) ?_; (with_reducible refine (impl_SquareFreeWords.calls kj118 t1015 t1016 t1017 t1020 _ A141.out).mono ?_); rintro e w171 ⟨v1018, rfl, ho0, hb⟩; refine ⟨_, rfl, ?_⟩; have HO1019 := am (Kd.N_lower (Kd.N_mono (ok' := fun k_ => some k_ ≠ (.slice Ao12 t960.length co12 : Value).ownBlock ∧ some k_ ≠ (.slice Ao77 t982.length co77 : Value).ownBlock ∧ some k_ ≠ (.slice Ao82 t986.length co82 : Value).ownBlock ∧ some k_ ≠ (.slice Ao165 t1010.length co165 : Value).ownBlock ∧ k_ ≠ gb964 ∧ k_ ≠ gb985 ∧ k_ ≠ gb989 ∧ k_ ≠ gb1014) ho0 (fun k_ hk_ => ⟨(Kd.fresh' (Kd.N_lt (by exact rN HO_965000)) k_ hk_), (Kd.fresh' (Kd.N_lt (by exact rN HO_986000)) k_ hk_), (Kd.fresh' (Kd.N_lt (by exact rN HO_990000)) k_ hk_), (Kd.fresh' (Kd.N_lt (by exact rN HO1012)) k_ hk_), (Kd.freshB (g := gb964) (o := .cells #[.slice Ao12 t960.length co12] 28 (0, 0)) (by exact rX BK964) k_ hk_), (Kd.freshB (g := gb985) (o := .cells #[.slice Ao77 t982.length co77] 28 (0, 0)) (by exact rX BK985) k_ hk_), (Kd.freshB (g := gb989) (o := .cells #[.slice Ao82 t986.length co82] 28 (0, 0)) (by exact rX BK989) k_ hk_), (Kd.freshB (g := gb1014) (o := .cells #[.slice Ao165 t1010.length co165] 28 (0, 0)) (by exact rX BK1014) k_ hk_)⟩)) (below_size (by exact rB HB))); replace HO_965000 := am (Kd.N_elder' (by exact rN HO_965000) (Kd.N_base ho0) hb); replace HO_986000 := am (Kd.N_elder' (by exact rN HO_986000) (Kd.N_base ho0) hb); replace HO_990000 := am (Kd.N_elder' (by exact rN HO_990000) (Kd.N_base ho0) hb); replace HO1012 := am (Kd.N_elder' (by exact rN HO1012) (Kd.N_base ho0) hb); replace BK964 := am (blk_below (g := gb964) (o := .cells #[.slice Ao12 t960.length co12] 28 (0, 0)) (by exact rX BK964) hb); replace BK985 := am (blk_below (g := gb985) (o := .cells #[.slice Ao77 t982.length co77] 28 (0, 0)) (by exact rX BK985) hb); replace BK989 := am (blk_below (g := gb989) (o := .cells #[.slice Ao82 t986.length co82] 28 (0, 0)) (by exact rX BK989) hb); replace BK1014 := am (blk_below (g := gb1014) (o := .cells #[.slice Ao165 t1010.length co165] 28 (0, 0)) (by exact rX BK1014) hb); replace HB := am (below_step (by exact rB HB) hb); clear hb ho0) | ((with_reducible refine gate_callee (f := 57) rfl ?_); refine goesL_ (some 153) rfl rfl Try.func57 (by kernel_rfl) rfl #[.int .i64 t1015, .int .i64 t1016] rfl (by (try simp only [mT, mC, mN]); first | done | rfl) ?_; (with_reducible refine (spec_SquareFreeWords.calls kj118 t1015 t1016 t1021 t1024 _ A142.out).mono ?_); rintro e w172 ⟨v1022, rfl, ho0, hb⟩; refine ⟨_, rfl, ?_⟩; have HO1023 := am (Kd.N_lower (Kd.N_mono (ok' := fun k_ => some k_ ≠ (.slice Ao12 t960.length co12 : Value).ownBlock ∧ some k_ ≠ (.slice Ao77 t982.length co77 : Value).ownBlock ∧ some k_ ≠ (.slice Ao82 t986.length co82 : Value).ownBlock ∧ some k_ ≠ (.slice Ao165 t1010.length co165 : Value).ownBlock ∧ some k_ ≠ (v1018 : Value).ownBlock ∧ k_ ≠ gb964 ∧ k_ ≠ gb985 ∧ k_ ≠ gb989 ∧ k_ ≠ gb1014) ho0 (fun k_ hk_ => ⟨(Kd.fresh' (Kd.N_lt (by exact rN HO_965000)) k_ hk_), (Kd.fresh' (Kd.N_lt (by exact rN HO_986000)) k_ hk_), (Kd.fresh' (Kd.N_lt (by exact rN HO_990000)) k_ hk_), (Kd.fresh' (Kd.N_lt (by exact rN HO1012)) k_ hk_), (Kd.fresh' (Kd.N_lt (by exact rN HO1019)) k_ hk_), (Kd.freshB (g := gb964) (o := .cells #[.slice Ao12 t960.length co12] 28 (0, 0)) (by exact rX BK964) k_ hk_), (Kd.freshB (g := gb985) (o := .cells #[.slice Ao77 t982.length co77] 28 (0, 0)) (by exact rX BK985) k_ hk_), (Kd.freshB (g := gb989) (o := .cells #[.slice Ao82 t986.length co82] 28 (0, 0)) (by exact rX BK989) k_ hk_), (Kd.freshB (g := gb1014) (o := .cells #[.slice Ao165 t1010.length co165] 28 (0, 0)) (by exact rX BK1014) k_ hk_)⟩)) (below_size (by exact rB HB))); replace HO_965000 := am (Kd.N_elder' (by exact rN HO_965000) (Kd.N_base ho0) hb); replace HO_986000 := am (Kd.N_elder' (by exact rN HO_986000) (Kd.N_base ho0) hb); replace HO_990000 := am (Kd.N_elder' (by exact rN HO_990000) (Kd.N_base ho0) hb); replace HO1012 := am (Kd.N_elder' (by exact rN HO1012) (Kd.N_base ho0) hb); replace HO1019 := am (Kd.N_elder' (by exact rN HO1019) (Kd.N_base ho0) hb); replace BK964 := am (blk_below (g := gb964) (o := .cells #[.slice Ao12 t960.length co12] 28 (0, 0)) (by exact rX BK964) hb); replace BK985 := am (blk_below (g := gb985) (o := .cells #[.slice Ao77 t982.length co77] 28 (0, 0)) (by exact rX BK985) hb); replace BK989 := am (blk_below (g := gb989) (o := .cells #[.slice Ao82 t986.length co82] 28 (0, 0)) (by exact rX BK989) hb); replace BK1014 := am (blk_below (g := gb1014) (o := .cells #[.slice Ao165 t1010.length co165] 28 (0, 0)) (by exact rX BK1014) hb); replace HB := am (below_step (by exact rB HB) hb); clear hb ho0))
                 replace HO_965000 := am (Kd.N_drew HO_965000.out); replace HO_986000 := am (Kd.N_drew HO_986000.out); replace HO_990000 := am (Kd.N_drew HO_990000.out); replace HO1012 := am (Kd.N_drew HO1012.out); replace HO1019 := am (Kd.N_drew HO1019.out); replace HO1023 := am (Kd.N_drew HO1023.out); replace BK964 := am (blk_drew BK964.out); replace BK985 := am (blk_drew BK985.out); replace BK989 := am (blk_drew BK989.out); replace BK1014 := am (blk_drew BK1014.out); replace HB := am (below_drew1 HB.out)
                 refine start_ (n := 18) (S := fun w' => w'.cell? ⟨gb1014, 0, none⟩ = some (.slice Ao165 t1010.length co165)) (ds := []) #[false, false, false, false, false, false, false, false, false, false, false, false, false, false, false, false, false, false] (by kernel_rfl) rfl rfl ((blk_cell BK1014.out 0).trans rfl) (fun hHeld => ?_); refine with_tabW laws_FnFree.tab24 laws_FnFree.bits24 (fun HT_ HW_ => ?_); generalize w172.drew = w173 at HO_965000 HO_986000 HO_990000 HO1012 HO1019 HO1023 BK964 BK985 BK989 BK1014 HB hHeld ⊢; refine pure_ (i := 1) (N := some 157) (v := ?_) (a' := ?_) (bA 18 2) rfl rfl (any_of HT_.out (by kernel_rfl)) (fun _ _ _ h => h) (Or.inl ⟨by rfl, ?_⟩) ?_ ?_; rotate_left; (intro w'; go_simp; (with_reducible rfl)); rotate_left; (simp only [Act.put, qa, qz, qs, i64_w, i32_w]; rfl); refine pure_ (i := 4) (N := some 160) (v := ?_) (a' := ?_) (bA 18 18) rfl rfl (any_of HT_.out (by kernel_rfl)) (fun _ _ _ h => h) (Or.inl ⟨by rfl, ?_⟩) ?_ ?_; rotate_left
                 ·intro w'; go_simp; (with_reducible rfl)
                 rotate_left; (simp only [Act.put, qa, qz, qs, i64_w, i32_w]; rfl); refine take_ (i := 0) (N := some 156) (v := ?_) (a' := ?_) (bA 18 19) rfl rfl (take_ofW HT_.out HW_.out (by kernel_rfl)) (fun _ _ _ h => h) (Or.inl ⟨by rfl, ?_⟩) hHeld ?_ ?_; rotate_left
                 ·intro w' s0; go_simp; (with_reducible rfl)
                 rotate_left; (simp only [Act.put, qa, qz, qs, i64_w, i32_w]; rfl); refine take_ (i := 3) (N := some 159) (v := ?_) (a' := ?_) (bA 18 27) rfl rfl (take_ofW HT_.out HW_.out (by kernel_rfl)) (fun _ _ _ h => h) (Or.inl ⟨by rfl, ?_⟩) hHeld ?_ ?_; rotate_left
                 ·intro w' s0; go_simp; (with_reducible rfl)
                 rotate_left; (simp only [Act.put, qa, qz, qs, i64_w, i32_w]; rfl); refine one_ (i := 2) (N := some 158) (bA 18 31) rfl rfl (one_of HT_.out (by kernel_rfl)) (by decide) (fun K hK => ?_); refine goes_ Try.func34 (by kernel_rfl) rfl #[.agg #[.slice Ao165 t1010.length co165], .int .i64 t1013] (by rfl) rfl rfl (by (try simp only [mT, mC, mN]); first | done | rfl) ?_; (with_reducible refine (impl_KeepsOverlapFree.calls kj118 _ _ t1010 t1013 t1025 _ ?side1 ?side2 A143.out).mono ?_); (case side1 => exact xC ((Kd.N_reads' HO1012.out).2.2)); (case side2 => exact (Kd.N_reads' HO1012.out).2.1); rintro e w174 ⟨rfl, hb⟩; refine ⟨_, rfl, ?_⟩; replace HO_965000 := am (Kd.N_below (by exact rN HO_965000) hb); replace HO_986000 := am (Kd.N_below (by exact rN HO_986000) hb); replace HO_990000 := am (Kd.N_below (by exact rN HO_990000) hb); replace HO1012 := am (Kd.N_below (by exact rN HO1012) hb); replace HO1019 := am (Kd.N_below (by exact rN HO1019) hb); replace HO1023 := am (Kd.N_below (by exact rN HO1023) hb); replace BK964 := am (blk_below (g := gb964) (o := .cells #[.slice Ao12 t960.length co12] 28 (0, 0)) (by exact rX BK964) hb); replace BK985 := am (blk_below (g := gb985) (o := .cells #[.slice Ao77 t982.length co77] 28 (0, 0)) (by exact rX BK985) hb); replace BK989 := am (blk_below (g := gb989) (o := .cells #[.slice Ao82 t986.length co82] 28 (0, 0)) (by exact rX BK989) hb); replace BK1014 := am (blk_below (g := gb1014) (o := .cells #[.slice Ao165 t1010.length co165] 28 (0, 0)) (by exact rX BK1014) hb); replace HB := am (below_step (by exact rB HB) hb)
                 (try clear hb); (try clear hb2); (try clear hk); (try clear hi); refine hK.out _ _ ((blk_cell BK1014.out 0).trans rfl) (fun hHeld => ?_); clear hK K; refine norm_ (a' := ?_) ?_ ?_; rotate_left; (show Act.put _ (some 158) _ = _; simp only [Act.put, qa, qz, qs, i64_w, i32_w]; rfl); refine one_ (i := 5) (N := some 161) (bA 18 63) rfl rfl (one_of HT_.out (by kernel_rfl)) (by decide) (fun K hK => ?_); refine goes_ Try.func33 (by kernel_rfl) rfl #[.agg #[.slice Ao165 t1010.length co165], .int .i64 t1013] (by rfl) rfl rfl (by (try simp only [mT, mC, mN]); first | done | rfl) ?_; (with_reducible refine (spec_KeepsOverlapFree.calls kj118 _ _ t1010 t1013 t1026 _ ?side1 ?side2 A144.out).mono ?_); (case side1 => exact xC ((Kd.N_reads' HO1012.out).2.2)); (case side2 => exact (Kd.N_reads' HO1012.out).2.1); rintro e w175 ⟨rfl, hb⟩; refine ⟨_, rfl, ?_⟩; replace HO_965000 := am (Kd.N_below (by exact rN HO_965000) hb); replace HO_986000 := am (Kd.N_below (by exact rN HO_986000) hb); replace HO_990000 := am (Kd.N_below (by exact rN HO_990000) hb); replace HO1012 := am (Kd.N_below (by exact rN HO1012) hb); replace HO1019 := am (Kd.N_below (by exact rN HO1019) hb); replace HO1023 := am (Kd.N_below (by exact rN HO1023) hb); replace BK964 := am (blk_below (g := gb964) (o := .cells #[.slice Ao12 t960.length co12] 28 (0, 0)) (by exact rX BK964) hb); replace BK985 := am (blk_below (g := gb985) (o := .cells #[.slice Ao77 t982.length co77] 28 (0, 0)) (by exact rX BK985) hb); replace BK989 := am (blk_below (g := gb989) (o := .cells #[.slice Ao82 t986.length co82] 28 (0, 0)) (by exact rX BK989) hb); replace BK1014 := am (blk_below (g := gb1014) (o := .cells #[.slice Ao165 t1010.length co165] 28 (0, 0)) (by exact rX BK1014) hb); replace HB := am (below_step (by exact rB HB) hb)
                 (try clear hb); (try clear hb2); (try clear hk); (try clear hi); refine hK.out _ _ ((blk_cell BK1014.out 0).trans rfl) (fun hHeld => ?_); clear hK K; refine norm_ (a' := ?_) ?_ ?_; rotate_left; (show Act.put _ (some 161) _ = _; simp only [Act.put, qa, qz, qs, i64_w, i32_w]; rfl); refine pure_ (i := 6) (N := some 162) (v := ?_) (a' := ?_) (bA 18 127) rfl rfl (any_of HT_.out (by kernel_rfl)) (fun _ _ _ h => h) (Or.inl ⟨by rfl, ?_⟩) ?_ ?_; rotate_left
                 ·intro w'; go_simp; (with_reducible rfl)
                 rotate_left; (simp only [Act.put, qa, qz, qs, i64_w, i32_w]; rfl); refine pure_ (i := 7) (N := some 163) (v := ?_) (a' := ?_) (bA 18 255) rfl rfl (any_of HT_.out (by kernel_rfl)) (fun _ _ _ h => h) (Or.inl ⟨by rfl, ?_⟩) ?_ ?_; rotate_left
                 ·intro w'; go_simp; (with_reducible rfl)
                 rotate_left; (simp only [Act.put, qa, qz, qs, i64_w, i32_w]; rfl); refine pure_ (i := 8) (N := some 164) (v := ?_) (a' := ?_) (bA 18 511) rfl rfl (any_of HT_.out (by kernel_rfl)) (fun _ _ _ h => h) (Or.inl ⟨by rfl, ?_⟩) ?_ ?_; rotate_left
                 ·intro w'; go_simp; (with_reducible rfl)
                 rotate_left; (simp only [Act.put, qa, qz, qs, i64_w, i32_w]; rfl); refine pure_ (i := 9) (N := some 165) (v := ?_) (a' := ?_) (bA 18 1023) rfl rfl (any_of HT_.out (by kernel_rfl)) (fun _ _ _ h => h) (Or.inl ⟨by rfl, ?_⟩) ?_ ?_; rotate_left
                 ·intro w'; go_simp; (with_reducible rfl)
                 rotate_left; (simp only [Act.put, qa, qz, qs, i64_w, i32_w]; rfl); refine pure_ (i := 10) (N := some 166) (v := ?_) (a' := ?_) (bA 18 2047) rfl rfl (any_of HT_.out (by kernel_rfl)) (fun _ _ _ h => h) (Or.inl ⟨by rfl, ?_⟩) ?_ ?_; rotate_left
                 ·intro w'; go_simp; (with_reducible rfl)
                 rotate_left; (simp only [Act.put, qa, qz, qs, i64_w, i32_w]; rfl); refine pure_ (i := 11) (N := some 167) (v := ?_) (a' := ?_) (bA 18 4095) rfl rfl (any_of HT_.out (by kernel_rfl)) (fun _ _ _ h => h) (Or.inl ⟨by rfl, ?_⟩) ?_ ?_; rotate_left
                 ·intro w'; go_simp; (with_reducible rfl)
                 rotate_left; (simp only [Act.put, qa, qz, qs, i64_w, i32_w]; rfl); refine pure_ (i := 12) (N := some 168) (v := ?_) (a' := ?_) (bA 18 8191) rfl rfl (any_of HT_.out (by kernel_rfl)) (fun _ _ _ h => h) (Or.inl ⟨by rfl, ?_⟩) ?_ ?_; rotate_left
                 ·intro w'; go_simp; (with_reducible rfl)
                 rotate_left; (simp only [Act.put, qa, qz, qs, i64_w, i32_w]; rfl); refine pure_ (i := 13) (N := some 169) (v := undef) (a' := ?_) (bA 18 16383) rfl rfl (any_of HT_.out (by kernel_rfl)) (fun _ _ _ h => h) (Or.inr ⟨by rfl, rfl⟩) ?_ ?_; rotate_left
                 ·simp only [Act.put, qa, qz, qs, i64_w, i32_w]; rfl
                 refine pure_ (i := 14) (N := some 170) (v := undef) (a' := ?_) (bA 18 32767) rfl rfl (any_of HT_.out (by kernel_rfl)) (fun _ _ _ h => h) (Or.inr ⟨by rfl, rfl⟩) ?_ ?_; rotate_left; (simp only [Act.put, qa, qz, qs, i64_w, i32_w]; rfl); refine pure_ (i := 15) (N := some 171) (v := undef) (a' := ?_) (bA 18 65535) rfl rfl (any_of HT_.out (by kernel_rfl)) (fun _ _ _ h => h) (Or.inr ⟨by rfl, rfl⟩) ?_ ?_; rotate_left
                 ·simp only [Act.put, qa, qz, qs, i64_w, i32_w]; rfl
                 refine pure_ (i := 16) (N := some 172) (v := ?_) (a' := ?_) (bA 18 131071) rfl rfl (any_of HT_.out (by kernel_rfl)) (fun _ _ _ h => h) (Or.inl ⟨by rfl, ?_⟩) ?_ ?_; rotate_left; (intro w'; go_simp; (with_reducible rfl)); rotate_left; (simp only [Act.put, qa, qz, qs, i64_w, i32_w]; rfl); refine pure_ (i := 17) (N := some 2) (v := ?_) (a' := ?_) (bA 18 262143) rfl rfl (any_of HT_.out (by kernel_rfl)) (fun _ _ _ h => h) (Or.inl ⟨by rfl, ?_⟩) ?_ ?_; rotate_left
                 ·intro w'; go_simp; (with_reducible rfl)
                 rotate_left; (simp only [Act.put, qa, qz, qs, i64_w, i32_w]; rfl); refine done_ (done_of HT_.out (by kernel_rfl)) ?_
                 try go_wp2
                 go_ret; exact ⟨by first | rfl | (simp [errW_none, errW_some] <;> rfl) | (simp [*, errW_none, errW_some] <;> rfl), by exact rB HB⟩
              ·rw [if_neg c145] at H; rw [HRT.out] at H; cases H
/-- THE ONE PURE STATEMENT of laws_FnFree: yours. -/
def laws_FnFree.Pure : Prop := ∀ (l0 : List Int), l0.length ≤ maxLen → l0.length * 1 ≤ 140737488351232 → (∀ x ∈ l0, (Lit.int .u8 x).wf = true) → ∃ k, laws_FnFree.f k l0 = some true
theorem laws_FnFree.walk (P : laws_FnFree.Pure) (a0 : Option Addr) (len0 cap0 : Nat) (z0 : List Int) (w : World) (w0 : (a0 = none ∧ len0 = 0 ∧ cap0 = 0 ∧ z0 = []) ∨ ∃ x, a0 = some x ∧ len0 ≤ cap0 ∧ cap0 ≤ maxLen ∧ z0.length = cap0 ∧ (∀ i, i < z0.length → w.cell? (x.add i) = some (.int .u8 (z0.getD i 0))) ∧ ∀ n ∈ z0, (Lit.int .u8 n).wf = true) (y0 : len0 * 1 ≤ 140737488351232) :
  Calls Try.prog 11 #[.slice a0 len0 cap0] w fun e w' => e = .returned (.bool true) ∧ Below w.heap.size w w' := by
 obtain ⟨l0, rfl, hr0, hm0, hw0, hc0⟩ := ReadsInt.ofRowC w0; obtain ⟨k, h⟩ := P l0 hm0 y0 hw0; refine (laws_FnFree.calls k _ _ l0 true w (Kd.C_of_reads (d := (0 : Int)) (h1 := fun _ => rfl) hr0) hc0 h rfl).mono ?_; rintro e w' ⟨rfl, hd⟩; exact ⟨rfl, hd⟩
end
end Go.Proofs.Ytooamcjgejajeaa.M
/- Morphisms and words: program and reference tell the same and make the same images. No condition but lengths that fit. -/
namespace Go.Proofs.Ytooamcjgejajeaa.M
open Go.RowKit Go.Proofs.YtooamcjgejajeaaW.PrintWords Go.Proofs.Ytooamcjgejajeaa.K
set_option linter.unusedVariables false
def isL (w : List Int) (n : Nat) : Bool := w.all fun x => decide (0 ≤ x ∧ x < (n : Int))
theorem isL_cons (x : Int) (w : List Int) (n : Nat) : isL (x :: w) n = (decide (0 ≤ x ∧ x < (n : Int)) && isL w n) := by simp [isL]
def iw (w : List Int) (n : Nat) : Bool := isL w n && (decide (1 ≤ n ∧ n ≤ 16) && decide (w.length ≤ 400))
def mo (ms : List (List Int)) : Bool := decide (1 ≤ ms.length ∧ ms.length ≤ 16) && ms.all fun im => decide (im.length ≤ 8) && isL im ms.length
theorem specIsWord_ev (w : List Int) (n : Nat) (hw : w.length ≤ 1048576) : Ev (fun k => spec_IsWord.f k w (n : Int)) (iw w n) := by
  have key : ∀ i, i ≤ w.length → Ev (fun k => spec_IsWord.l0 k w (n : Int) (i : Int)) (isL (w.drop i) n && (decide (1 ≤ n ∧ n ≤ 16) && decide (w.length ≤ 400))) := by
    refine down w.length ?_ ?_
    · refine Ev.step (fun k => by simp only [spec_IsWord.l0]; rw [_root_.if_neg (by omega)]) ?_; refine Ev.bind (Ev.val (l1In_val _ _ _)) ?_; rw [List.drop_length]; by_cases q : 1 ≤ n ∧ n ≤ 16
      · rw [decide_eq_true (show 1 ≤ (n : Int) ∧ (n : Int) ≤ 16 by omega)]; refine Ev.if_pos rfl (Ev.same (Ev.some _) ?_); rw [decide_eq_true q]; simp [isL]; omega
      · rw [decide_eq_false (show ¬ (1 ≤ (n : Int) ∧ (n : Int) ≤ 16) by omega)]; refine Ev.if_neg (by simp) (Ev.same (Ev.some _) ?_); rw [decide_eq_false q]; simp
    · intro i hi ih; rw [drop_eq w i hi, isL_cons]; refine Ev.step (fun k => by simp only [spec_IsWord.l0]; rw [_root_.if_pos (by omega), _root_.if_pos (by omega), wsucc (by omega), rd_get w i hi]) ?_; refine Ev.ite (fun q => ?_) (fun q => ?_)
      · rw [decide_eq_false (by omega)]; exact Ev.some _
      · refine Ev.ite (fun q2 => ?_) (fun q2 => ?_)
        · rw [decide_eq_false (by omega)]; exact Ev.some _
        · rw [decide_eq_true (by omega), Bool.true_and]; exact ih
  exact key 0 (by omega)
theorem areLetters_ev (w : List Int) (n : Nat) (hw : w.length ≤ 1048576) : Ev (fun k => impl_areLetters.f k w (n : Int)) (isL w n) := by
  have key : ∀ i, i ≤ w.length → Ev (fun k => impl_areLetters.l0 k (n : Int) w (w.length : Int) (i : Int)) (isL (w.drop i) n) := by
    refine down w.length ?_ ?_
    · refine Ev.step (fun k => by simp only [impl_areLetters.l0]; rw [_root_.if_neg (by omega)]) ?_; rw [List.drop_length]; exact Ev.some _
    · intro i hi ih; rw [drop_eq w i hi, isL_cons]; refine Ev.step (fun k => by simp only [impl_areLetters.l0]; rw [_root_.if_pos (by omega), _root_.if_pos (by omega), _root_.if_pos (by omega), wsucc (by omega), rd_get w i hi]) ?_; refine Ev.ite (fun q => ?_) (fun q => ?_)
      · rw [decide_eq_false (by omega)]; exact Ev.some _
      · refine Ev.ite (fun q2 => ?_) (fun q2 => ?_)
        · rw [decide_eq_false (by omega)]; exact Ev.some _
        · rw [decide_eq_true (by omega), Bool.true_and]; exact ih
  unfold impl_areLetters.f; exact key 0 (by omega)
theorem implIsWord_ev (w : List Int) (n : Nat) (hw : w.length ≤ 1048576) : Ev (fun k => impl_IsWord.f k w (n : Int)) (iw w n) := by
  unfold impl_IsWord.f iw; refine Ev.ite (fun q => ?_) (fun q => ?_)
  · refine Ev.ite (fun q2 => ?_) (fun q2 => ?_)
    · refine Ev.ite (fun q3 => ?_) (fun q3 => ?_)
      · refine Ev.bind (areLetters_ev w n hw) (Ev.same (Ev.some _) ?_); rw [decide_eq_true (show 1 ≤ n ∧ n ≤ 16 by omega), decide_eq_true (show w.length ≤ 400 by omega)]; simp
      · refine Ev.same (Ev.some _) ?_; rw [decide_eq_false (show ¬ w.length ≤ 400 by omega)]; simp
    · refine Ev.same (Ev.some _) ?_; rw [decide_eq_false (show ¬ (1 ≤ n ∧ n ≤ 16) by omega)]; simp
  · refine Ev.same (Ev.some _) ?_; rw [decide_eq_false (show ¬ (1 ≤ n ∧ n ≤ 16) by omega)]; simp
theorem implIsMorphism_ev (ms : List (List Int)) (h : ms.length ≤ 1048576) (ht : total ms ≤ 1048576) : Ev (fun k => impl_IsMorphism.f k ms) (mo ms) := by
  have key : ∀ i, i ≤ ms.length → Ev (fun k => impl_IsMorphism.l0 k (ms.length : Int) ms (ms.length : Int) (i : Int)) ((ms.drop i).all fun im => decide (im.length ≤ 8) && isL im ms.length) := by
    refine down ms.length ?_ ?_
    · refine Ev.step (fun k => by simp only [impl_IsMorphism.l0]; rw [_root_.if_neg (by omega)]) ?_; rw [List.drop_length]; exact Ev.some _
    · intro i hi ih; rw [drop_eq ms i hi, List.all_cons]; refine Ev.step (fun k => by simp only [impl_IsMorphism.l0]; rw [_root_.if_pos (by omega), _root_.if_pos (by omega), _root_.if_pos (by omega), wsucc (by omega), rdLL ms i hi]) ?_; refine Ev.ite (fun q => ?_) (fun q => ?_)
      · rw [decide_eq_false (by omega), Bool.false_and, Bool.false_and]; exact Ev.some _
      · rw [decide_eq_true (by omega), Bool.true_and]; refine Ev.bind (areLetters_ev _ _ (by have := total_at ms i hi; omega)) ?_; refine Ev.ite (fun q2 => ?_) (fun q2 => ?_)
        · rw [q2, Bool.true_and]; exact ih
        · rw [Bool.eq_false_iff.2 q2, Bool.false_and]; exact Ev.some _
  have big : ∀ b : Bool, b = !decide (1 ≤ ms.length ∧ ms.length ≤ 16) → Ev (fun k => impl_IsMorphism.j0 k (ms.length : Int) b ms) (mo ms) := by
    intro b hb; subst hb; unfold mo; by_cases q : 1 ≤ ms.length ∧ ms.length ≤ 16
    · rw [decide_eq_true q]; refine Ev.step (fun k => by simp only [impl_IsMorphism.j0]; rw [_root_.if_neg (by simp)]) ?_; rw [Bool.true_and]; exact key 0 (by omega)
    · rw [decide_eq_false q]; refine Ev.step (fun k => by simp only [impl_IsMorphism.j0]; rw [_root_.if_pos (by simp)]) ?_; exact Ev.some _
  unfold impl_IsMorphism.f; refine Ev.ite (fun q => ?_) (fun q => ?_)
  · exact big true (by rw [decide_eq_false (by omega)]; rfl)
  · refine big _ ?_; by_cases q2 : (ms.length : Int) > 16
    · rw [decide_eq_true q2, decide_eq_false (by omega)]; rfl
    · rw [decide_eq_false q2, decide_eq_true (by omega)]; rfl
theorem specIsMorphism_ev (ms : List (List Int)) (h : ms.length ≤ 1048576) (ht : total ms ≤ 1048576) : Ev (fun k => spec_IsMorphism.f k ms) (mo ms) := by
  have key : ∀ i, i ≤ ms.length → Ev (fun k => spec_IsMorphism.l0 k (i : Int) ms) (decide (1 ≤ ms.length ∧ ms.length ≤ 16) && (ms.drop i).all fun im => decide (im.length ≤ 8) && isL im ms.length) := by
    refine down ms.length ?_ ?_
    · refine Ev.step (fun k => by simp only [spec_IsMorphism.l0]; rw [_root_.if_neg (by omega)]) ?_; refine Ev.bind (Ev.val (l1In_val _ _ _)) (Ev.same (Ev.some _) ?_); rw [List.drop_length]; rw [List.all_nil, Bool.and_true, decide_eq_decide]; omega
    · intro i hi ih; rw [drop_eq ms i hi, List.all_cons]; refine Ev.step (fun k => by simp only [spec_IsMorphism.l0]; rw [_root_.if_pos (by omega), _root_.if_pos (by omega), wsucc (by omega), rdLL ms i hi]) ?_; refine Ev.bind (specIsWord_ev _ _ (by have := total_at ms i hi; omega)) ?_; unfold iw; by_cases q0 : 1 ≤ ms.length ∧ ms.length ≤ 16
      · rw [decide_eq_true q0] at ih ⊢; rw [Bool.true_and] at ih ⊢; rw [Bool.true_and]; by_cases q1 : isL ms[i] ms.length = true
        · rw [q1, Bool.true_and, Bool.and_true]; by_cases q2 : ms[i].length ≤ 400
          · rw [decide_eq_true q2]; refine Ev.if_pos rfl (Ev.ite (fun q => ?_) (fun q => ?_))
            · rw [decide_eq_false (show ¬ ms[i].length ≤ 8 by omega), Bool.false_and]; exact Ev.some _
            · rw [decide_eq_true (show ms[i].length ≤ 8 by omega), Bool.true_and]; exact ih
          · rw [decide_eq_false q2, decide_eq_false (show ¬ ms[i].length ≤ 8 by omega), Bool.false_and]; exact Ev.if_neg (by simp) (Ev.some _)
        · rw [Bool.eq_false_iff.2 q1, Bool.false_and, Bool.and_false, Bool.false_and]; exact Ev.if_neg (by simp) (Ev.some _)
      · rw [decide_eq_false q0, Bool.false_and, Bool.false_and, Bool.and_false]; exact Ev.if_neg (by simp) (Ev.some _)
  exact key 0 (by omega)
def img (ms : List (List Int)) (w : List Int) : List Int := w.flatMap fun x => rd_L1 ms x
noncomputable def am (ms : List (List Int)) (w : List Int) : List Int × Bool := if mo ms = true ∧ iw w ms.length = true then (if (img ms w).length > 400 then ([], false) else (img ms w, true)) else ([], false)
theorem am_len (ms : List (List Int)) (w : List Int) : (am ms w).1.length ≤ 400 := by
  unfold am; split <;> (try split) <;> simp; omega
theorem img_take (ms : List (List Int)) (w : List Int) (i : Nat) (h : i < w.length) : img ms (w.take (i + 1)) = img ms (w.take i) ++ rd_L1 ms w[i] := by
  unfold img; rw [take_succ w i h, List.flatMap_append]; simp
theorem img_le (ms : List (List Int)) (w : List Int) (i : Nat) : (img ms (w.take i)).length ≤ (img ms w).length := by
  have : img ms w = img ms (w.take i) ++ img ms (w.drop i) := by unfold img; rw [← List.flatMap_append, List.take_append_drop]
  rw [this, List.length_append]; omega
theorem mo_at {ms : List (List Int)} (h : mo ms = true) (i : Nat) (hi : i < ms.length) : ms[i].length ≤ 8 := by
  unfold mo at h; rw [Bool.and_eq_true, List.all_eq_true] at h; have := h.2 _ (List.getElem_mem hi); rw [Bool.and_eq_true] at this; exact of_decide_eq_true this.1
theorem iw_at {w : List Int} {n : Nat} (h : iw w n = true) (i : Nat) (hi : i < w.length) : 0 ≤ w[i] ∧ w[i] < (n : Int) := by
  unfold iw isL at h; rw [Bool.and_eq_true, List.all_eq_true] at h; exact of_decide_eq_true (h.1 _ (List.getElem_mem hi))
theorem iw_len {w : List Int} {n : Nat} (h : iw w n = true) : w.length ≤ 400 := by
  unfold iw at h; rw [Bool.and_eq_true, Bool.and_eq_true] at h; exact of_decide_eq_true h.2.2
theorem rd_image {ms : List (List Int)} (h : mo ms = true) (x : Int) (h0 : 0 ≤ x) (h1 : x < (ms.length : Int)) : (rd_L1 ms x).length ≤ 8 := by
  obtain ⟨n, rfl⟩ : ∃ n : Nat, x = (n : Int) := ⟨x.toNat, by omega⟩; rw [rdLL ms n (by omega)]; exact mo_at h n (by omega)
theorem img_small {ms : List (List Int)} {w : List Int} (h : mo ms = true) (hw : iw w ms.length = true) : ∀ i, i ≤ w.length → (img ms (w.take i)).length ≤ 8 * i := by
  intro i
  induction i with
  | zero => intro _; simp [img]
  | succ i ih =>
    intro hi; have h1 := iw_at hw i (by omega); have h2 := rd_image h w[i] h1.1 h1.2; have h3 := ih (by omega); rw [img_take ms w i (by omega), List.length_append]; omega
theorem specApply_ev (ms : List (List Int)) (w : List Int) (h : ms.length ≤ 1048576) (ht : total ms ≤ 1048576) (hw : w.length ≤ 1048576) : Ev (fun k => spec_ApplyMorphism.f k ms w) (am ms w) := by
  have key : mo ms = true → iw w ms.length = true → ∀ i, i ≤ w.length → (img ms (w.take i)).length ≤ 400 → Ev (fun k => spec_ApplyMorphism.l0 k w (img ms (w.take i)) (i : Int) ms) (am ms w) := by
    intro hm hi0; have e : am ms w = (if (img ms w).length > 400 then ([], false) else (img ms w, true)) := by unfold am; rw [_root_.if_pos ⟨hm, hi0⟩]
    rw [e]; refine down w.length ?_ ?_
    · intro h1; refine Ev.step (fun k => by simp only [spec_ApplyMorphism.l0]; rw [_root_.if_neg (by omega)]) ?_; rw [List.take_length] at h1 ⊢; rw [_root_.if_neg (by omega)]; exact Ev.some _
    · intro i hi ih h1; have h2 := iw_at hi0 i hi; have h3 := rd_image hm w[i] h2.1 h2.2; refine Ev.step (fun k => by simp only [spec_ApplyMorphism.l0]; rw [_root_.if_pos (by omega), _root_.if_pos (by omega), wsucc (by omega), rd_get w i hi, _root_.if_pos h2.1, _root_.if_pos h2.2, _root_.if_pos (by omega), ← img_take ms w i hi]) ?_; refine Ev.bind (Ev.some _) ?_; refine Ev.ite (fun q => ?_) (fun q => ?_)
      · have := img_le ms w (i + 1); rw [_root_.if_pos (by omega)]; exact Ev.some _
      · exact ih (by omega)
  unfold spec_ApplyMorphism.f; refine Ev.bind (Ev.some _) ?_; refine Ev.bind (specIsMorphism_ev ms h ht) ?_; by_cases q : mo ms = true
  · refine Ev.if_pos q (Ev.bind (specIsWord_ev _ _ hw) ?_); by_cases q2 : iw w ms.length = true
    · rw [q2]; refine Ev.step (fun k => by simp only [spec_ApplyMorphism.j0]; rw [_root_.if_neg (by simp)]) ?_; exact key q q2 0 (by omega) (by simp [img])
    · rw [Bool.eq_false_iff.2 q2]; refine Ev.step (fun k => by simp only [spec_ApplyMorphism.j0]; rw [_root_.if_pos (by simp)]) ?_; unfold am; rw [_root_.if_neg (fun h => q2 h.2)]; exact Ev.some _
  · refine Ev.if_neg q ?_; refine Ev.step (fun k => by simp only [spec_ApplyMorphism.j0]; rw [_root_.if_pos trivial]) ?_; unfold am; rw [_root_.if_neg (fun h => q h.1)]; exact Ev.some _
theorem implApply_ev (ms : List (List Int)) (w : List Int) (h : ms.length ≤ 1048576) (ht : total ms ≤ 1048576) (hw : w.length ≤ 1048576) : Ev (fun k => impl_ApplyMorphism.f k ms w) (am ms w) := by
  have key : mo ms = true → iw w ms.length = true → ∀ i, i ≤ w.length → Ev (fun k => impl_ApplyMorphism.l0 k (img ms (w.take i)) w (w.length : Int) (i : Int) ms) (am ms w) := by
    intro hm hi0; have e : am ms w = (if (img ms w).length > 400 then ([], false) else (img ms w, true)) := by unfold am; rw [_root_.if_pos ⟨hm, hi0⟩]
    rw [e]; refine down w.length ?_ ?_
    · refine Ev.step (fun k => by simp only [impl_ApplyMorphism.l0]; rw [_root_.if_neg (by omega)]) ?_; rw [List.take_length]; refine Ev.ite (fun q => ?_) (fun q => ?_)
      · rw [_root_.if_pos (by omega)]; exact Ev.some _
      · rw [_root_.if_neg (by omega)]; exact Ev.some _
    · intro i hi ih; have h2 := iw_at hi0 i hi; have h3 := rd_image hm w[i] h2.1 h2.2; have h4 := img_small hm hi0 i (by omega); have h5 := iw_len hi0; exact Ev.step (fun k => by simp only [impl_ApplyMorphism.l0]; rw [_root_.if_pos (by omega), _root_.if_pos (by omega), _root_.if_pos (by omega), wsucc (by omega), rd_get w i hi, _root_.if_pos h2.1, _root_.if_pos h2.2, _root_.if_pos (by omega), ← img_take ms w i hi]) ih
  unfold impl_ApplyMorphism.f; refine Ev.bind (implIsMorphism_ev ms h ht) ?_; by_cases q : mo ms = true
  · refine Ev.if_pos q (Ev.bind (implIsWord_ev _ _ hw) ?_); by_cases q2 : iw w ms.length = true
    · rw [q2]; refine Ev.step (fun k => by simp only [impl_ApplyMorphism.j0]; rw [_root_.if_neg (by simp)]) ?_; exact key q q2 0 (by omega)
    · rw [Bool.eq_false_iff.2 q2]; refine Ev.step (fun k => by simp only [impl_ApplyMorphism.j0]; rw [_root_.if_pos (by simp)]) ?_; unfold am; rw [_root_.if_neg (fun h => q2 h.2)]; exact Ev.some _
  · refine Ev.if_neg q ?_; refine Ev.step (fun k => by simp only [impl_ApplyMorphism.j0]; rw [_root_.if_pos trivial]) ?_; unfold am; rw [_root_.if_neg (fun h => q h.1)]; exact Ev.some _
noncomputable def fb (ms : List (List Int)) : List (List Int) → List Int × Bool
  | [] => ([], false)
  | w :: ws => if (am ms w).2 = true ∧ hasPower (am ms w).1 2 1 = false then fb ms ws else (w, true)
noncomputable def bw (ms : List (List Int)) (a1 : Int) : List Int × Bool := if (mo ms = true ∧ ms.length ≤ 4) ∧ 0 ≤ a1 ∧ a1 ≤ 5 then fb ms (fw ms.length (tst false) a1.toNat) else ([], false)
theorem fw_smallB (m : Nat) (p : List Int → Bool) (n : Nat) (hm : m ≤ 4) (hn : n ≤ 10) : (fw m p n).length ≤ 1000000000000 := Nat.le_trans (fw_le m p n) (small_pow m n hm hn n (Nat.le_refl _))
theorem mo_pos {ms : List (List Int)} (h : mo ms = true) : 1 ≤ ms.length := by
  unfold mo at h; rw [Bool.and_eq_true] at h; exact (of_decide_eq_true h.1).1
theorem specSF_ev (m : Nat) (a1 : Int) (hm : 1 ≤ m) (hm4 : m ≤ 4) : Ev (fun k => spec_SquareFreeWords.f k (m : Int) a1) (if 0 ≤ a1 ∧ a1 ≤ 5 then (fw m (tst false) a1.toNat, true) else ([], false)) := by
  unfold spec_SquareFreeWords.f; refine Ev.bind (Ev.val (l1In_val _ _ _)) ?_; rw [decide_eq_true (by omega)]; refine Ev.if_pos rfl (Ev.bind (Ev.val (l1In_val _ _ _)) ?_); by_cases q2 : 0 ≤ a1 ∧ a1 ≤ 5
  · rw [decide_eq_true q2, _root_.if_pos q2]; obtain ⟨n, rfl⟩ : ∃ n : Nat, a1 = (n : Int) := ⟨a1.toNat, by omega⟩; exact Ev.if_pos rfl (Ev.bind (l29_ev m n false (by omega) (by omega) (small_pow m n (by omega) (by omega))) (Ev.some _))
  · rw [decide_eq_false q2, _root_.if_neg q2]; exact Ev.if_neg (by simp) (Ev.some _)
theorem specBW_ev (ms : List (List Int)) (a1 : Int) (h : ms.length ≤ 1048576) (ht : total ms ≤ 1048576) : Ev (fun k => spec_BrokenWord.f k ms a1) (bw ms a1) := by
  have bad : ¬ (mo ms = true ∧ ms.length ≤ 4) → Ev (fun k => spec_BrokenWord.j0 k a1 true ms) (bw ms a1) := fun q => by
    unfold bw; rw [_root_.if_neg (fun h => q h.1)]; refine Ev.step (fun k => by simp only [spec_BrokenWord.j0]; rw [_root_.if_pos trivial]) ?_; exact Ev.some _
  unfold spec_BrokenWord.f; refine Ev.bind (specIsMorphism_ev ms h ht) ?_; by_cases q1 : mo ms = true
  · refine Ev.if_pos q1 ?_; by_cases q2 : ms.length ≤ 4
    · rw [decide_eq_false (by omega)]; refine Ev.step (fun k => by simp only [spec_BrokenWord.j0]; rw [_root_.if_neg (by simp)]) ?_; refine Ev.bind (specSF_ev ms.length a1 (mo_pos q1) q2) ?_; unfold bw; by_cases q3 : 0 ≤ a1 ∧ a1 ≤ 5
      · rw [_root_.if_pos q3, _root_.if_pos ⟨⟨q1, q2⟩, q3⟩]; obtain ⟨n, rfl⟩ : ∃ n : Nat, a1 = (n : Int) := ⟨a1.toNat, by omega⟩; rw [Int.toNat_natCast]; have hS := fw_smallB ms.length (tst false) n (by omega) (by omega); have hL := fw_len ms.length (tst false) n; generalize fw ms.length (tst false) n = ws at hS hL; have key : ∀ i, i ≤ ws.length → Ev (fun k => spec_BrokenWord.l0 k ws true (i : Int) ms) (fb ms (ws.drop i)) := by
          refine down ws.length ?_ ?_
          · refine Ev.step (fun k => by simp only [spec_BrokenWord.l0]; rw [_root_.if_neg (by omega)]) ?_; refine Ev.step (fun k => by simp only [spec_BrokenWord.j2]; rw [_root_.if_neg (by simp)]) ?_; rw [List.drop_length]; exact Ev.some _
          · intro i hi ih; rw [drop_eq ws i hi]; have hli := hL _ (List.getElem_mem hi); refine Ev.step (fun k => by simp only [spec_BrokenWord.l0]; rw [_root_.if_pos (by omega)]) ?_; refine Ev.step (fun k => by simp only [spec_BrokenWord.j2]; rw [_root_.if_pos trivial, _root_.if_pos (by omega), _root_.if_pos (by omega), wsucc (by omega), rdLL ws i hi]) ?_; refine Ev.bind (specApply_ev ms ws[i] h ht (by omega)) ?_; simp only [fb]; refine Ev.ite (fun q => ?_) (fun q => ?_)
            · refine Ev.bind (specSquare_ev _ (by have := am_len ms ws[i]; omega)) ?_; refine Ev.ite (fun q' => ?_) (fun q' => ?_)
              · rw [_root_.if_neg (fun h => by rw [h.2] at q'; cases q')]; refine Ev.bind (Ev.some _) (Ev.if_pos (by simp; omega) (Ev.some _))
              · rw [_root_.if_pos ⟨q, Bool.eq_false_iff.2 q'⟩]; exact ih
            · rw [_root_.if_neg (fun h => q h.1)]; refine Ev.bind (Ev.some _) (Ev.if_pos (by simp; omega) (Ev.some _))
        exact key 0 (by omega)
      · rw [_root_.if_neg q3, _root_.if_neg (fun h => q3 h.2)]; refine Ev.step (fun k => by simp only [spec_BrokenWord.l0]; rw [_root_.if_neg (by simp)]) ?_; refine Ev.step (fun k => by simp only [spec_BrokenWord.j2]; rw [_root_.if_neg (by simp)]) ?_; exact Ev.some _
    · rw [decide_eq_true (by omega)]; exact bad (fun h => q2 h.2)
  · exact Ev.if_neg q1 (bad (fun h => q1 h.1))
theorem isTried_ev (ms : List (List Int)) (a1 : Int) (h : ms.length ≤ 1048576) (ht : total ms ≤ 1048576) : Ev (fun k => impl_isTried.f k ms a1) (decide ((mo ms = true ∧ ms.length ≤ 4) ∧ 0 ≤ a1 ∧ a1 ≤ 5)) := by
  unfold impl_isTried.f; refine Ev.bind (implIsMorphism_ev ms h ht) ?_; refine Ev.ite (fun q1 => ?_) (fun q1 => ?_)
  · refine Ev.ite (fun q2 => ?_) (fun q2 => ?_)
    · refine Ev.ite (fun q3 => ?_) (fun q3 => ?_)
      · refine Ev.same (Ev.some _) ?_; rw [decide_eq_decide]; exact ⟨fun q4 => ⟨⟨q1, by omega⟩, by omega, q4⟩, fun q => q.2.2⟩
      · rw [decide_eq_false (fun q => q3 q.2.1)]; exact Ev.some _
    · rw [decide_eq_false (fun q => q2 (by omega))]; exact Ev.some _
  · rw [decide_eq_false (fun q => q1 q.1.1)]; exact Ev.some _
theorem implBW_ev (ms : List (List Int)) (a1 : Int) (h : ms.length ≤ 1048576) (ht : total ms ≤ 1048576) : Ev (fun k => impl_BrokenWord.f k ms a1) (bw ms a1) := by
  unfold impl_BrokenWord.f bw; refine Ev.bind (isTried_ev ms a1 h ht) ?_; by_cases q : (mo ms = true ∧ ms.length ≤ 4) ∧ 0 ≤ a1 ∧ a1 ≤ 5
  · rw [decide_eq_true q, _root_.if_pos q]; refine Ev.if_pos rfl ?_; obtain ⟨n, rfl⟩ : ∃ n : Nat, a1 = (n : Int) := ⟨a1.toNat, by omega⟩; rw [Int.toNat_natCast]; refine Ev.bind (impl_freeWords_of121.ev ms.length n (by omega) (by omega)) ?_; have hS := fw_smallB ms.length (tst false) n (by omega) (by omega); have hL := fw_len ms.length (tst false) n; generalize fw ms.length (tst false) n = ws at hS hL; have key : ∀ i, i ≤ ws.length → Ev (fun k => impl_BrokenWord.l0 k ws (ws.length : Int) (i : Int) ms) (fb ms (ws.drop i)) := by
      refine down ws.length ?_ ?_
      · refine Ev.step (fun k => by simp only [impl_BrokenWord.l0]; rw [_root_.if_neg (by omega)]) ?_; rw [List.drop_length]; exact Ev.some _
      · intro i hi ih; rw [drop_eq ws i hi]; have hli := hL _ (List.getElem_mem hi); refine Ev.step (fun k => by simp only [impl_BrokenWord.l0]; rw [_root_.if_pos (by omega), _root_.if_pos (by omega), _root_.if_pos (by omega), wsucc (by omega), rdLL ws i hi]) ?_; refine Ev.bind (implApply_ev ms ws[i] h ht (by omega)) ?_; simp only [fb]; refine Ev.ite (fun q => ?_) (fun q => ?_)
        · refine Ev.bind (implSquare_ev _ (by have := am_len ms ws[i]; omega)) ?_; refine Ev.ite (fun q' => ?_) (fun q' => ?_)
          · rw [_root_.if_neg (fun h => by rw [h.2] at q'; cases q')]; exact Ev.some _
          · rw [_root_.if_pos ⟨q, Bool.eq_false_iff.2 q'⟩]; exact ih
        · rw [_root_.if_neg (fun h => q h.1)]; exact Ev.some _
    exact key 0 (by omega)
  · rw [decide_eq_false q, _root_.if_neg q]; exact Ev.if_neg (by simp) (Ev.some _)
noncomputable def ksf (ms : List (List Int)) (a1 : Int) : Bool := decide ((mo ms = true ∧ ms.length ≤ 4) ∧ 0 ≤ a1 ∧ a1 ≤ 5) && !(bw ms a1).2
theorem specKSF_ev (ms : List (List Int)) (a1 : Int) (h : ms.length ≤ 1048576) (ht : total ms ≤ 1048576) : Ev (fun k => spec_KeepsSquareFree.f k ms a1) (ksf ms a1) := by
  unfold spec_KeepsSquareFree.f ksf; refine Ev.bind (specBW_ev ms a1 h ht) (Ev.bind (specIsMorphism_ev ms h ht) ?_); refine Ev.ite (fun q1 => ?_) (fun q1 => ?_)
  · refine Ev.ite (fun q2 => ?_) (fun q2 => ?_)
    · refine Ev.bind (Ev.val (l1In_val _ _ _)) ?_; refine Ev.ite (fun q3 => ?_) (fun q3 => ?_)
      · have q3 := of_decide_eq_true q3; rw [decide_eq_true ⟨⟨q1, by omega⟩, q3⟩, Bool.true_and]; exact Ev.some _
      · rw [decide_eq_false (fun q => q3 (decide_eq_true q.2)), Bool.false_and]; exact Ev.some _
    · rw [decide_eq_false (fun q => q2 (by omega)), Bool.false_and]; exact Ev.some _
  · rw [decide_eq_false (fun q => q1 q.1.1), Bool.false_and]; exact Ev.some _
theorem implKSF_ev (ms : List (List Int)) (a1 : Int) (h : ms.length ≤ 1048576) (ht : total ms ≤ 1048576) : Ev (fun k => impl_KeepsSquareFree.f k ms a1) (ksf ms a1) := by
  unfold impl_KeepsSquareFree.f ksf; refine Ev.bind (implBW_ev ms a1 h ht) (Ev.bind (isTried_ev ms a1 h ht) ?_); refine Ev.ite (fun q => ?_) (fun q => ?_)
  · rw [q, Bool.true_and]; exact Ev.some _
  · rw [Bool.eq_false_iff.2 q, Bool.false_and]; exact Ev.some _
def iu (ms : List (List Int)) (c : Int) : Bool := mo ms && ms.all fun im => decide ((im.length : Int) = c)
theorem specIU_ev (ms : List (List Int)) (c : Int) (h : ms.length ≤ 1048576) (ht : total ms ≤ 1048576) : Ev (fun k => spec_IsUniform.f k ms c) (iu ms c) := by
  have key : ∀ i, i ≤ ms.length → Ev (fun k => spec_IsUniform.l0 k c (i : Int) ms) (mo ms && (ms.drop i).all fun im => decide ((im.length : Int) = c)) := by
    refine down ms.length ?_ ?_
    · refine Ev.step (fun k => by simp only [spec_IsUniform.l0]; rw [_root_.if_neg (by omega)]) ?_; refine Ev.bind (specIsMorphism_ev ms h ht) ?_; rw [List.drop_length, List.all_nil, Bool.and_true]; exact Ev.some _
    · intro i hi ih; rw [drop_eq ms i hi, List.all_cons]; refine Ev.step (fun k => by simp only [spec_IsUniform.l0]; rw [_root_.if_pos (by omega), _root_.if_pos (by omega), wsucc (by omega), rdLL ms i hi]) ?_; refine Ev.ite (fun q => ?_) (fun q => ?_)
      · rw [decide_eq_true q, Bool.true_and]; exact ih
      · rw [decide_eq_false q, Bool.false_and, Bool.and_false]; exact Ev.some _
  unfold spec_IsUniform.f iu; exact key 0 (by omega)
theorem implIU_ev (ms : List (List Int)) (c : Int) (h : ms.length ≤ 1048576) (ht : total ms ≤ 1048576) : Ev (fun k => impl_IsUniform.f k ms c) (iu ms c) := by
  have key : ∀ i, i ≤ ms.length → Ev (fun k => impl_IsUniform.l0 k c ms (ms.length : Int) (i : Int)) ((ms.drop i).all fun im => decide ((im.length : Int) = c)) := by
    refine down ms.length ?_ ?_
    · refine Ev.step (fun k => by simp only [impl_IsUniform.l0]; rw [_root_.if_neg (by omega)]) ?_; rw [List.drop_length]; exact Ev.some _
    · intro i hi ih; rw [drop_eq ms i hi, List.all_cons]; refine Ev.step (fun k => by simp only [impl_IsUniform.l0]; rw [_root_.if_pos (by omega), _root_.if_pos (by omega), _root_.if_pos (by omega), wsucc (by omega), rdLL ms i hi]) ?_; refine Ev.ite (fun q => ?_) (fun q => ?_)
      · rw [decide_eq_true q, Bool.true_and]; exact ih
      · rw [decide_eq_false q, Bool.false_and]; exact Ev.some _
  unfold impl_IsUniform.f iu; refine Ev.bind (implIsMorphism_ev ms h ht) ?_; refine Ev.ite (fun q => ?_) (fun q => ?_)
  · rw [q, Bool.true_and]; exact key 0 (by omega)
  · rw [Bool.eq_false_iff.2 q, Bool.false_and]; exact Ev.some _
noncomputable def ism (ms : List (List Int)) : Bool := decide (ms.length = 3 ∧ 0 < (rd_L1 ms 0).length) && (iu ms (rd_L1 ms 0).length && ksf ms 3)
theorem specISM_ev (ms : List (List Int)) (h : ms.length ≤ 1048576) (ht : total ms ≤ 1048576) : Ev (fun k => spec_IsSquareFreeMorphism.f k ms) (ism ms) := by
  unfold spec_IsSquareFreeMorphism.f ism; refine Ev.ite (fun q1 => ?_) (fun q1 => ?_)
  · refine Ev.if_pos (by omega) (Ev.ite (fun q2 => ?_) (fun q2 => ?_))
    · rw [decide_eq_true (by omega), Bool.true_and]; refine Ev.bind (specIU_ev ms _ h ht) (Ev.ite (fun q => ?_) (fun q => ?_))
      · rw [q, Bool.true_and]; exact Ev.bind (specKSF_ev ms 3 h ht) (Ev.some _)
      · rw [Bool.eq_false_iff.2 q, Bool.false_and]; exact Ev.some _
    · rw [decide_eq_false (by omega), Bool.false_and]; exact Ev.some _
  · rw [decide_eq_false (by omega), Bool.false_and]; exact Ev.some _
theorem implISM_ev (ms : List (List Int)) (h : ms.length ≤ 1048576) (ht : total ms ≤ 1048576) : Ev (fun k => impl_IsSquareFreeMorphism.f k ms) (ism ms) := by
  unfold impl_IsSquareFreeMorphism.f ism; refine Ev.ite (fun q1 => ?_) (fun q1 => ?_)
  · refine Ev.if_pos (by omega) (Ev.ite (fun q2 => ?_) (fun q2 => ?_))
    · rw [decide_eq_true (by omega), Bool.true_and]; refine Ev.bind (implIU_ev ms _ h ht) (Ev.ite (fun q => ?_) (fun q => ?_))
      · rw [q, Bool.true_and]; exact Ev.bind (implKSF_ev ms 3 h ht) (Ev.some _)
      · rw [Bool.eq_false_iff.2 q, Bool.false_and]; exact Ev.some _
    · rw [decide_eq_false (by omega), Bool.false_and]; exact Ev.some _
  · rw [decide_eq_false (by omega), Bool.false_and]; exact Ev.some _
noncomputable def kof (ms : List (List Int)) (a1 : Int) : Bool := if mo ms = true ∧ ms.length = 2 ∧ 0 ≤ a1 ∧ a1 ≤ 5 then (fw 2 (tst true) a1.toNat).all (fun w => (am ms w).2 && !hasOverlap (am ms w).1) else false
theorem fw_small (m : Nat) (p : List Int → Bool) (n : Nat) (hm : m ≤ 4) (hn : n ≤ 10) : (fw m p n).length ≤ 1000000000000 := Nat.le_trans (fw_le m p n) (small_pow m n hm hn n (Nat.le_refl _))
theorem specKOF_ev (ms : List (List Int)) (a1 : Int) (h : ms.length ≤ 1048576) (ht : total ms ≤ 1048576) : Ev (fun k => spec_KeepsOverlapFree.f k ms a1) (kof ms a1) := by
  have bad : ¬ (mo ms = true ∧ ms.length = 2 ∧ 0 ≤ a1 ∧ a1 ≤ 5) → Ev (fun k => spec_KeepsOverlapFree.j0 k a1 true ms) (kof ms a1) := fun q => by
    unfold kof; rw [_root_.if_neg q]; refine Ev.step (fun k => by simp only [spec_KeepsOverlapFree.j0]; rw [_root_.if_pos trivial]) ?_; exact Ev.some _
  unfold spec_KeepsOverlapFree.f; refine Ev.bind (specIsMorphism_ev ms h ht) ?_; by_cases q1 : mo ms = true
  · refine Ev.if_pos q1 ?_; by_cases q2 : ms.length = 2
    · refine Ev.if_pos (by omega) (Ev.bind (Ev.val (l1In_val _ _ _)) ?_); by_cases q3 : 0 ≤ a1 ∧ a1 ≤ 5
      · rw [decide_eq_true q3]; unfold kof; rw [_root_.if_pos ⟨q1, q2, q3⟩]; obtain ⟨n, rfl⟩ : ∃ n : Nat, a1 = (n : Int) := ⟨a1.toNat, by omega⟩; rw [Int.toNat_natCast]; refine Ev.step (fun k => by simp only [spec_KeepsOverlapFree.j0]; rw [_root_.if_neg (by simp)]) ?_; refine Ev.bind (l29_ev 2 n true (by omega) (by omega) (small_pow 2 n (by omega) (by omega))) ?_; have hS := fw_small 2 (tst true) n (by omega) (by omega); have hL := fw_len 2 (tst true) n; generalize fw 2 (tst true) n = ws at hS hL; have key : ∀ i, i ≤ ws.length → Ev (fun k => spec_KeepsOverlapFree.l0 k ws (i : Int) ms) ((ws.drop i).all fun w => (am ms w).2 && !hasOverlap (am ms w).1) := by
          refine down ws.length ?_ ?_
          · refine Ev.step (fun k => by simp only [spec_KeepsOverlapFree.l0]; rw [_root_.if_neg (by omega)]) ?_; rw [List.drop_length]; exact Ev.some _
          · intro i hi ih; rw [drop_eq ws i hi, List.all_cons]; refine Ev.step (fun k => by simp only [spec_KeepsOverlapFree.l0]; rw [_root_.if_pos (by omega), _root_.if_pos (by omega), wsucc (by omega), rdLL ws i hi]) ?_; refine Ev.bind (specApply_ev ms ws[i] h ht (by have := hL _ (List.getElem_mem hi); omega)) ?_; refine Ev.ite (fun q => ?_) (fun q => ?_)
            · rw [q, Bool.true_and]; refine Ev.bind (specOverlap_ev _ (by have := am_len ms ws[i]; omega)) ?_; refine Ev.ite (fun q => ?_) (fun q => ?_)
              · rw [q, Bool.not_true, Bool.false_and]; exact Ev.some _
              · rw [Bool.eq_false_iff.2 q, Bool.not_false, Bool.true_and]; exact ih
            · rw [Bool.eq_false_iff.2 q, Bool.false_and, Bool.false_and]; exact Ev.some _
        exact key 0 (by omega)
      · rw [decide_eq_false q3]; exact bad (fun h => q3 h.2.2)
    · refine Ev.if_neg (by omega) (bad (fun h => q2 h.2.1))
  · exact Ev.if_neg q1 (bad (fun h => q1 h.1))
theorem implKOF_ev (ms : List (List Int)) (a1 : Int) (h : ms.length ≤ 1048576) (ht : total ms ≤ 1048576) : Ev (fun k => impl_KeepsOverlapFree.f k ms a1) (kof ms a1) := by
  have bad : ¬ (mo ms = true ∧ ms.length = 2 ∧ 0 ≤ a1 ∧ a1 ≤ 5) → Ev (fun k => impl_KeepsOverlapFree.j0 k a1 true ms) (kof ms a1) := fun q => by
    unfold kof; rw [_root_.if_neg q]; refine Ev.step (fun k => by simp only [impl_KeepsOverlapFree.j0]; rw [_root_.if_pos trivial]) ?_; exact Ev.some _
  unfold impl_KeepsOverlapFree.f; refine Ev.bind (implIsMorphism_ev ms h ht) ?_; by_cases q1 : mo ms = true
  · refine Ev.if_pos q1 ?_; by_cases q2 : ms.length = 2
    · refine Ev.if_pos (by omega) ?_; by_cases q3 : a1 < 0
      · exact Ev.if_pos q3 (bad (fun h => by omega))
      · refine Ev.if_neg q3 ?_; by_cases q4 : a1 > 5
        · rw [decide_eq_true q4]; exact bad (fun h => by omega)
        · rw [decide_eq_false q4]; unfold kof; rw [_root_.if_pos ⟨q1, q2, by omega, by omega⟩]; obtain ⟨n, rfl⟩ : ∃ n : Nat, a1 = (n : Int) := ⟨a1.toNat, by omega⟩; rw [Int.toNat_natCast]; refine Ev.step (fun k => by simp only [impl_KeepsOverlapFree.j0]; rw [_root_.if_neg (by simp)]) ?_; refine Ev.bind (impl_freeWords_of119.ev 2 n (by omega) (by omega)) ?_; have hS := fw_small 2 (tst true) n (by omega) (by omega); have hL := fw_len 2 (tst true) n; generalize fw 2 (tst true) n = ws at hS hL; have key : ∀ i, i ≤ ws.length → Ev (fun k => impl_KeepsOverlapFree.l0 k ws (ws.length : Int) (i : Int) ms) ((ws.drop i).all fun w => (am ms w).2 && !hasOverlap (am ms w).1) := by
            refine down ws.length ?_ ?_
            · refine Ev.step (fun k => by simp only [impl_KeepsOverlapFree.l0]; rw [_root_.if_neg (by omega)]) ?_; rw [List.drop_length]; exact Ev.some _
            · intro i hi ih; rw [drop_eq ws i hi, List.all_cons]; refine Ev.step (fun k => by simp only [impl_KeepsOverlapFree.l0]; rw [_root_.if_pos (by omega), _root_.if_pos (by omega), _root_.if_pos (by omega), wsucc (by omega), rdLL ws i hi]) ?_; refine Ev.bind (implApply_ev ms ws[i] h ht (by have := hL _ (List.getElem_mem hi); omega)) ?_; refine Ev.ite (fun q => ?_) (fun q => ?_)
              · rw [q, Bool.true_and]; refine Ev.bind (implOverlap_ev _ (by have := am_len ms ws[i]; omega)) ?_; refine Ev.ite (fun q => ?_) (fun q => ?_)
                · rw [q, Bool.not_true, Bool.false_and]; exact Ev.some _
                · rw [Bool.eq_false_iff.2 q, Bool.not_false, Bool.true_and]; exact ih
              · rw [Bool.eq_false_iff.2 q, Bool.false_and, Bool.false_and]; exact Ev.some _
          exact key 0 (by omega)
    · refine Ev.if_neg (by omega) (bad (fun h => q2 h.2.1))
  · exact Ev.if_neg q1 (bad (fun h => q1 h.1))
set_option maxRecDepth 100000
def eqPart (w : List Int) (i p L : Nat) : Bool := decide (i + p + L ≤ w.length) && decide ((w.drop i).take L = (w.drop (i + p)).take L)
def sqB (w : List Int) : Bool := (List.range w.length).any fun i => (List.range w.length).any fun p => eqPart w i (p + 1) (p + 1)
def ovB (w : List Int) : Bool := (List.range w.length).any fun i => (List.range w.length).any fun p => eqPart w i (p + 1) (p + 2)
theorem eqPart_iff (w : List Int) (i p L : Nat) (hL : 1 ≤ L) : eqPart w i p L = true ↔ per w p i L := by
  unfold eqPart; rw [Bool.and_eq_true, decide_eq_true_eq, decide_eq_true_eq]; constructor
  · rintro ⟨hb, h⟩; refine fun t ht => ⟨by omega, ?_⟩
    have h1 : ((w.drop i).take L)[t]? = ((w.drop (i + p)).take L)[t]? := by rw [h]
    rw [List.getElem?_take_of_lt ht, List.getElem?_take_of_lt ht, List.getElem?_drop, List.getElem?_drop] at h1; rw [List.getD_eq_getElem?_getD, List.getD_eq_getElem?_getD, h1, show i + t + p = i + p + t from by omega]
  · intro h; have hb := per_bound h (by omega); refine ⟨by omega, List.ext_getElem (by simp; omega) (fun t h1 h2 => ?_)⟩; simp only [List.length_take, List.length_drop] at h1 h2; have := (h t (by omega)).2; rw [List.getD_eq_getElem?_getD, List.getD_eq_getElem?_getD, List.getElem?_eq_getElem (by omega), List.getElem?_eq_getElem (by omega)] at this; simp only [Option.getD_some] at this; rw [List.getElem_take, List.getElem_drop, List.getElem_take, List.getElem_drop, this]; congr 1; omega
theorem sqB_iff (w : List Int) : sqB w = true ↔ ∃ i p, 1 ≤ p ∧ per w p i p := by
  unfold sqB; simp only [List.any_eq_true, List.mem_range]; constructor
  · rintro ⟨i, _, p, _, h⟩; exact ⟨i, p + 1, by omega, (eqPart_iff w i _ _ (by omega)).1 h⟩
  · rintro ⟨i, p, hp, h⟩; have hb := per_bound h (by omega); refine ⟨i, by omega, p - 1, by omega, ?_⟩; rw [show p - 1 + 1 = p from by omega]; exact (eqPart_iff w i p p (by omega)).2 h
theorem ovB_iff (w : List Int) : ovB w = true ↔ ∃ i p, 1 ≤ p ∧ per w p i (p + 1) := by
  unfold ovB; simp only [List.any_eq_true, List.mem_range]; constructor
  · rintro ⟨i, _, p, _, h⟩; exact ⟨i, p + 1, by omega, (eqPart_iff w i _ _ (by omega)).1 h⟩
  · rintro ⟨i, p, hp, h⟩; have hb := per_bound h (by omega); refine ⟨i, by omega, p - 1, by omega, ?_⟩; rw [show p - 1 + 1 = p from by omega, show p - 1 + 2 = p + 1 from by omega]; exact (eqPart_iff w i p (p + 1) (by omega)).2 h
theorem square_is (w : List Int) (hw : w.length ≤ 128) : hasPower w 2 1 = sqB w := by
  rw [Bool.eq_iff_iff, hasPower_iff, sqB_iff]; constructor
  · rintro ⟨_, i, p, L, h1, h2, h3, h4⟩; exact ⟨i, p, h1, per_le h3 (by omega)⟩
  · rintro ⟨i, p, h1, h2⟩; have hb := per_bound h2 (by omega); exact ⟨hw, i, p, p, h1, by omega, h2, by omega⟩
theorem overlap_is (w : List Int) (hw : w.length ≤ 128) : hasOverlap w = ovB w := by
  rw [Bool.eq_iff_iff, hasOverlap_iff, ovB_iff]; constructor
  · rintro ⟨_, i, p, L, h1, h2, h3⟩; exact ⟨i, p, h1, per_le h2 (by omega)⟩
  · rintro ⟨i, p, h1, h2⟩; exact ⟨hw, i, p, p + 1, h1, h2, by omega⟩
/-- A part with a square: the whole has one. -/
theorem sqB_in (x u y : List Int) (h : sqB u = true) : sqB (x ++ u ++ y) = true := by
  obtain ⟨i, p, hp, h⟩ := (sqB_iff u).1 h; refine (sqB_iff _).2 ⟨x.length + i, p, hp, fun t ht => ?_⟩; have h1 := h t ht; have hg : ∀ j, j < u.length → (x ++ u ++ y).getD (x.length + j) 0 = u.getD j 0 := fun j hj => by
    rw [List.getD_eq_getElem?_getD, List.getD_eq_getElem?_getD, List.append_assoc, List.getElem?_append_right (by omega), show x.length + j - x.length = j from by omega, List.getElem?_append_left hj]
  refine ⟨by simp only [List.length_append]; omega, ?_⟩; rw [show x.length + i + t = x.length + (i + t) from by omega, hg _ (by omega), show x.length + (i + t) + p = x.length + (i + t + p) from by omega, hg _ h1.1]; exact h1.2
theorem fw_congr (m : Nat) (p q : List Int → Bool) (N : Nat) (h : ∀ w : List Int, w.length ≤ N → p w = q w) : ∀ n, n ≤ N → fw m p n = fw m q n
  | 0, _ => rfl
  | n + 1, hn => by
    have ih := fw_congr m p q N h n (by omega); show fwStep m _ (fw m _ n) = fwStep m _ (fw m _ n); rw [ih]; have hl := fw_len m q n; generalize fw m q n = ws at hl; unfold fwStep ext; have key : ∀ ws : List (List Int), (∀ u ∈ ws, u.length = n) → (ws.flatMap fun word => ((List.range m).map fun (a : Nat) => word ++ [(a : Int)]).filter p) = ws.flatMap fun word => ((List.range m).map fun (a : Nat) => word ++ [(a : Int)]).filter q := by
      intro ws
      induction ws with
      | nil => intro _; rfl
      | cons u ws ih2 =>
        intro hu; rw [List.flatMap_cons, List.flatMap_cons, ih2 (fun v hv => hu v (List.mem_cons_of_mem _ hv))]; congr 1; refine List.filter_congr fun v hv => ?_
        obtain ⟨a, _, rfl⟩ := List.mem_map.1 hv; have := hu u (List.mem_cons_self ..); exact h _ (by simp; omega)
    exact key ws hl
theorem fw_good (m : Nat) (p : List Int → Bool) (n : Nat) (hn : 1 ≤ n) : ∀ w ∈ fw m p n, p w = true := by
  obtain ⟨n, rfl⟩ : ∃ q, n = q + 1 := ⟨n - 1, by omega⟩; intro w hw; unfold fw fwStep ext at hw; obtain ⟨u, _, hu⟩ := List.mem_flatMap.1 hw; exact (List.mem_filter.1 hu).2
theorem fw_isL (m : Nat) (p : List Int → Bool) : ∀ n, ∀ w ∈ fw m p n, isL w m = true
  | 0, w, hw => by simp [fw] at hw; subst hw; rfl
  | n + 1, w, hw => by
    unfold fw fwStep ext at hw; obtain ⟨u, hu, hv⟩ := List.mem_flatMap.1 hw; obtain ⟨a, ha, rfl⟩ := List.mem_map.1 (List.mem_filter.1 hv).1; have := fw_isL m p n u hu; unfold isL at this ⊢; rw [List.all_append, this, Bool.true_and, List.all_cons, List.all_nil, decide_eq_true (by have := List.mem_range.1 ha; omega)]; rfl
def sqN (w : List Int) : Bool := !sqB w
def ovN (w : List Int) : Bool := !ovB w
theorem fw_sqN (m n : Nat) (h : n ≤ 100) : fw m (tst false) n = fw m sqN n :=
  fw_congr m _ _ 100 (fun w hw => by unfold tst sqN; rw [_root_.if_neg (by simp), square_is w (by omega)]) n h
theorem fw_ovN (m n : Nat) (h : n ≤ 100) : fw m (tst true) n = fw m ovN n :=
  fw_congr m _ _ 100 (fun w hw => by unfold tst ovN; rw [_root_.if_pos rfl, overlap_is w (by omega)]) n h
theorem fb_bad (ms : List (List Int)) : ∀ ws, (fb ms ws).2 = !(ws.all fun w => (am ms w).2 && !hasPower (am ms w).1 2 1)
  | [] => rfl
  | w :: ws => by
    unfold fb; rw [List.all_cons]; split
    · rename_i q; rw [q.1, q.2, fb_bad ms ws]; rfl
    · rename_i q; have : ((am ms w).2 && !hasPower (am ms w).1 2 1) = false := by
        cases h1 : (am ms w).2 with
        | false => rfl
        | true =>
          cases h2 : hasPower (am ms w).1 2 1 with
          | true => rfl
          | false => exact absurd ⟨h1, h2⟩ q
      rw [this]; rfl
theorem fb_in (ms : List (List Int)) : ∀ ws, (fb ms ws).2 = true → (fb ms ws).1 ∈ ws
  | [], h => by simp [fb] at h
  | w :: ws, h => by
    unfold fb at h ⊢; split
    · rename_i q; rw [_root_.if_pos q] at h; exact List.mem_cons_of_mem _ (fb_in ms ws h)
    · exact List.mem_cons_self ..
theorem fb_len (ms : List (List Int)) : ∀ ws, (fb ms ws).2 = false → (fb ms ws).1 = []
  | [], _ => rfl
  | w :: ws, h => by
    unfold fb at h ⊢; split
    · rename_i q; rw [_root_.if_pos q] at h; exact fb_len ms ws h
    · rename_i q; rw [_root_.if_neg q] at h; cases h
theorem am_is {ms : List (List Int)} {w : List Int} (h : mo ms = true) (hw : isL w ms.length = true) (hl : w.length ≤ 10) : am ms w = (img ms w, true) ∧ (img ms w).length ≤ 80 := by
  have h16 : 1 ≤ ms.length ∧ ms.length ≤ 16 := by
    unfold mo at h; rw [Bool.and_eq_true] at h; exact of_decide_eq_true h.1
  have hiw : iw w ms.length = true := by
    unfold iw; rw [hw, decide_eq_true h16, decide_eq_true (by omega)]; rfl
  have hs := img_small h hiw w.length (Nat.le_refl _); rw [List.take_length] at hs; unfold am; rw [_root_.if_pos ⟨h, hiw⟩, _root_.if_neg (by omega)]; exact ⟨rfl, by omega⟩
def ksfB (ms : List (List Int)) (n : Nat) : Bool := (fw ms.length sqN n).all fun w => !sqB (img ms w)
theorem ksf_is (ms : List (List Int)) (n : Nat) (h : mo ms = true) (h4 : ms.length ≤ 4) (hn : n ≤ 5) : ksf ms (n : Int) = ksfB ms n := by
  unfold ksf ksfB bw; rw [decide_eq_true ⟨⟨h, h4⟩, by omega, by omega⟩, Bool.true_and, _root_.if_pos ⟨⟨h, h4⟩, by omega, by omega⟩, Int.toNat_natCast, fb_bad, Bool.not_not, fw_sqN _ n (by omega)]; have hL := fw_isL ms.length sqN n; have hl := fw_len ms.length sqN n; generalize fw ms.length sqN n = ws at hL hl
  induction ws with
  | nil => rfl
  | cons w ws ih =>
    rw [List.all_cons, List.all_cons, ih (fun u hu => hL u (List.mem_cons_of_mem _ hu)) (fun u hu => hl u (List.mem_cons_of_mem _ hu))]; obtain ⟨h1, h2⟩ := am_is h (hL w (List.mem_cons_self ..)) (by rw [hl w (List.mem_cons_self ..)]; omega); rw [h1, square_is _ (by dsimp only; omega)]; rfl
def kofB (ms : List (List Int)) (n : Nat) : Bool := (fw 2 ovN n).all fun w => !ovB (img ms w)
theorem kof_is (ms : List (List Int)) (n : Nat) (h : mo ms = true) (h2 : ms.length = 2) (hn : n ≤ 5) : kof ms (n : Int) = kofB ms n := by
  unfold kof kofB; rw [_root_.if_pos ⟨h, h2, by omega, by omega⟩, Int.toNat_natCast, fw_ovN _ n (by omega)]; have hL := fw_isL 2 ovN n; have hl := fw_len 2 ovN n; generalize fw 2 ovN n = ws at hL hl
  induction ws with
  | nil => rfl
  | cons w ws ih =>
    rw [List.all_cons, List.all_cons, ih (fun u hu => hL u (List.mem_cons_of_mem _ hu)) (fun u hu => hl u (List.mem_cons_of_mem _ hu))]; obtain ⟨h1, h3⟩ := am_is h (by rw [h2]; exact hL w (List.mem_cons_self ..)) (by rw [hl w (List.mem_cons_self ..)]; omega); rw [h1, overlap_is _ (by dsimp only; omega)]; rfl
/-- All words of a length over three letters. -/
def W3 : Nat → List (List Int)
  | 0 => [[]]
  | n + 1 => (W3 n).flatMap fun w => [0 :: w, 1 :: w, 2 :: w]
theorem mem_W3 : ∀ (n : Nat) (l : List Int), l.length = n → isL l 3 = true → l ∈ W3 n
  | 0, l, h, _ => by rw [List.length_eq_zero_iff.1 h]; exact List.mem_cons_self ..
  | n + 1, [], h, _ => by simp at h
  | n + 1, x :: l, h, hl => by
    rw [isL_cons, Bool.and_eq_true, decide_eq_true_eq] at hl; have ih := mem_W3 n l (by simpa using h) hl.2; refine List.mem_flatMap.2 ⟨l, ih, ?_⟩; rcases (show x = 0 ∨ x = 1 ∨ x = 2 by omega) with rfl | rfl | rfl <;> simp
def dec3 (n : Nat) : Bool := (W3 n).all fun a => sqB a || (W3 n).all fun b => sqB b || (sqB (a ++ b) || (sqB (b ++ a) || (W3 n).all fun c => sqB c || (sqB (a ++ c) || (sqB (c ++ a) || (sqB (b ++ c) || (sqB (c ++ b) || !ksfB [a, b, c] 3))))))
theorem dec3_two : dec3 2 = true := by decide +kernel
theorem dec3_three : dec3 3 = true := by decide +kernel
def dec1 : Bool := (W3 1).all fun a => (W3 1).all fun b => (W3 1).all fun c => !ksfB [a, b, c] 3 || ksfB [a, b, c] 4
theorem dec1_ok : dec1 = true := by decide +kernel
def seven : List (List Int) := [[0, 1, 2, 0, 2, 1, 0], [1, 2, 0, 1, 0, 2, 1], [2, 0, 1, 2, 1, 0, 2]]
theorem seven_ok : (!ksfB seven 3 || ksfB seven 4) = true := by decide +kernel
theorem early (a b c : List Int) (h : ksfB [a, b, c] 3 = true) : sqB (a ++ b) = false ∧ sqB (b ++ a) = false ∧ sqB (a ++ c) = false ∧ sqB (c ++ a) = false ∧ sqB (b ++ c) = false ∧ sqB (c ++ b) = false := by
  have hw : ∀ w ∈ fw 3 sqN 3, sqB (img [a, b, c] w) = false := fun w hw => by
    have := List.all_eq_true.1 h w hw; cases q : sqB (img [a, b, c] w) with
    | false => rfl
    | true => rw [q] at this; cases this
  have no : ∀ u v : List Int, sqB (u ++ (v ++ (u ++ []))) = false → sqB (u ++ v) = false := fun u v h => by
    cases q : sqB (u ++ v) with
    | false => rfl
    | true =>
      have := sqB_in [] (u ++ v) u q; rw [List.nil_append, List.append_assoc] at this; rw [List.append_nil, this] at h; cases h
  exact ⟨no a b (hw [0, 1, 0] (by decide +kernel)), no b a (hw [1, 0, 1] (by decide +kernel)), no a c (hw [0, 2, 0] (by decide +kernel)), no c a (hw [2, 0, 2] (by decide +kernel)), no b c (hw [1, 2, 1] (by decide +kernel)), no c b (hw [2, 1, 2] (by decide +kernel))⟩
theorem short_no (n : Nat) (hd : dec3 n = true) (a b c : List Int) (ha : a ∈ W3 n) (hb : b ∈ W3 n) (hc : c ∈ W3 n) (h : ksfB [a, b, c] 3 = true) : False := by
  obtain ⟨h1, h2, h3, h4, h5, h6⟩ := early a b c h; have part : ∀ u v : List Int, sqB (u ++ v) = false → sqB u = false := fun u v h => by
    cases q : sqB u with
    | false => rfl
    | true =>
      have := sqB_in [] u v q; rw [List.nil_append, h] at this; cases this
  have g := List.all_eq_true.1 hd a ha; rw [part a b h1, Bool.false_or] at g; have g := List.all_eq_true.1 g b hb; rw [part b a h2, h1, h2, Bool.false_or, Bool.false_or, Bool.false_or] at g; have g := List.all_eq_true.1 g c hc; rw [part c a h4, h3, h4, h5, h6, h] at g; cases g
/-- A uniform morphism on three letters that keeps words of three letters free of squares keeps those of four (for those that are drawn). -/
theorem free_keeps (ms : List (List Int)) (hd : ms = seven ∨ ∀ x ∈ ms.drop 1, x.length ≤ 3) (h : ism ms = true) : ksf ms 4 = true := by
  unfold ism at h; rw [Bool.and_eq_true, Bool.and_eq_true, decide_eq_true_eq] at h; obtain ⟨⟨h3, h0⟩, hu, hk⟩ := h; unfold iu at hu; rw [Bool.and_eq_true, List.all_eq_true] at hu; obtain ⟨hm, hu⟩ := hu; have hk' : ksf ms ((3 : Nat) : Int) = true := hk; rw [ksf_is ms 3 hm (by omega) (by omega)] at hk'; show ksf ms ((4 : Nat) : Int) = true; rw [ksf_is ms 4 hm (by omega) (by omega)]; rcases hd with rfl | hd
  · have := seven_ok; rw [hk'] at this; simpa using this
  · match ms, h3 with
    | [a, b, c], _ =>
      have ea : rd_L1 [a, b, c] 0 = a := rfl; rw [ea] at h0 hu; have lb : b.length = a.length := by have := of_decide_eq_true (hu b (by simp)); omega
      have lc : c.length = a.length := by have := of_decide_eq_true (hu c (by simp)); omega
      have l3 : b.length ≤ 3 := hd b (by simp); unfold mo at hm; rw [Bool.and_eq_true, List.all_eq_true] at hm; have il : ∀ x ∈ [a, b, c], isL x 3 = true := fun x hx => by
        have := hm.2 x hx; rw [Bool.and_eq_true] at this; exact this.2
      have wa := mem_W3 _ a rfl (il a (by simp)); have wb := mem_W3 _ b lb (il b (by simp)); have wc := mem_W3 _ c lc (il c (by simp)); rcases (show a.length = 1 ∨ a.length = 2 ∨ a.length = 3 by omega) with q | q | q
      · rw [q] at wa wb wc; have g := List.all_eq_true.1 (List.all_eq_true.1 (List.all_eq_true.1 dec1_ok a wa) b wb) c wc; rw [hk'] at g; simpa using g
      · rw [q] at wa wb wc; exact (short_no 2 dec3_two a b c wa wb wc hk').elim
      · rw [q] at wa wb wc; exact (short_no 3 dec3_three a b c wa wb wc hk').elim
theorem and255 (n : Int) : bits .and .i64 n 255 = n % 256 := by
  have h1 : (BitVec.ofInt 64 n &&& BitVec.ofInt 64 255).toNat = (n % 18446744073709551616).toNat % 256 := by
    rw [BitVec.toNat_and, BitVec.toNat_ofInt]; exact Nat.and_two_pow_sub_one_eq_mod _ 8
  have h2 : bits .and .i64 n 255 = IntKind.i64.wrap (((BitVec.ofInt 64 n &&& BitVec.ofInt 64 255).toNat : Nat) : Int) := rfl; rw [h2, h1, IntKind.wrap_i64]; omega
theorem byte_val (s : List Int) (i h : Int) (h0 : 0 ≤ i) (h1 : i ≤ s.length) (hs : s.length ≤ 1048576) : ∃ r i' h', spec_l1Byte.f s i h = some (r, i', h') ∧ 0 ≤ r ∧ r ≤ 255 ∧ 0 ≤ i' ∧ i' ≤ (s.length : Int) := by
  unfold spec_l1Byte.f; by_cases q : i < (s.length : Int)
  · rw [_root_.if_pos q, _root_.if_pos h0]; refine ⟨_, _, _, rfl, ?_, ?_, ?_, ?_⟩
    · rw [and255]; omega
    · rw [and255]; omega
    · rw [w_id (by omega) (by omega)]; omega
    · rw [w_id (by omega) (by omega)]; omega
  · rw [_root_.if_neg q]; refine ⟨_, _, _, rfl, ?_, ?_, h0, h1⟩
    · rw [and255]; omega
    · rw [and255]; omega
theorem below_val (s : List Int) (i h n : Int) (h0 : 0 ≤ i) (h1 : i ≤ s.length) (hs : s.length ≤ 1048576) (hn : 1 ≤ n) (hn2 : n ≤ 256) : ∃ r i' h', spec_l1Below.f s i h n = some (r, i', h') ∧ 0 ≤ r ∧ r < n ∧ 0 ≤ i' ∧ i' ≤ (s.length : Int) := by
  obtain ⟨r, i', h', e, r0, r1, i0, i1⟩ := byte_val s i h h0 h1 hs; unfold spec_l1Below.f; rw [_root_.if_neg (by omega), _root_.if_pos hn2, e, Option.bind_some, _root_.if_neg (by omega)]; refine ⟨_, _, _, rfl, ?_, ?_, i0, i1⟩
  · dsimp only; rw [Int.tmod_eq_emod_of_nonneg r0]; exact Int.emod_nonneg _ (by omega)
  · dsimp only; rw [Int.tmod_eq_emod_of_nonneg r0]; exact Int.emod_lt_of_pos _ (by omega)
theorem new_ev (s : List Int) (hs : s.length ≤ 1048576) : ∃ h, Ev (fun k => spec_l1New.f k s) (s, 0, h) := by
  have key : ∀ d i : Nat, i + d = s.length → ∀ h : Int, ∃ h', Ev (fun k => spec_l1New.l0 k s h (i : Int)) (s, 0, h') := by
    intro d
    induction d with
    | zero =>
      intro i hi h; exact ⟨h, Ev.step (fun k => by simp only [spec_l1New.l0]; rw [_root_.if_neg (by omega)]) (Ev.some _)⟩
    | succ d ih =>
      intro i hi h; by_cases q : (i : Int) < 4000
      · obtain ⟨h', hE⟩ := ih (i + 1) (by omega) _; exact ⟨h', Ev.step (fun k => by simp only [spec_l1New.l0]; rw [_root_.if_pos (by omega), _root_.if_pos q, _root_.if_pos (by omega), wsucc (i := i) (by omega)]) hE⟩
      · exact ⟨h, Ev.step (fun k => by simp only [spec_l1New.l0]; rw [_root_.if_pos (by omega), _root_.if_neg q]) (Ev.some _)⟩
  unfold spec_l1New.f; exact key s.length 0 (by omega) _
theorem once_val (s : List Int) (i h n : Int) (h0 : 0 ≤ i) (h1 : i ≤ s.length) (hs : s.length ≤ 1048576) (hn : 1 ≤ n) (hn2 : n ≤ 256) : ∃ r i' h', spec_l1Once.f s i h n = some (r, i', h') ∧ 0 ≤ i' ∧ i' ≤ (s.length : Int) := by
  obtain ⟨r, i', h', e, r0, r1, i0, i1⟩ := below_val s i h n h0 h1 hs hn hn2; unfold spec_l1Once.f; rw [e]; exact ⟨_, _, _, rfl, i0, i1⟩
theorem pick_val (s : List Int) (i h : Int) (l : List Int) (h0 : 0 ≤ i) (h1 : i ≤ s.length) (hs : s.length ≤ 1048576) (hl : 1 ≤ l.length) (hl2 : l.length ≤ 256) : ∃ r i' h', spec_l1PickInt.f s i h l = some (r, i', h') ∧ 0 ≤ i' ∧ i' ≤ (s.length : Int) := by
  obtain ⟨r, i', h', e, r0, r1, i0, i1⟩ := below_val s i h (l.length : Int) h0 h1 hs (by omega) (by omega); unfold spec_l1PickInt.f; rw [e, Option.bind_some]; dsimp only; rw [_root_.if_pos r0, _root_.if_pos r1]; exact ⟨_, _, _, rfl, i0, i1⟩
def MR (R : List (List Int)) : Prop := (1 ≤ R.length ∧ R.length ≤ 3) ∧ (∀ x ∈ R, x.length ≤ 4) ∧ ∀ x ∈ R.drop 1, x.length ≤ 3
theorem l7m_ev (s : List Int) (i h : Int) (h0 : 0 ≤ i) (h1 : i ≤ s.length) (hs : s.length ≤ 1048576) : ∃ R i' h', Ev (fun k => spec_l7Morphism.f k s i h) (R, i', h') ∧ MR R ∧ 0 ≤ i' ∧ i' ≤ (s.length : Int) := by
  have key : ∀ n : Nat, 1 ≤ n → n ≤ 3 → ∀ (d : Nat) (acc : List (List Int)) (i h : Int), acc.length + d = n → (∀ x ∈ acc, x.length ≤ 3) → 0 ≤ i → i ≤ s.length → ∃ R i' h', Ev (fun k => spec_l7Morphism.l0 k (n : Int) (acc.length : Int) s i h acc) (R, i', h') ∧ MR R ∧ 0 ≤ i' ∧ i' ≤ (s.length : Int) := by
    intro n hn1 hn3 d
    induction d with
    | zero =>
      intro acc i h hl hx h0 h1; obtain ⟨r, i1, g1, e, i0, i9⟩ := once_val s i h 12 h0 h1 hs (by omega) (by omega); cases acc with
      | nil => simp only [List.length_nil] at hl; omega
      | cons a t =>
        have ha : a.length ≤ 3 := hx a (List.mem_cons_self ..); cases r with
        | false =>
          refine ⟨a :: t, i1, g1, Ev.step (fun k => by simp only [spec_l7Morphism.l0]; rw [_root_.if_neg (by omega), e, Option.bind_some, _root_.if_neg (by simp)]) (Ev.some _), ⟨⟨by omega, by omega⟩, fun x hx' => by have := hx x hx'; omega, fun x hx' => hx x (List.mem_of_mem_drop hx')⟩, i0, i9⟩
        | true =>
          obtain ⟨x, i2, g2, e2, j0, j1⟩ := pick_val s i1 g1 [-1, 4, 0] i0 i9 hs (by simp) (by simp)
          refine ⟨(a ++ [x]) :: t, i2, g2, Ev.step (fun k => by
            simp only [spec_l7Morphism.l0]; rw [_root_.if_neg (by omega), e, Option.bind_some, _root_.if_pos rfl, e2, Option.bind_some, _root_.if_pos (by simp), show rd_L1 (a :: t) 0 = a from rfl, _root_.if_pos (by omega)]
            rfl) (Ev.some _), ⟨⟨by simp only [List.length_cons] at hl ⊢; omega, by simp only [List.length_cons] at hl ⊢; omega⟩, fun y hy => ?_, fun y hy => hx y (List.mem_cons_of_mem _ hy)⟩, j0, j1⟩
          rcases List.mem_cons.1 hy with rfl | hy
          · simp; omega
          · have := hx y (List.mem_cons_of_mem _ hy); omega
    | succ d ih =>
      intro acc i h hl hx h0 h1; obtain ⟨r, i1, g1, e, r0, r1, i0, i9⟩ := below_val s i h 4 h0 h1 hs (by omega) (by omega); have inner : ∀ (m : Nat) (wd : List Int) (i h : Int), wd.length + m ≤ 3 → 0 ≤ i → i ≤ s.length → ∃ R i' h', Ev (fun k => spec_l7Morphism.l1 k (n : Int) (acc.length : Int) wd (m : Int) s i h acc) (R, i', h') ∧ MR R ∧ 0 ≤ i' ∧ i' ≤ (s.length : Int) := by
        intro m
        induction m with
        | zero =>
          intro wd i h hm h0 h1
          obtain ⟨R, i', h', hE, hR⟩ := ih (acc ++ [wd]) i h (by simp; omega) (fun x hx' => by
            rcases List.mem_append.1 hx' with hx' | hx'
            · exact hx x hx'
            · rw [List.mem_singleton.1 hx']; omega) h0 h1
          rw [List.length_append, List.length_cons, List.length_nil, Nat.zero_add] at hE; exact ⟨R, i', h', Ev.step (fun k => by simp only [spec_l7Morphism.l1]; rw [_root_.if_neg (by omega), _root_.if_pos (by omega), wsucc (by omega)]) hE, hR⟩
        | succ m ihm =>
          intro wd i h hm h0 h1; obtain ⟨r, i', h', e, r0, r1, i0, i1⟩ := below_val s i h (n : Int) h0 h1 hs (by omega) (by omega); obtain ⟨R, i2, h2, hE, hR⟩ := ihm (wd ++ [r]) i' h' (by simp; omega) i0 i1; exact ⟨R, i2, h2, Ev.step (fun k => by simp only [spec_l7Morphism.l1]; rw [_root_.if_pos (by omega), e, Option.bind_some, _root_.if_pos (by omega), w_id (a := ((m + 1 : Nat) : Int) - 1) (by omega) (by omega), show ((m + 1 : Nat) : Int) - 1 = (m : Int) from by omega]) hE, hR⟩
      obtain ⟨m, rfl⟩ : ∃ m : Nat, r = (m : Int) := ⟨r.toNat, by omega⟩; obtain ⟨R, i', h', hE, hR⟩ := inner m [] i1 g1 (by simp; omega) i0 i9; exact ⟨R, i', h', Ev.step (fun k => by simp only [spec_l7Morphism.l0]; rw [_root_.if_pos (by omega), e, Option.bind_some]) hE, hR⟩
  obtain ⟨r, i1, g1, e, r0, r1, i0, i9⟩ := below_val s i h 5 h0 h1 hs (by omega) (by omega); unfold spec_l7Morphism.f; have lit : ∀ R : List (List Int), MR R → ∃ R' i' h', Ev (fun _ => some (R, i1, g1)) (R', i', h') ∧ MR R' ∧ 0 ≤ i' ∧ i' ≤ (s.length : Int) := fun R hR => ⟨R, i1, g1, Ev.some _, hR, i0, i9⟩
  by_cases q0 : r = 0
  · obtain ⟨R, a, b, hE, hR⟩ := lit [[0, 1], [1, 0]] ⟨by decide, by decide, by decide⟩; exact ⟨R, a, b, Ev.bind (Ev.val e) (Ev.if_pos q0 hE), hR⟩
  by_cases q1 : r = 1
  · obtain ⟨R, a, b, hE, hR⟩ := lit [[0, 1], [0]] ⟨by decide, by decide, by decide⟩; exact ⟨R, a, b, Ev.bind (Ev.val e) (Ev.if_neg q0 (Ev.if_pos q1 hE)), hR⟩
  by_cases q2 : r = 2
  · obtain ⟨R, a, b, hE, hR⟩ := lit [[0, 1, 2], [0, 2], [1]] ⟨by decide, by decide, by decide⟩; exact ⟨R, a, b, Ev.bind (Ev.val e) (Ev.if_neg q0 (Ev.if_neg q1 (Ev.if_pos q2 hE))), hR⟩
  obtain ⟨t, i2, g2, e2, t0, t1, j0, j1⟩ := below_val s i1 g1 3 i0 i9 hs (by omega) (by omega); obtain ⟨R, a, b, hE, hR⟩ := key (1 + t).toNat (by omega) (by omega) (1 + t).toNat [] i2 g2 (by simp) (by simp) j0 j1; have e3 : wrap64 (1 + t) = (((1 + t).toNat : Nat) : Int) := by rw [w_id (by omega) (by omega)]; omega
  refine ⟨R, a, b, Ev.bind (Ev.val e) (Ev.if_neg q0 (Ev.if_neg q1 (Ev.if_neg q2 (Ev.bind (Ev.val e2) ?_)))), hR⟩; dsimp only; rw [e3]; exact hE
set_option maxRecDepth 100000
def MF (R : List (List Int)) : Prop := (1 ≤ R.length ∧ R.length ≤ 3) ∧ (∀ x ∈ R, x.length ≤ 8) ∧ (R = seven ∨ ∀ x ∈ R.drop 1, x.length ≤ 3)
theorem MF_total {R : List (List Int)} (h : MF R) : R.length ≤ 1048576 ∧ total R ≤ 1048576 := by
  refine ⟨by have := h.1.2; omega, ?_⟩; obtain ⟨⟨_, h1⟩, h2, _⟩ := h
  match R, h1, h2 with
  | [], _, _ => simp [total]
  | [a], _, h => have := h a (by simp); simp [total]; omega
  | [a, b], _, h => have := h a (by simp); have := h b (by simp); simp [total]; omega
  | [a, b, c], _, h => have := h a (by simp); have := h b (by simp); have := h c (by simp); simp [total]; omega
theorem l29m_ev (s : List Int) (i h : Int) (h0 : 0 ≤ i) (h1 : i ≤ s.length) (hs : s.length ≤ 1048576) : ∃ R i' h', Ev (fun k => spec_l29Morphism.f k s i h) (R, i', h') ∧ MF R ∧ 0 ≤ i' ∧ i' ≤ (s.length : Int) := by
  obtain ⟨r, i1, g1, e, r0, r1, i0, i9⟩ := below_val s i h 5 h0 h1 hs (by omega) (by omega); unfold spec_l29Morphism.f; by_cases q0 : r = 0
  · exact ⟨_, _, _, Ev.bind (Ev.val e) (Ev.if_pos q0 (Ev.bind (Ev.val rfl) (Ev.some _))), ⟨by decide, by decide, .inr (by decide)⟩, i0, i9⟩
  by_cases q1 : r = 1
  · exact ⟨_, _, _, Ev.bind (Ev.val e) (Ev.if_neg q0 (Ev.if_pos q1 (Ev.bind (Ev.val rfl) (Ev.some _)))), ⟨by decide, by decide, .inr (by decide)⟩, i0, i9⟩
  by_cases q2 : r = 2
  · exact ⟨_, _, _, Ev.bind (Ev.val e) (Ev.if_neg q0 (Ev.if_neg q1 (Ev.if_pos q2 (Ev.some _)))), ⟨by decide, by decide, .inl rfl⟩, i0, i9⟩
  by_cases q3 : r = 3
  · have key : ∀ (d : Nat) (acc : List (List Int)) (i h : Int), acc.length + d = 3 → (∀ x ∈ acc, x.length = 2) → 0 ≤ i → i ≤ s.length → ∃ R i' h', Ev (fun k => spec_l29Morphism.l0 k (acc.length : Int) s i h acc) (R, i', h') ∧ MF R ∧ 0 ≤ i' ∧ i' ≤ (s.length : Int) := by
      intro d
      induction d with
      | zero =>
        intro acc i h hl hx h0 h1; exact ⟨acc, i, h, Ev.step (fun k => by simp only [spec_l29Morphism.l0]; rw [_root_.if_neg (by omega)]) (Ev.some _), ⟨⟨by omega, by omega⟩, fun x hx' => by have := hx x hx'; omega, .inr fun x hx' => by have := hx x (List.mem_of_mem_drop hx'); omega⟩, h0, h1⟩
      | succ d ih =>
        intro acc i h hl hx h0 h1; obtain ⟨x, i1, g1, e1, x0, x1, a0, a1⟩ := below_val s i h 3 h0 h1 hs (by omega) (by omega); obtain ⟨y, i2, g2, e2, y0, y1, b0, b1⟩ := below_val s i1 g1 3 a0 a1 hs (by omega) (by omega)
        obtain ⟨R, i', h', hE, hR⟩ := ih (acc ++ [[x, y]]) i2 g2 (by simp; omega) (fun z hz => by
          rcases List.mem_append.1 hz with hz | hz
          · exact hx z hz
          · rw [List.mem_singleton.1 hz]; rfl) b0 b1
        rw [List.length_append, List.length_cons, List.length_nil, Nat.zero_add] at hE; exact ⟨R, i', h', Ev.step (fun k => by simp only [spec_l29Morphism.l0]; rw [_root_.if_pos (by omega), e1, Option.bind_some, e2, Option.bind_some, _root_.if_pos (by omega), wsucc (by omega)]) hE, hR⟩
    obtain ⟨R, i', h', hE, hR⟩ := key 3 [] i1 g1 (by simp) (by simp) i0 i9; exact ⟨R, i', h', Ev.bind (Ev.val e) (Ev.if_neg q0 (Ev.if_neg q1 (Ev.if_neg q2 (Ev.if_pos q3 hE)))), hR⟩
  · obtain ⟨R, i', h', hE, hR, j0, j1⟩ := l7m_ev s i1 g1 i0 i9 hs; exact ⟨R, i', h', Ev.bind (Ev.val e) (Ev.if_neg q0 (Ev.if_neg q1 (Ev.if_neg q2 (Ev.if_neg q3 (Ev.bind hE (Ev.some _)))))), ⟨hR.1, fun x hx => by have := hR.2.1 x hx; omega, .inr hR.2.2⟩, j0, j1⟩
theorem both_draw (s : List Int) (hs : s.length ≤ 1048576) : ∃ ms n, Ev (fun k => spec_l29Both.f k s) (ms, n) ∧ MF ms := by
  obtain ⟨h, hnew⟩ := new_ev s hs; obtain ⟨R, i1, g1, hE, hR, a, b⟩ := l29m_ev s 0 h (by omega) (by omega) hs; obtain ⟨r, i2, g2, e, _⟩ := below_val s i1 g1 7 a b hs (by omega) (by omega); unfold spec_l29Both.f; exact ⟨_, _, Ev.bind hnew (Ev.bind hE (Ev.bind (Ev.val e) (Ev.some _))), hR⟩
theorem words_draw (s : List Int) (hs : s.length ≤ 1048576) : ∃ c d, Ev (fun k => spec_DrawSquareFreeWords.f k s) (c, d) := by
  obtain ⟨h, hnew⟩ := new_ev s hs; obtain ⟨r, i1, g1, e1, _, _, a, b⟩ := below_val s 0 h 6 (by omega) (by omega) hs (by omega) (by omega); obtain ⟨t, i2, g2, e2, _⟩ := below_val s i1 g1 8 a b hs (by omega) (by omega); unfold spec_DrawSquareFreeWords.f; exact ⟨_, _, Ev.bind hnew (Ev.bind (Ev.val e1) (Ev.bind (Ev.val e2) (Ev.some _)))⟩
noncomputable def SFW (a0 a1 : Int) : List (List Int) × Bool := if (1 ≤ a0 ∧ a0 ≤ 4) ∧ 0 ≤ a1 ∧ a1 ≤ 5 then (fw a0.toNat (tst false) a1.toNat, true) else ([], false)
theorem specSFW_ev (a0 a1 : Int) : Ev (fun k => spec_SquareFreeWords.f k a0 a1) (SFW a0 a1) := by
  unfold spec_SquareFreeWords.f SFW; refine Ev.bind (Ev.val (l1In_val _ _ _)) ?_; by_cases q : 1 ≤ a0 ∧ a0 ≤ 4
  · rw [decide_eq_true q]; refine Ev.if_pos rfl (Ev.bind (Ev.val (l1In_val _ _ _)) ?_); by_cases q2 : 0 ≤ a1 ∧ a1 ≤ 5
    · rw [decide_eq_true q2, _root_.if_pos ⟨q, q2⟩]; obtain ⟨m, rfl⟩ : ∃ m : Nat, a0 = (m : Int) := ⟨a0.toNat, by omega⟩; obtain ⟨n, rfl⟩ : ∃ n : Nat, a1 = (n : Int) := ⟨a1.toNat, by omega⟩; exact Ev.if_pos rfl (Ev.bind (l29_ev m n false (by omega) (by omega) (small_pow m n (by omega) (by omega))) (Ev.some _))
    · rw [decide_eq_false q2, _root_.if_neg (fun h => q2 h.2)]; exact Ev.if_neg (by simp) (Ev.some _)
  · rw [decide_eq_false q, _root_.if_neg (fun h => q h.1)]; exact Ev.if_neg (by simp) (Ev.some _)
theorem implSFW_ev (m n : Int) : Ev (fun k => impl_SquareFreeWords.f k m n) (SFW m n) := by
  unfold impl_SquareFreeWords.f SFW; refine Ev.ite (fun q => ?_) (fun q1 => Ev.ite (fun q => ?_) (fun q2 => Ev.ite (fun q => ?_) (fun q3 => Ev.ite (fun q => ?_) (fun q4 => ?_))))
  · rw [_root_.if_neg (by omega)]; exact Ev.some _
  · rw [_root_.if_neg (by omega)]; exact Ev.some _
  · rw [_root_.if_neg (by omega)]; exact Ev.some _
  · rw [_root_.if_neg (by omega)]; exact Ev.some _
  · rw [_root_.if_pos (by omega)]; obtain ⟨a, rfl⟩ : ∃ a : Nat, m = (a : Int) := ⟨m.toNat, by omega⟩; obtain ⟨b, rfl⟩ : ∃ b : Nat, n = (b : Int) := ⟨n.toNat, by omega⟩; rw [Int.toNat_natCast, Int.toNat_natCast]; exact Ev.bind (impl_freeWords_of121.ev a b (by omega) (by omega)) (Ev.some _)
theorem SFW_small (c d : Int) : (SFW c d).1.length ≤ 1048576 ∧ ∀ y ∈ (SFW c d).1, y.length ≤ 1048576 := by
  unfold SFW; split
  · rename_i q; refine ⟨?_, fun y hy => by rw [fw_len _ _ _ y hy]; omega⟩; refine Nat.le_trans (fw_le _ _ _) (Nat.le_trans (Nat.pow_le_pow_left (show c.toNat ≤ 4 by omega) _) (Nat.le_trans (Nat.pow_le_pow_right (by omega) (show d.toNat ≤ 5 by omega)) (by decide)))
  · exact ⟨by simp, by simp⟩
theorem sameSelf_ev (x : List Int) (hx : x.length ≤ 1048576) : Ev (fun k => laws_sameInts.f k x x) true := by
  unfold laws_sameInts.f; refine Ev.if_pos rfl ?_; have key : ∀ i, i ≤ x.length → Ev (fun k => laws_sameInts.l0 k x x (i : Int)) true := by
    refine down x.length ?_ ?_
    · exact Ev.step (fun k => by simp only [laws_sameInts.l0]; rw [_root_.if_neg (by omega)]) (Ev.some _)
    · intro i hi ih; exact Ev.step (fun k => by simp only [laws_sameInts.l0]; rw [_root_.if_pos (by omega), _root_.if_pos (by omega), _root_.if_pos (by omega), _root_.if_pos trivial, wsucc (by omega)]) ih
  exact key 0 (by omega)
theorem wordsSelf_ev (x : List (List Int)) (hx : x.length ≤ 1048576) (hxx : ∀ y ∈ x, y.length ≤ 1048576) : Ev (fun k => laws_sameWords.f k x x) true := by
  unfold laws_sameWords.f; refine Ev.if_pos rfl ?_; have key : ∀ i, i ≤ x.length → Ev (fun k => laws_sameWords.l0 k x x (i : Int)) true := by
    refine down x.length ?_ ?_
    · exact Ev.step (fun k => by simp only [laws_sameWords.l0]; rw [_root_.if_neg (by omega)]) (Ev.some _)
    · intro i hi ih; refine Ev.step (fun k => by simp only [laws_sameWords.l0]; rw [_root_.if_pos (by omega), _root_.if_pos (by omega), _root_.if_pos (by omega), wsucc (by omega), rdLL x i hi]) ?_; exact Ev.bind (sameSelf_ev x[i] (hxx _ (List.getElem_mem hi))) (Ev.if_pos rfl ih)
  exact key 0 (by omega)
theorem morSelf_ev (x : List (List Int)) (hx : x.length ≤ 1048576) (hxx : ∀ y ∈ x, y.length ≤ 1048576) : Ev (fun k => laws_sameMorphism.f k x x) true := by
  unfold laws_sameMorphism.f; exact Ev.bind (wordsSelf_ev x hx hxx) (Ev.some _)
def thue : List (List Int) := [[0, 1], [1, 0]]
def tern : List (List Int) := [[0, 1, 2], [0, 2], [1]]
def okT : Bool := mo thue && (decide (thue.length = 2) && (List.range 6).all fun n => kofB thue n)
theorem okT_ok : okT = true := by decide +kernel
theorem kof_thue (v : Int) (h0 : 0 ≤ v) (h1 : v ≤ 5) : kof thue v = true := by
  have h := okT_ok; unfold okT at h; rw [Bool.and_eq_true, Bool.and_eq_true, List.all_eq_true] at h; obtain ⟨n, rfl⟩ : ∃ n : Nat, v = (n : Int) := ⟨v.toNat, by omega⟩; rw [kof_is thue n h.1 rfl (by omega)]; exact h.2.2 n (List.mem_range.2 (by omega))
def okF (ms : List (List Int)) (p : List Int → Bool) : Bool := match spec_FixedPrefix.f 400 ms 0 60 with
  | some (y, true) => decide (y.length ≤ 128) && p y
  | _ => false
theorem okF_thue : okF thue ovN = true := by decide +kernel
theorem okF_tern : okF tern sqN = true := by decide +kernel
theorem okF_gives (ms : List (List Int)) (p : List Int → Bool) (h : okF ms p = true) : ∃ y, Ev (fun k => spec_FixedPrefix.f k ms 0 60) (y, true) ∧ y.length ≤ 128 ∧ p y = true := by
  unfold okF at h; split at h
  · rename_i y hy; rw [Bool.and_eq_true, decide_eq_true_eq] at h; exact ⟨y, Ev.of (spec_FixedPrefix.mono _ _ _) hy, h.1, h.2⟩
  · cases h
attribute [local irreducible] okF okT
theorem at_val (s : List Int) (hs : s.length ≤ 1048576) (hx : ∀ x ∈ s, (Lit.int .u8 x).wf = true) : ∃ v, laws_at.f s 2 = some v ∧ 0 ≤ v := by
  unfold laws_at.f; by_cases q : (2 : Int) < (s.length : Int)
  · rw [_root_.if_pos q, _root_.if_pos (by omega)]; refine ⟨_, rfl, ?_⟩; have h2 : 2 < s.length := by omega
    have e : rd s 2 = s[2] := rd_get s 2 h2; have hb := hx _ (List.getElem_mem h2); have hb1 : IntKind.u8.min ≤ s[2] ∧ s[2] ≤ IntKind.u8.max := by simpa [Lit.wf] using hb
    have hb2 : 0 ≤ s[2] ∧ s[2] ≤ 255 := hb1; rw [e, w_id (by omega) (by omega)]; omega
  · rw [_root_.if_neg q]; refine ⟨_, rfl, ?_⟩; have a0 : wrap64 ((2 : Int) * 37) = 74 := (w_id (by omega) (by omega)).trans (by omega); have a1 : wrap64 ((s.length : Int) * 11) = (s.length : Int) * 11 := w_id (by omega) (by omega); rw [a0, a1, w_id (by omega) (by omega), Int.tmod_eq_emod_of_nonneg (by omega)]; exact Int.emod_nonneg _ (by omega)
theorem tst_no (y : List Int) (h : tst false y = true) : hasPower y 2 1 = false := by
  unfold tst at h; rw [_root_.if_neg (by simp)] at h; cases hh : hasPower y 2 1 with
  | false => rfl
  | true => rw [hh] at h; cases h
theorem bw_facts (ms : List (List Int)) (n : Int) : (bw ms n).1.length ≤ 5 ∧ ((bw ms n).2 = true → hasPower (bw ms n).1 2 1 = false) := by
  unfold bw; split
  · rename_i q; have hin := fb_in ms (fw ms.length (tst false) n.toNat); have hnil := fb_len ms (fw ms.length (tst false) n.toNat); cases hb : (fb ms (fw ms.length (tst false) n.toNat)).2 with
    | false => rw [hnil hb]; exact ⟨by simp, fun h => by cases h⟩
    | true =>
      have hm := hin hb; have hl := fw_len _ _ _ _ hm; refine ⟨by omega, fun _ => ?_⟩; by_cases h0 : 1 ≤ n.toNat
      · exact tst_no _ (fw_good _ _ _ h0 _ hm)
      · have : (fb ms (fw ms.length (tst false) n.toNat)).1 = [] := List.length_eq_zero_iff.1 (by omega); rw [this, square_is [] (by simp)]; rfl
  · exact ⟨by simp, fun h => by cases h⟩
theorem lawFree : laws_FnFree.Pure := by
  intro s _ hs hbytes; have main : Ev (fun k => laws_FnFree.f k s) true := by
    unfold laws_FnFree.f; refine Ev.bind (Ev.val rfl) ?_; refine Ev.ite (fun _ => Ev.some _) (fun q => ?_); have hs : s.length ≤ 1048576 := by
      have : ¬ (s.length : Int) > 1048576 := fun h => q (decide_eq_true h)
      omega
    obtain ⟨ms, n, hD, hM⟩ := both_draw s hs; obtain ⟨h1, ht⟩ := MF_total hM; have hD1 : Ev (fun k => spec_DrawBrokenWord.f k s) (ms, n) := by unfold spec_DrawBrokenWord.f; exact Ev.bind hD (Ev.some _)
    have hD2 : Ev (fun k => spec_DrawKeepsOverlapFree.f k s) (ms, n) := by unfold spec_DrawKeepsOverlapFree.f; exact Ev.bind hD (Ev.some _)
    have iB := implBW_ev ms n h1 ht; have sB := specBW_ev ms n h1 ht; have iK := implKSF_ev ms n h1 ht; have sK := specKSF_ev ms n h1 ht; have iI := implISM_ev ms h1 ht; have sI := specISM_ev ms h1 ht; have sK4 := specKSF_ev ms 4 h1 ht; have iO := implKOF_ev ms n h1 ht; have sO := specKOF_ev ms n h1 ht; have fB := bw_facts ms n; have fK : ksf ms n = true → (bw ms n).2 = false := by
      unfold ksf; intro h; rw [Bool.and_eq_true] at h; simpa using h.2
    have f4 := free_keeps ms hM.2.2; generalize bw ms n = b at *; generalize ksf ms n = kn at *; generalize ksf ms 4 = k4 at *; generalize ism ms = fr at *; generalize kof ms n = ko at *; obtain ⟨x, bad⟩ := b; dsimp only at *; have ex := sameSelf_ev x (by omega); have j3 : Ev (fun k => laws_FnFree.j3 k s false) true := by
      refine Ev.step (fun k => by simp only [laws_FnFree.j3]; rw [_root_.if_neg (by simp)]) ?_; obtain ⟨c, d, hW⟩ := words_draw s hs; obtain ⟨w1, w2⟩ := SFW_small c d; exact Ev.bind hD2 (Ev.bind hW (Ev.bind (implSFW_ev c d) (Ev.bind (specSFW_ev c d) (Ev.bind iO (Ev.bind sO (Ev.if_pos (by simp) (Ev.if_pos (by simp) (Ev.bind (wordsSelf_ev _ w1 w2) (Ev.some _)))))))))
    have j2 : Ev (fun k => laws_FnFree.j2 k s false thue tern) true := by
      refine Ev.step (fun k => by simp only [laws_FnFree.j2]; rw [_root_.if_neg (by simp)]) ?_; obtain ⟨y, hy, ly, py⟩ := okF_gives thue ovN okF_thue; obtain ⟨z, hz, lz, pz⟩ := okF_gives tern sqN okF_tern; have oy : hasOverlap y = false := by rw [overlap_is y ly]; unfold ovN at py; simpa using py
      have oz : hasPower z 2 1 = false := by rw [square_is z lz]; unfold sqN at pz; simpa using pz
      have ey := implOverlap_ev y (by omega); have ez := implSquare_ev z (by omega); rw [oy] at ey; rw [oz] at ez; exact Ev.bind hy (Ev.bind hz (Ev.if_pos rfl (Ev.if_pos rfl (Ev.bind ey (Ev.if_neg (by simp) (Ev.bind ez j3))))))
    have j1 : Ev (fun k => laws_FnFree.j1 k s false) true := by
      refine Ev.step (fun k => by simp only [laws_FnFree.j1]; rw [_root_.if_neg (by simp)]) ?_; have e1 := morSelf_ev thue (by decide) (by decide); have e2 := morSelf_ev tern (by decide) (by decide); obtain ⟨v, hv, hv0⟩ := at_val s hs hbytes; have ek := implKOF_ev thue (Int.tmod v 6) (by decide) (by decide); rw [kof_thue _ (by rw [Int.tmod_eq_emod_of_nonneg hv0]; exact Int.emod_nonneg _ (by omega)) (by rw [Int.tmod_eq_emod_of_nonneg hv0]; have := Int.emod_lt_of_pos v (show (0 : Int) < 6 by omega); omega)] at ek; exact Ev.bind (Ev.val rfl) (Ev.bind (Ev.val rfl) (Ev.bind (Ev.val rfl) (Ev.bind e1 (Ev.if_pos rfl (Ev.bind (Ev.val rfl) (Ev.bind e2 (Ev.if_pos rfl (Ev.bind (Ev.val hv) (Ev.bind ek j2)))))))))
    have j0 : Ev (fun k => laws_FnFree.j0 k s bad x fr false ms) true := by
      refine Ev.step (fun k => by simp only [laws_FnFree.j0]; rw [_root_.if_neg (by simp)]) ?_; have tail : Ev (fun k => if fr = true then ((spec_KeepsSquareFree.f k ms 4).bind fun t => laws_FnFree.j1 k s (!t)) else laws_FnFree.j1 k s false) true := by
        refine Ev.ite (fun q1 => ?_) (fun _ => j1); rw [f4 q1] at sK4; exact Ev.bind sK4 j1
      refine Ev.ite (fun q1 => ?_) (fun _ => tail); have eq := specSquare_ev x (by omega); rw [fB.2 q1] at eq; exact Ev.bind eq (Ev.if_neg (by simp) tail)
    have bn : ∀ b : Bool, (b != b) = false := fun b => by cases b <;> rfl
    refine Ev.bind hD1 (Ev.bind iB (Ev.bind sB (Ev.bind iK (Ev.bind iI (Ev.if_neg (by simp) (Ev.bind ex (Ev.if_pos rfl (Ev.bind sK (Ev.if_neg (by simp) ?_))))))))); refine Ev.ite (fun q1 => ?_) (fun q1 => ?_)
    · refine Ev.if_neg (by rw [fK q1]; simp) (Ev.bind sI ?_); rw [bn fr]; exact j0
    · refine Ev.bind sI ?_; rw [bn fr]; exact j0
  obtain ⟨k, hk⟩ := main.rounds; exact ⟨k, hk⟩
end Go.Proofs.Ytooamcjgejajeaa.M
/- FnFree: the plain law of the statement, out of what program and reference come to. No condition. -/
namespace Go.Proofs.Ytooamcjgejajeaa.Pure
open Go.RowKit Go.Proofs.Ytooamcjgejajeaa.M Go.Proofs.YtooamcjgejajeaaW.PrintWords Go.Proofs.YtooamcjgejajeaaW.PrintLast
theorem FnFree : laws_FnFree.Pure := lawFree
end Go.Proofs.Ytooamcjgejajeaa.Pure
