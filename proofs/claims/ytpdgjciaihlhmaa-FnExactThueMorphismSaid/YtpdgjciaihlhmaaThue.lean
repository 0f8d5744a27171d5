/- The morphism of Thue and one of three letters, as program and reference lay them out: rows apart from each other. No condition. -/
import Derived.Test.YtpdgjciaihlhmaaM5
import Derived.Test.YtpdgjciaihlhmaaM6
import Derived.Test.YtpdgjciaihlhmaaM17
import Derived.Test.YtpdgjciaihlhmaaM18
import Derived.Test.YtpdgjciaihlhmaaM0
import Derived.Test.YtpdgjciaihlhmaaLitSS
namespace Go.Proofs.Ytpdgjciaihlhmaa.M
open Go.RowKit Go.Proofs.YtpdgjciaihlhmaaW.PrintWords Go.Proofs.YtpdgjciaihlhmaaW.PrintLast Go.Proofs.YtpdgjciaihlhmaaW.PrintMore Go.Proofs.Ytpdgjciaihlhmaa.LK
theorem blk_at {w : World} {o : Obj} {n : Nat} (h : n = w.heap.size) : (w.alloc o).heap[n]? = some o := h ▸ blk_new w o
set_option maxHeartbeats 2000000 in
set_option maxRecDepth 100000 in
theorem spec_ThueMorphism.callsS (r : List (List Int)) (w : World) (h : spec_ThueMorphism.f = some r) :
    Calls Try.prog 17 #[] w fun e w' => ∃ v0_ : Value, e = .returned (.agg #[v0_]) ∧ Kd.S (Kd.slice 3 (Kd.int .i64)) 31 w' w.heap.size (fun _ => True) v0_ r ∧ Below w.heap.size w w' := by
  obtain rfl := Option.some.inj h
  clear h
  have hu := Try.underlying26
  go_enter Try.func17, Try.ntmps17
  go_wp2
  clear hu
  refine bodyPost_ret (v := .agg #[.slice (some ⟨w.heap.size + 1 + 1 + 1, 0, none⟩) 2 2]) (by simp [results, Try.results17, go_sem]) rfl ⟨_, rfl, ?_, ?_⟩
  · refine S_rows_of (b0 := w.heap.size + 1) (rows := [[0, 1], [1, 0]]) (cur := #[.slice (some ⟨w.heap.size + 1, 0, none⟩) 2 2, .slice (some ⟨w.heap.size + 1 + 1, 0, none⟩) 2 2]) (blk_at (by simp)) ?_ rfl (by omega) (by simp only [maxLen, List.length_cons, List.length_nil]; omega) ?_
    · intro i x hx
      rcases i with _ | _ | i
      · simp at hx; subst hx; rfl
      · simp at hx; subst hx; rfl
      · simp at hx
    · intro i x hx
      rcases i with _ | _ | i
      · simp at hx; subst hx; exact ⟨⟨_, (blk_alloc (blk_alloc (blk_at (by simp)) _) _), rfl⟩, by omega, by omega, by simp only [maxLen, List.length_cons, List.length_nil]; omega⟩
      · simp at hx; subst hx; exact ⟨⟨_, (blk_alloc (blk_at (by simp)) _), rfl⟩, by omega, by omega, by simp only [maxLen, List.length_cons, List.length_nil]; omega⟩
      · simp at hx
  · exact (below_alloc (below_alloc (below_alloc (below_alloc (Below.refl _ _) _) _) _) _)
set_option maxHeartbeats 2000000 in
set_option maxRecDepth 100000 in
theorem impl_ThueMorphism.callsS (r : List (List Int)) (w : World) (h : impl_ThueMorphism.f = some r) :
    Calls Try.prog 18 #[] w fun e w' => ∃ v0_ : Value, e = .returned (.agg #[v0_]) ∧ Kd.S (Kd.slice 3 (Kd.int .i64)) 31 w' w.heap.size (fun _ => True) v0_ r ∧ Below w.heap.size w w' := by
  obtain rfl := Option.some.inj h
  clear h
  have hu := Try.underlying26
  go_enter Try.func18, Try.ntmps18
  go_wp2
  clear hu
  refine bodyPost_ret (v := .agg #[.slice (some ⟨w.heap.size + 1 + 1 + 1, 0, none⟩) 2 2]) (by simp [results, Try.results18, go_sem]) rfl ⟨_, rfl, ?_, ?_⟩
  · refine S_rows_of (b0 := w.heap.size + 1) (rows := [[0, 1], [1, 0]]) (cur := #[.slice (some ⟨w.heap.size + 1, 0, none⟩) 2 2, .slice (some ⟨w.heap.size + 1 + 1, 0, none⟩) 2 2]) (blk_at (by simp)) ?_ rfl (by omega) (by simp only [maxLen, List.length_cons, List.length_nil]; omega) ?_
    · intro i x hx
      rcases i with _ | _ | i
      · simp at hx; subst hx; rfl
      · simp at hx; subst hx; rfl
      · simp at hx
    · intro i x hx
      rcases i with _ | _ | i
      · simp at hx; subst hx; exact ⟨⟨_, (blk_alloc (blk_alloc (blk_at (by simp)) _) _), rfl⟩, by omega, by omega, by simp only [maxLen, List.length_cons, List.length_nil]; omega⟩
      · simp at hx; subst hx; exact ⟨⟨_, (blk_alloc (blk_at (by simp)) _), rfl⟩, by omega, by omega, by simp only [maxLen, List.length_cons, List.length_nil]; omega⟩
      · simp at hx
  · exact (below_alloc (below_alloc (below_alloc (below_alloc (Below.refl _ _) _) _) _) _)
set_option maxHeartbeats 2000000 in
set_option maxRecDepth 100000 in
theorem spec_TernaryMorphism.callsS (r : List (List Int)) (w : World) (h : spec_TernaryMorphism.f = some r) :
    Calls Try.prog 22 #[] w fun e w' => ∃ v0_ : Value, e = .returned (.agg #[v0_]) ∧ Kd.S (Kd.slice 3 (Kd.int .i64)) 31 w' w.heap.size (fun _ => True) v0_ r ∧ Below w.heap.size w w' := by
  obtain rfl := Option.some.inj h
  clear h
  have hu := Try.underlying26
  go_enter Try.func22, Try.ntmps22
  go_wp2
  clear hu
  refine bodyPost_ret (v := .agg #[.slice (some ⟨w.heap.size + 1 + 1 + 1 + 1, 0, none⟩) 3 3]) (by simp [results, Try.results22, go_sem]) rfl ⟨_, rfl, ?_, ?_⟩
  · refine S_rows_of (b0 := w.heap.size + 1) (rows := [[0, 1, 2], [0, 2], [1]]) (cur := #[.slice (some ⟨w.heap.size + 1, 0, none⟩) 3 3, .slice (some ⟨w.heap.size + 1 + 1, 0, none⟩) 2 2, .slice (some ⟨w.heap.size + 1 + 1 + 1, 0, none⟩) 1 1]) (blk_at (by simp)) ?_ rfl (by omega) (by simp only [maxLen, List.length_cons, List.length_nil]; omega) ?_
    · intro i x hx
      rcases i with _ | _ | _ | i
      · simp at hx; subst hx; rfl
      · simp at hx; subst hx; rfl
      · simp at hx; subst hx; rfl
      · simp at hx
    · intro i x hx
      rcases i with _ | _ | _ | i
      · simp at hx; subst hx; exact ⟨⟨_, (blk_alloc (blk_alloc (blk_alloc (blk_at (by simp)) _) _) _), rfl⟩, by omega, by omega, by simp only [maxLen, List.length_cons, List.length_nil]; omega⟩
      · simp at hx; subst hx; exact ⟨⟨_, (blk_alloc (blk_alloc (blk_at (by simp)) _) _), rfl⟩, by omega, by omega, by simp only [maxLen, List.length_cons, List.length_nil]; omega⟩
      · simp at hx; subst hx; exact ⟨⟨_, (blk_alloc (blk_at (by simp)) _), rfl⟩, by omega, by omega, by simp only [maxLen, List.length_cons, List.length_nil]; omega⟩
      · simp at hx
  · exact (below_alloc (below_alloc (below_alloc (below_alloc (below_alloc (Below.refl _ _) _) _) _) _) _)
set_option maxHeartbeats 2000000 in
set_option maxRecDepth 100000 in
theorem impl_TernaryMorphism.callsS (r : List (List Int)) (w : World) (h : impl_TernaryMorphism.f = some r) :
    Calls Try.prog 23 #[] w fun e w' => ∃ v0_ : Value, e = .returned (.agg #[v0_]) ∧ Kd.S (Kd.slice 3 (Kd.int .i64)) 31 w' w.heap.size (fun _ => True) v0_ r ∧ Below w.heap.size w w' := by
  obtain rfl := Option.some.inj h
  clear h
  have hu := Try.underlying26
  go_enter Try.func23, Try.ntmps23
  go_wp2
  clear hu
  refine bodyPost_ret (v := .agg #[.slice (some ⟨w.heap.size + 1 + 1 + 1 + 1, 0, none⟩) 3 3]) (by simp [results, Try.results23, go_sem]) rfl ⟨_, rfl, ?_, ?_⟩
  · refine S_rows_of (b0 := w.heap.size + 1) (rows := [[0, 1, 2], [0, 2], [1]]) (cur := #[.slice (some ⟨w.heap.size + 1, 0, none⟩) 3 3, .slice (some ⟨w.heap.size + 1 + 1, 0, none⟩) 2 2, .slice (some ⟨w.heap.size + 1 + 1 + 1, 0, none⟩) 1 1]) (blk_at (by simp)) ?_ rfl (by omega) (by simp only [maxLen, List.length_cons, List.length_nil]; omega) ?_
    · intro i x hx
      rcases i with _ | _ | _ | i
      · simp at hx; subst hx; rfl
      · simp at hx; subst hx; rfl
      · simp at hx; subst hx; rfl
      · simp at hx
    · intro i x hx
      rcases i with _ | _ | _ | i
      · simp at hx; subst hx; exact ⟨⟨_, (blk_alloc (blk_alloc (blk_alloc (blk_at (by simp)) _) _) _), rfl⟩, by omega, by omega, by simp only [maxLen, List.length_cons, List.length_nil]; omega⟩
      · simp at hx; subst hx; exact ⟨⟨_, (blk_alloc (blk_alloc (blk_at (by simp)) _) _), rfl⟩, by omega, by omega, by simp only [maxLen, List.length_cons, List.length_nil]; omega⟩
      · simp at hx; subst hx; exact ⟨⟨_, (blk_alloc (blk_at (by simp)) _), rfl⟩, by omega, by omega, by simp only [maxLen, List.length_cons, List.length_nil]; omega⟩
      · simp at hx
  · exact (below_alloc (below_alloc (below_alloc (below_alloc (below_alloc (Below.refl _ _) _) _) _) _) _)
end Go.Proofs.Ytpdgjciaihlhmaa.M
