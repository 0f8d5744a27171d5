/- Texts of the claim on FnFree, joined (part 2 of 6): walks of the functions, what they come to, and in the last part the row. No condition of mine. -/
import Derived.Test.YtooamcjgejajeaaBFnFree0
import Derived.Test.YtooamcjgejajeaaBFnFree1
namespace Go.Proofs.Ytooamcjgejajeaa.M
open Go.RowKit Go.Proofs.Ytooamcjgejajeaa.KW Go.Proofs.YtooamcjgejajeaaW.PrintWords Go.Proofs.YtooamcjgejajeaaW.PrintLast Go.Proofs.YtooamcjgejajeaaW.PrintMore
attribute [local go_sem] max2_int min2_int max_two min_two max_three min_three max_four min_four
set_option linter.unusedVariables false
set_option linter.unusedSimpArgs false
mutual
def impl_ApplyMorphism.j0 : Nat → List Int → Bool → List (List Int) → Option (List Int × Bool)
 | 0, _, _, _ => none
 | k + 1, x1, x19, x443000 => if x19 = true then (some ((([] : List Int)), false)) else (impl_ApplyMorphism.l0 k (([] : List Int)) x1 (x1.length : Int) 0 x443000)
def impl_ApplyMorphism.l0 : Nat → List Int → List Int → Int → Int → List (List Int) → Option (List Int × Bool)
 | 0, _, _, _, _, _ => none
 | k + 1, x6, x22, x23, x24, x443000 => if x24 < x23 then (if 0 ≤ x24 then (if x24 < (x22.length : Int) then (if 0 ≤ (rd x22 x24) then (if (rd x22 x24) < (x443000.length : Int) then (if x6.length + (rd_L1 x443000 (rd x22 x24)).length < 17592186044416 then (impl_ApplyMorphism.l0 k (x6 ++ (rd_L1 x443000 (rd x22 x24))) x22 x23 (wrap64 (x24 + 1)) x443000) else (none)) else (none)) else (none)) else (none)) else (none)) else (if (x6.length : Int) > 400 then (some ((([] : List Int)), false)) else (some (x6, true)))
end
def impl_ApplyMorphism.f (k : Nat) (l0_0 : List (List Int)) (l1 : List Int) : Option (List Int × Bool) := (impl_IsMorphism.f k l0_0).bind fun t443 => (if t443 = true then ((impl_IsWord.f k l1 (l0_0.length : Int)).bind fun t444 => (impl_ApplyMorphism.j0 k l1 (!t444) l0_0)) else (impl_ApplyMorphism.j0 k l1 true l0_0))
theorem impl_ApplyMorphism.mono_l : ∀ k, (∀ y0 y1 y2, LeO (impl_ApplyMorphism.j0 k y0 y1 y2) (impl_ApplyMorphism.j0 (k + 1) y0 y1 y2)) ∧ (∀ y0 y1 y2 y3 y4, LeO (impl_ApplyMorphism.l0 k y0 y1 y2 y3 y4) (impl_ApplyMorphism.l0 (k + 1) y0 y1 y2 y3 y4))
 | 0 => ⟨fun _ _ _ r h => by simp [impl_ApplyMorphism.j0] at h, fun _ _ _ _ _ r h => by simp [impl_ApplyMorphism.l0] at h⟩
 | k + 1 => by
  obtain ⟨ih0, ih1⟩ := impl_ApplyMorphism.mono_l k; refine ⟨?_, ?_⟩
  ·intro y0 y1 y2; unfold impl_ApplyMorphism.j0
   repeat' first
   | (with_reducible exact ih0 _ _ _)
   | (with_reducible exact ih1 _ _ _ _ _)
   | (with_reducible exact impl_IsMorphism.mono _ _)
   | (with_reducible exact impl_IsWord.mono _ _ _)
   | (with_reducible exact LeO.refl _)
   | (with_reducible exact LeO.none _)
   | (with_reducible refine LeO.ite ?_ ?_)
   | (with_reducible refine LeO.bind ?_ (fun _ => ?_))
  ·intro y0 y1 y2 y3 y4; unfold impl_ApplyMorphism.l0
   repeat' first
   | (with_reducible exact ih0 _ _ _)
   | (with_reducible exact ih1 _ _ _ _ _)
   | (with_reducible exact impl_IsMorphism.mono _ _)
   | (with_reducible exact impl_IsWord.mono _ _ _)
   | (with_reducible exact LeO.refl _)
   | (with_reducible exact LeO.none _)
   | (with_reducible refine LeO.ite ?_ ?_)
   | (with_reducible refine LeO.bind ?_ (fun _ => ?_))
theorem impl_ApplyMorphism.mono : ∀ a0 a1 k, LeO (impl_ApplyMorphism.f k a0 a1) (impl_ApplyMorphism.f (k + 1) a0 a1) := by
 intro a0 a1 k; obtain ⟨ih0, ih1⟩ := impl_ApplyMorphism.mono_l k; unfold impl_ApplyMorphism.f
 repeat' first
   | (with_reducible exact ih0 _ _ _)
   | (with_reducible exact ih1 _ _ _ _ _)
   | (with_reducible exact impl_IsMorphism.mono _ _)
   | (with_reducible exact impl_IsWord.mono _ _ _)
   | (with_reducible exact LeO.refl _)
   | (with_reducible exact LeO.none _)
   | (with_reducible refine LeO.ite ?_ ?_)
   | (with_reducible refine LeO.bind ?_ (fun _ => ?_))
set_option maxHeartbeats 8000000 in
set_option maxRecDepth 100000 in
theorem impl_ApplyMorphism.calls (k : Nat) (A0_0 : Option Addr) (c0_0 : Nat) (l0_0 : List (List Int)) (A1 : Option Addr) (c1 : Nat) (l1 : List Int) (r1 : List Int) (r2 : Bool) (w : World) (hr0_0 : Kd.C (Kd.slice 3 (Kd.int .i64)) w A0_0 l0_0.length l0_0) (hc0_0 : l0_0.length ≤ c0_0) (hr1 : Kd.C (Kd.int .i64) w A1 l1.length l1) (hc1 : l1.length ≤ c1) (h : impl_ApplyMorphism.f k l0_0 l1 = some (r1, r2)) :
  Calls Try.prog 100 #[.agg #[.slice A0_0 l0_0.length c0_0], .slice A1 l1.length c1] w fun e w' => ∃ v0_ : Value, e = .returned (.tuple #[v0_, .bool r2]) ∧ Kd.R (Kd.int .i64) 3 w' w.heap.size (fun _ => True) v0_ r1 ∧ Below w.heap.size w w' := by
 have hu28 := Try.underlying28; have HR0_0 := am hr0_0; have HC0_0 := am hc0_0; clear hr0_0 hc0_0; have HR1 := am hr1; have HC1 := am hc1; clear hr1 hc1; have HB := am (Below.refl w.heap.size w); have H : ((impl_IsMorphism.f k l0_0).bind fun t443 => (if t443 = true then ((impl_IsWord.f k l1 (l0_0.length : Int)).bind fun t444 => (impl_ApplyMorphism.j0 k l1 (!t444) l0_0)) else (impl_ApplyMorphism.j0 k l1 true l0_0))) = some (r1, r2) := h; clear h; have HC3 := am H; clear H; go_enter Try.func100, Try.ntmps100; go_upto_region 1 with (first | ((with_reducible refine gate_dst (N := 2) rfl ?_); (try (refine gate_guard (by rfl) ?_; dsimp only)); refine box_event ?hg (N := 2) ?hd (cs := #[.slice A0_0 l0_0.length c0_0]) (t := 28) ?hr ?_; (case hd => rfl); (case hg => rfl); (case hr => first | (go_simp; done) | (go_simp; rfl)); intro gb442 hg w4 hbox hb; have BK442 := am (hbox); have GW442 := am ((by rw [hg]; exact (below_size (by exact rB HB)) : w.heap.size ≤ gb442)); have GE442 := am ((by rw [hg]; exact (below_size (by exact rB HB)) : w.heap.size ≤ gb442)); replace HB := am (below_step (by exact rB HB) hb); have qW442 := Ge.mk GW442.out; have qE442 := Ge.mk GE442.out; clear hb hbox hg)); (try simp only [Act.put, qa, qz, qs]); go_cut [19] (fun v19 wc => ∃ (kq : Nat) (x19_2 : Bool), v19 = .bool x19_2 ∧ Aside0 (impl_ApplyMorphism.j0 kq l1 x19_2 l0_0 = some (r1, r2)) ∧ Aside0 (kq ≤ k) ∧ Aside0 (wc.heap[gb442]? = some (.cells #[(.slice A0_0 l0_0.length c0_0)] 28 (0, 0))) ∧ Aside0 (Below w.heap.size w wc))
 case first =>
  have H := HC3.out; clear HC3; replace H := Option.bind_eq_some_iff.mp H; obtain ⟨t443, A50, H⟩ := H; replace H : (if t443 = true then ((impl_IsWord.f k l1 (l0_0.length : Int)).bind fun t444 => (impl_ApplyMorphism.j0 k l1 (!t444) l0_0)) else (impl_ApplyMorphism.j0 k l1 true l0_0)) = some (r1, r2) := H; have A5 := am A50; clear A50; by_cases c6 : t443 = true
  ·subst c6; have H1 : ((impl_IsWord.f k l1 (l0_0.length : Int)).bind fun t444 => (impl_ApplyMorphism.j0 k l1 (!t444) l0_0)) = some (r1, r2) := by rw [if_pos rfl] at H; exact H
   clear H; have H := H1; clear H1; replace H := Option.bind_eq_some_iff.mp H; obtain ⟨t444, A70, H⟩ := H; replace H : (impl_ApplyMorphism.j0 k l1 (!t444) l0_0) = some (r1, r2) := H; have A7 := am A70; clear A70; have H' := am H; clear H; have hcz8_0 : w4.cell? ⟨gb442, 0, none⟩ = some (.slice A0_0 l0_0.length c0_0) := (blk_cell BK442.out 0).trans rfl; have hfz8_0 := blk_frozen BK442.out 0; go_wp2_with (first | ((with_reducible refine gate_callee (f := 108) rfl ?_); refine goesL_ (some 10) rfl rfl Try.func108 (by kernel_rfl) rfl #[.agg #[.slice A0_0 l0_0.length c0_0]] rfl (by (try simp only [mT, mC, mN]); first | done | rfl) ?_; (with_reducible refine (impl_IsMorphism.calls k _ _ l0_0 true _ ?side1 ?side2 A5.out).mono ?_); (case side1 => exact xC ((Kd.C_below HR0_0.out HB.out))); (case side2 => exact HC0_0.out); rintro e w9 ⟨rfl, hb⟩; refine ⟨_, rfl, ?_⟩; replace BK442 := am (blk_below (g := gb442) (o := .cells #[.slice A0_0 l0_0.length c0_0] 28 (0, 0)) (by exact rX BK442) hb); replace HB := am (below_step (by exact rB HB) hb); clear hb; have hcz10_0 : w9.cell? ⟨gb442, 0, none⟩ = some (.slice A0_0 l0_0.length c0_0) := (blk_cell BK442.out 0).trans rfl; have hfz10_0 := blk_frozen BK442.out 0) | (go_at_call 155; (with_reducible refine (impl_IsWord.calls k _ _ l1 (l0_0.length : Int) t444 _ ?side1 ?side2 A7.out).mono ?_); (case side1 => exact xC ((Kd.C_below HR1.out HB.out))); (case side2 => exact HC1.out); rintro e w' ⟨rfl, ⟨nd, rfl⟩⟩)); go_meet
   case rel => exact ⟨_, (!t444), (by first | rfl | (simp; done) | (simp [*]; done)), H', ⟨by first | omega | exact Nat.le_refl _⟩, ⟨by exact rX BK442⟩, ⟨by exact rB HB⟩⟩
  ·replace c6 := Bool.eq_false_iff.mpr c6; subst c6; have H1 : (impl_ApplyMorphism.j0 k l1 true l0_0) = some (r1, r2) := by rw [if_neg (show ¬ (false = true) by decide)] at H; exact H
   clear H; have H := H1; clear H1; have H' := am H; clear H; have hcz11_0 : w4.cell? ⟨gb442, 0, none⟩ = some (.slice A0_0 l0_0.length c0_0) := (blk_cell BK442.out 0).trans rfl; have hfz11_0 := blk_frozen BK442.out 0; go_wp2_with (first | ((with_reducible refine gate_callee (f := 108) rfl ?_); refine goesL_ (some 10) rfl rfl Try.func108 (by kernel_rfl) rfl #[.agg #[.slice A0_0 l0_0.length c0_0]] rfl (by (try simp only [mT, mC, mN]); first | done | rfl) ?_; (with_reducible refine (impl_IsMorphism.calls k _ _ l0_0 false _ ?side1 ?side2 A5.out).mono ?_); (case side1 => exact xC ((Kd.C_below HR0_0.out HB.out))); (case side2 => exact HC0_0.out); rintro e w12 ⟨rfl, hb⟩; refine ⟨_, rfl, ?_⟩; replace BK442 := am (blk_below (g := gb442) (o := .cells #[.slice A0_0 l0_0.length c0_0] 28 (0, 0)) (by exact rX BK442) hb); replace HB := am (below_step (by exact rB HB) hb); clear hb)); go_meet
   case rel => exact ⟨_, (true), (by first | rfl | (simp; done) | (simp [*]; done)), H', ⟨by first | omega | exact Nat.le_refl _⟩, ⟨by exact rX BK442⟩, ⟨by exact rB HB⟩⟩
 case rest =>
  clear HC3
  try clear c1
  try clear p2
  try clear c6
  try clear c10
  try clear hcz10_0
  try clear hcz11_0
  try clear hcz8_0
  try clear hfz10_0
  try clear hfz11_0
  try clear hfz8_0
  obtain ⟨kq, x19_2, rfl, HA, HJ2, BK442, HB⟩ := hcut; cases kq with
  | zero => exact absurd HA.out (by simp [impl_ApplyMorphism.j0])
  | succ kj2 =>
   have H := HA.out; clear HA; simp only [impl_ApplyMorphism.j0] at H; by_cases c13 : x19_2 = true
   ·subst c13; have H1 : (some ((([] : List Int)), false)) = some (r1, r2) := by rw [if_pos rfl] at H; exact H
    clear H; have H := H1; clear H1; obtain ⟨y445, hy445⟩ : ∃ y_ : List Int, y_ = (([] : List Int)) := ⟨_, rfl⟩; replace H : (some (y445, false)) = some (r1, r2) := by rw [hy445]; first | exact H | exact (Option.bind_some _ _).symm.trans H
    have Ny445 := am hy445; clear hy445; simp only [Option.some.injEq, Prod.mk.injEq] at H; obtain ⟨rfl, rfl⟩ := H; go_wp2_with (first | ((with_reducible refine gate_dst (N := 20) rfl ?_); (try (refine gate_guard (by rfl) ?_; dsimp only)); refine Kd.R_lit (Kd.int .i64) _ 3 ?hg (N := 20) ?hd (xs := ([] : List Int)) (inner := []) (ok := fun _ => True) (okp := fun _ => True) ?hr ?hp (fun _ hk => hk) trivial (Below.refl _ _) (Nat.le_refl _) (by simp) ?_; (case hd => rfl); (case hg => rfl); (case hr => first | (go_simp; done) | (go_simp; rfl)); (case hp => exact (Reps.none _ _)); intro v446 w14 ho15 hb hg_ hnew_; clear hg_ hnew_; (first | rw [← Ny445.out] at ho15 | (simp only [Int.reduceToNat] at ho15; rw [← Ny445.out] at ho15)); have HO447 := am (Kd.R_lower ho15 (below_size (by exact rB HB))); replace BK442 := am (blk_below (g := gb442) (o := .cells #[.slice A0_0 l0_0.length c0_0] 28 (0, 0)) (by exact rX BK442) hb); replace HB := am (below_step (by exact rB HB) hb); clear hb ho15)); go_ret2; exact ⟨_, by first | rfl | (simp [errW_none, errW_some] <;> rfl) | (simp [*, errW_none, errW_some] <;> rfl), by exact rR HO447, by exact rB HB⟩
   ·replace c13 := Bool.eq_false_iff.mpr c13; subst c13; have H1 : (impl_ApplyMorphism.l0 kj2 (([] : List Int)) l1 (l1.length : Int) 0 l0_0) = some (r1, r2) := by rw [if_neg (show ¬ (false = true) by decide)] at H; exact H
    clear H; have H := H1; clear H1; obtain ⟨y448, hy448⟩ : ∃ y_ : List Int, y_ = (([] : List Int)) := ⟨_, rfl⟩; replace H : (impl_ApplyMorphism.l0 kj2 y448 l1 (l1.length : Int) 0 l0_0) = some (r1, r2) := by rw [hy448]; first | exact H | exact (Option.bind_some _ _).symm.trans H
    have Ny448 := am hy448; clear hy448; have H' := am H; clear H; go_wp2_with (first | ((with_reducible refine gate_dst (N := 21) rfl ?_); (try (refine gate_guard (by rfl) ?_; dsimp only)); refine Kd.R_lit (Kd.int .i64) _ 3 ?hg (N := 21) ?hd (xs := ([] : List Int)) (inner := []) (ok := fun _ => True) (okp := fun _ => True) ?hr ?hp (fun _ hk => hk) trivial (Below.refl _ _) (Nat.le_refl _) (by simp) ?_; (case hd => rfl); (case hg => rfl); (case hr => first | (go_simp; done) | (go_simp; rfl)); (case hp => exact (Reps.none _ _)); intro v449 w16 ho17 hb hg_ hnew_; clear hg_ hnew_; (first | rw [← Ny448.out] at ho17 | (simp only [Int.reduceToNat] at ho17; rw [← Ny448.out] at ho17)); have HO450 := am (Kd.R_lower ho17 (below_size (by exact rB HB))); replace BK442 := am (blk_below (g := gb442) (o := .cells #[.slice A0_0 l0_0.length c0_0] 28 (0, 0)) (by exact rX BK442) hb); replace HB := am (below_step (by exact rB HB) hb); clear hb ho17)); go_loopg [6, 24] kj2 (fun kq v6 v24 w' => ∃ (x6_2 : List Int) (x24_2 : Int), v24 = .int .i64 x24_2 ∧ Aside0 (impl_ApplyMorphism.l0 kq x6_2 l1 (l1.length : Int) x24_2 l0_0 = some (r1, r2)) ∧ Aside0 (kq ≤ kj2) ∧ Aside0 (Kd.R (Kd.int .i64) 3 w' w.heap.size (fun _ => True) v6 x6_2) ∧ Aside0 (w'.heap[gb442]? = some (.cells #[(.slice A0_0 l0_0.length c0_0)] 28 (0, 0))) ∧ Aside0 (Below w.heap.size w w'))
    case atStart => exact ⟨(y448), (0), (by first | rfl | (simp; done) | (simp [*]; done)), H', ⟨Nat.le_refl _⟩, ⟨by exact rR HO450⟩, ⟨by exact rX BK442⟩, ⟨by exact rB HB⟩⟩
    case round =>
     clear H'
     try clear c1
     try clear p2
     try clear c6
     try clear c10
     try clear c13
     try clear hcz10_0
     try clear hcz11_0
     try clear hcz8_0
     try clear hfz10_0
     try clear hfz11_0
     try clear hfz8_0
     try clear p2
     obtain ⟨x6_2, x24_2, rfl, HA, HK2, HO_6, BK442, HB⟩ := hrel; cases gk with
     | zero => exact absurd HA.out (by simp [impl_ApplyMorphism.l0])
     | succ k2 =>
      have H := HA.out; clear HA; simp only [impl_ApplyMorphism.l0] at H; by_cases c18 : x24_2 < (l1.length : Int)
      ·rw [if_pos c18] at H; have c18b0 : decide (x24_2 < (l1.length : Int)) = true := decide_eq_true c18; clear c18; by_cases c19 : 0 ≤ x24_2
       ·rw [if_pos c19] at H; have c19b0 : decide (0 ≤ x24_2) = true := decide_eq_true c19; clear c19; by_cases c20 : x24_2 < (l1.length : Int)
        ·rw [if_pos c20] at H; have c20b0 : decide (x24_2 < (l1.length : Int)) = true := decide_eq_true c20; clear c20; by_cases c21 : 0 ≤ (rd l1 x24_2)
         ·rw [if_pos c21] at H; have c21b0 : decide (0 ≤ (rd l1 x24_2)) = true := decide_eq_true c21; clear c21; by_cases c22 : (rd l1 x24_2) < (l0_0.length : Int)
          ·rw [if_pos c22] at H; have c22b0 : decide ((rd l1 x24_2) < (l0_0.length : Int)) = true := decide_eq_true c22; clear c22; by_cases c23 : x6_2.length + (rd_L1 l0_0 (rd l1 x24_2)).length < 17592186044416
           ·rw [if_pos c23] at H; have LMc23 := am c23; clear c23; obtain ⟨y453, hy453⟩ : ∃ y_ : List Int, y_ = (x6_2 ++ (rd_L1 l0_0 (rd l1 x24_2))) := ⟨_, rfl⟩; replace H : (impl_ApplyMorphism.l0 k2 y453 l1 (l1.length : Int) (wrap64 (x24_2 + 1)) l0_0) = some (r1, r2) := by rw [hy453]; first | exact H | exact (Option.bind_some _ _).symm.trans H
            have Ny453 := am hy453; clear hy453; have H' := am H; clear H; have p451 : 0 ≤ (x24_2 : Int) := of_decide_eq_true (by first | (with_reducible assumption) | assumption); have q451 : x24_2 < (l1.length : Int) := of_decide_eq_true (by first | (with_reducible assumption) | assumption); obtain ⟨ad451, e451, hx451_0⟩ := Kd.at_int HR1.out x24_2 p451 q451; cases e451; replace hx451_0 := (HB.out.cell (World.block_lt_of_cell? w _ hx451_0)).trans hx451_0; replace p451 := eq_true p451; replace q451 := eq_true q451; have hcz24_0 : wr.cell? ⟨gb442, 0, none⟩ = some (.slice A0_0 l0_0.length c0_0) := (blk_cell BK442.out 0).trans rfl; have hfz24_0 := blk_frozen BK442.out 0; have p452 : 0 ≤ ((rd l1 x24_2) : Int) := of_decide_eq_true (by first | (with_reducible assumption) | assumption); have q452 : (rd l1 x24_2) < (l0_0.length : Int) := of_decide_eq_true (by first | (with_reducible assumption) | assumption); obtain ⟨ad452, A452_0, c452_0, e452, hx452_0, hl452_0, hi452_0⟩ := at_L1 HR0_0.out (rd l1 x24_2) p452 q452; cases e452; replace hx452_0 := (HB.out.cell (World.block_lt_of_cell? w _ hx452_0)).trans hx452_0; have HR452_0 := am hi452_0; have HC452_0 := am hl452_0; clear hi452_0 hl452_0; replace p452 := eq_true p452; replace q452 := eq_true q452; go_wp2_with (first | ((with_reducible refine gate_builtin (b := .append) (xs := #[.tmp 28, .tmp 33]) rfl ?_); (try (refine gate_guard (by rfl) ?_; dsimp only)); at_builtin; refine Kd.R_append_rows (Kd.int .i64) (w0 := w) w.heap.size rfl (.tmp 28) (.tmp 33) 36 3 (.int .i64 0) 8 rfl Try.underlying36 info3 rfl (by decide) (by omega) u6 x6_2 (rd_L1 l0_0 (rd l1 x24_2)) _ _ _ (fun _ => True) (fun _ => False) rfl rfl ?aO ?aR (fun _ _ h => h) (fun _ h => h.elim) ?aF ?aB ?aS ?aL ?_; (case aR => exact xC ((Kd.C_below HR452_0.out HB.out))); (case aB => exact (by exact rB HB)); (case aF => exact (fun _ _ => trivial)); (case aO => exact (by exact rR HO_6)); (case aS => exact (below_size (by exact rB HB))); (case aL => have := LMc23.out; omega); intro v454 w25 ho hb hg hat; rw [← Ny453.out] at ho; replace BK442 := am (blk_grown (g := gb442) (o := .cells #[.slice (some ad452) l0_0.length c0_0] 28 (0, 0)) (by exact rX BK442) hg (Kd.R_ne HO_6.out BK442.out (by decide))); replace HB := am (hb); have HO455 := am (ho); clear HO_6; clear ho hb hg hat)); go_roundg k2
            case measure => have := HJ2.out; have := HK2.out; omega
            case rel => exact ⟨(y453), (wrap64 (x24_2 + 1)), (by first | rfl | (simp; done) | (simp [*]; done)), H', ⟨by have := HJ2.out; have := HK2.out; omega⟩, ⟨by exact rR HO455⟩, ⟨by exact rX BK442⟩, ⟨by exact rB HB⟩⟩
           ·rw [if_neg c23] at H; exact absurd H (by simp)
          ·rw [if_neg c22] at H; exact absurd H (by simp)
         ·rw [if_neg c21] at H; exact absurd H (by simp)
        ·rw [if_neg c20] at H; exact absurd H (by simp)
       ·rw [if_neg c19] at H; exact absurd H (by simp)
      ·rw [if_neg c18] at H; have c18b0 : decide (x24_2 < (l1.length : Int)) = false := decide_eq_false c18; clear c18; by_cases c26 : (x6_2.length : Int) > 400
       ·rw [if_pos c26] at H; have c26b0 : decide (400 < (x6_2.length : Int)) = true := decide_eq_true c26; have c26b1 : decide (400 < x6_2.length) = true := decide_eq_true (by omega); clear c26; obtain ⟨y456, hy456⟩ : ∃ y_ : List Int, y_ = (([] : List Int)) := ⟨_, rfl⟩; replace H : (some (y456, false)) = some (r1, r2) := by rw [hy456]; first | exact H | exact (Option.bind_some _ _).symm.trans H
        have Ny456 := am hy456; clear hy456; simp only [Option.some.injEq, Prod.mk.injEq] at H; obtain ⟨rfl, rfl⟩ := H; obtain ⟨Ao27, co27, eo27⟩ := Kd.R_slice HO_6.out; subst eo27; go_wp2_with (first | ((with_reducible refine gate_dst (N := 39) rfl ?_); (try (refine gate_guard (by rfl) ?_; dsimp only)); refine Kd.R_lit (Kd.int .i64) _ 3 ?hg (N := 39) ?hd (xs := ([] : List Int)) (inner := []) (ok := fun _ => True) (okp := fun _ => True) ?hr ?hp (fun _ hk => hk) trivial (Below.refl _ _) (Nat.le_refl _) (by simp) ?_; (case hd => rfl); (case hg => rfl); (case hr => first | (go_simp; done) | (go_simp; rfl)); (case hp => exact (Reps.none _ _)); intro v457 w28 ho29 hb hg_ hnew_; clear hg_ hnew_; (first | rw [← Ny456.out] at ho29 | (simp only [Int.reduceToNat] at ho29; rw [← Ny456.out] at ho29)); have HO458 := am (Kd.R_lower (Kd.R_new' ho29 (Kd.R_lt (by exact rR HO_6))) (below_size (by exact rB HB))); replace HO_6 := am (Kd.R_elder' (by exact rR HO_6) (Kd.R_base ho29) hb); replace BK442 := am (blk_below (g := gb442) (o := .cells #[.slice A0_0 l0_0.length c0_0] 28 (0, 0)) (by exact rX BK442) hb); replace HB := am (below_step (by exact rB HB) hb); clear hb ho29)); go_ret2; exact ⟨_, by first | rfl | (simp [errW_none, errW_some] <;> rfl) | (simp [*, errW_none, errW_some] <;> rfl), by exact xR (Kd.R_mono HO458.out (fun _ hk => trivial)), by exact rB HB⟩
       ·rw [if_neg c26] at H; have c26b0 : decide (400 < (x6_2.length : Int)) = false := decide_eq_false c26; have c26b1 : decide (400 < x6_2.length) = false := decide_eq_false (by omega); clear c26; simp only [Option.some.injEq, Prod.mk.injEq] at H; obtain ⟨rfl, rfl⟩ := H; obtain ⟨Ao30, co30, eo30⟩ := Kd.R_slice HO_6.out; subst eo30; go_wp2; go_ret2; exact ⟨_, by first | rfl | (simp [errW_none, errW_some] <;> rfl) | (simp [*, errW_none, errW_some] <;> rfl), by exact rR HO_6, by exact rB HB⟩
end Go.Proofs.Ytooamcjgejajeaa.M
/- freeWords of the program, walked for any test of words: the words of a length whose beginnings all pass the test, in rows that share no memory. Conditions: the test is a function value that only reads the word, and there is room. -/
namespace Go.Proofs.Ytooamcjgejajeaa.M
open Go.RowKit Go.Proofs.YtooamcjgejajeaaW.PrintWords Go.Proofs.YtooamcjgejajeaaW.PrintLast Go.Proofs.YtooamcjgejajeaaW.PrintMore Go.Proofs.Ytooamcjgejajeaa.K Go.Proofs.Ytooamcjgejajeaa.KW
set_option linter.unusedVariables false
set_option linter.unusedSimpArgs false
/-- A word, longer by each letter below m, where the test lets it. -/
def ext (p : List Int → Bool) (word : List Int) (x : Nat) : List (List Int) := ((List.range x).map fun (a : Nat) => word ++ [(a : Int)]).filter p
def fwStep (m : Nat) (p : List Int → Bool) (ws : List (List Int)) : List (List Int) := ws.flatMap fun word => ext p word m
def fw (m : Nat) (p : List Int → Bool) : Nat → List (List Int)
  | 0 => [[]]
  | n + 1 => fwStep m p (fw m p n)
theorem ext_succ (p : List Int → Bool) (word : List Int) (x : Nat) : ext p word (x + 1) = ext p word x ++ (if p (word ++ [(x : Int)]) = true then [word ++ [(x : Int)]] else []) := by
  unfold ext; rw [List.range_succ, List.map_append, List.filter_append]; by_cases h : p (word ++ [(x : Int)]) = true <;> simp [h]
theorem ext_le (p : List Int → Bool) (word : List Int) (x : Nat) : (ext p word x).length ≤ x := by
  unfold ext; refine Nat.le_trans (List.length_filter_le _ _) ?_; simp
theorem fwStep_le (m : Nat) (p : List Int → Bool) (ws : List (List Int)) : (fwStep m p ws).length ≤ m * ws.length := by
  induction ws with
  | nil => simp [fwStep]
  | cons w ws ih =>
    have := ext_le p w m; simp only [fwStep, List.flatMap_cons, List.length_append, List.length_cons] at ih ⊢; rw [Nat.mul_add]; omega
theorem fwStep_take (m : Nat) (p : List Int → Bool) (ws : List (List Int)) (i : Nat) (h : i < ws.length) : fwStep m p (ws.take (i + 1)) = fwStep m p (ws.take i) ++ ext p ws[i] m := by
  unfold fwStep; rw [take_succ ws i h, List.flatMap_append]; simp
theorem fw_le (m : Nat) (p : List Int → Bool) (n : Nat) : (fw m p n).length ≤ m ^ n := by
  induction n with
  | zero => simp [fw]
  | succ n ih => unfold fw; refine Nat.le_trans (fwStep_le m p _) ?_; rw [Nat.pow_succ, Nat.mul_comm]; exact Nat.mul_le_mul_right _ ih
theorem ext_len (p : List Int → Bool) (word : List Int) (x : Nat) : ∀ u ∈ ext p word x, u.length = word.length + 1 := by
  intro u hu; unfold ext at hu; obtain ⟨a, _, rfl⟩ := List.mem_map.1 (List.mem_filter.1 hu).1; simp
theorem fw_len (m : Nat) (p : List Int → Bool) (n : Nat) : ∀ u ∈ fw m p n, u.length = n := by
  induction n with
  | zero => intro u hu; simp [fw] at hu; subst hu; rfl
  | succ n ih =>
    intro u hu; unfold fw fwStep at hu; obtain ⟨word, hw, hu⟩ := List.mem_flatMap.1 hu; rw [ext_len p word m u hu, ih word hw]
/-- The rows collected so far, all made since Wm. -/
def MidRel (Wm : World) (acc : List (List Int)) (v : Value) (wr : World) : Prop :=
  Kd.S (Kd.slice 3 (Kd.int .i64)) 36 wr Wm.heap.size (fun k => Wm.heap.size ≤ k) v acc ∧ Below Wm.heap.size Wm wr
set_option maxHeartbeats 4000000 in
set_option maxRecDepth 100000 in
theorem freeWords_calls (f : FuncId) (fn : Func) (cap : Array Value) (p : List Int → Bool) (m n : Nat) (w : World)
    (hf : Try.prog.funcs[f]? = some fn) (hname : (fn.name == "runtime.NumGoroutine") = false) (hbody : fn.body.isSome = true)
    (hm : m ≤ 1000) (hn : n ≤ 1000) (hroom : ∀ i, i ≤ n → m ^ i ≤ 1000000000000)
    (hp : ∀ (W : World) (A : Option Addr) (c : Nat) (xs : List Int), Below w.heap.size w W → Kd.C (Kd.int .i64) W A xs.length xs → xs.length ≤ c → xs.length ≤ n → Calls Try.prog f (#[.slice A xs.length c] ++ cap) W (fun e w' => e = .returned (.bool (p xs)) ∧ Below W.heap.size W w')) :
    Calls Try.prog 118 #[.int .i64 m, .int .i64 n, .func (.func f) #[] cap] w fun e w' => ∃ v0_ : Value, e = .returned v0_ ∧ Kd.S (Kd.slice 3 (Kd.int .i64)) 36 w' w.heap.size (fun _ => True) v0_ (fw m p n) ∧ Below w.heap.size w w' := by
  have HP := Aside0.mk hp; have HROOM := Aside0.mk hroom; have HF := Aside0.mk hf; clear hp hroom hf; go_enter Try.func118, Try.ntmps118; go_wp2_with ((with_reducible refine gate_dst (N := 13) rfl ?_); refine Aside0.out ?_); refine Aside0.mk ?_; refine Kd.R_lit (Kd.int .i64) _ 3 ?hg (N := 13) ?hd (xs := ([] : List Int)) (inner := []) (ok := fun _ => True) (okp := fun _ => True) ?hr ?hp (fun _ hk => hk) trivial (Below.refl _ _) (Nat.le_refl _) (by simp) ?_
  case hd => rfl
  case hg => rfl
  case hr => first | (go_simp; done) | (go_simp; rfl)
  case hp => exact (Reps.none _ _)
  intro v13 w1 ho1 hb1 _ _; obtain ⟨A13, c13, rfl⟩ := Kd.R_slice ho1; have HO1 := Aside0.mk ho1; have HB1 := Aside0.mk hb1; clear ho1 hb1; go_wp2_with ((with_reducible refine gate_dst (N := 14) rfl ?_); refine Aside0.out ?_); refine Aside0.mk ?_; refine Kd.S_lits (Kd.slice 3 (Kd.int .i64)) (w0 := w) w.heap.size 36 ?hg (N := 14) ?hd (xs := ([[]] : List (List Int))) (inner := [.slice A13 ([] : List Int).length c13]) (ok := fun _ => True) (fun j k => j = 0 ∧ some k = (Value.slice A13 ([] : List Int).length c13).ownBlock) ?hr rfl ?hrep (fun i j k h1 h2 => h1.1.trans h2.1.symm) (fun _ _ _ => trivial) trivial HB1.out HB1.out.size (by simp) ?_
  case hd => rfl
  case hg => rfl
  case hr => first | (go_simp; done) | (go_simp; rfl)
  case hrep =>
    intro j x hj; rcases j with _ | j
    · simp at hj; subst hj; exact ⟨_, rfl, Kd.R_reok rfl HO1.out (fun k hk => ⟨rfl, hk.symm⟩)⟩
    · simp at hj
  intro v14 w2 ho2 hb2 _ _; have HO2 := Aside0.mk ho2; have HB2 := Aside0.mk hb2; clear HO1 HB1 ho2 hb2; go_wp2_with fail; go_loopw [7, 16] (fun v i wr => ∃ k : Nat, k ≤ n ∧ i = .int .i64 k ∧ Aside0 (Kd.S (Kd.slice 3 (Kd.int .i64)) 36 wr w.heap.size (fun _ => True) v (fw m p k)) ∧ Aside0 (Below w.heap.size w wr)) (fun _ i _ => n - (intOf i).toNat)
  case atStart => exact ⟨0, Nat.zero_le _, rfl, HO2, HB2⟩
  case round =>
    clear HO2 HB2; obtain ⟨k, hk, rfl, HO, HB⟩ := hrel; generalize wr = wo at *; by_cases hlt : k < n
    · have HWS := Aside0.mk (show (fwStep m p (fw m p k)) = fw m p (k + 1) from rfl); have hwl : (fw m p k).length ≤ 1000000000000 := Nat.le_trans (fw_le m p k) (HROOM.out k (by omega)); have HML := Aside0.mk (show m * (fw m p k).length ≤ 1000000000000 from Nat.le_trans (Nat.mul_le_mul_left m (fw_le m p k)) (by have := HROOM.out (k + 1) (by omega); rwa [Nat.pow_succ, Nat.mul_comm] at this)); have HLEN := Aside0.mk (fw_len m p k); generalize fw m p k = ws at *; obtain ⟨A7, c7, rfl⟩ := Kd.S_slice HO.out; go_wp2_with ((with_reducible refine gate_dst (N := 18) rfl ?_); refine Aside0.out ?_); refine Aside0.mk ?_; refine Kd.S_lit (Kd.slice 3 (Kd.int .i64)) (w0 := wo) wo.heap.size 36 ?hg (N := 18) ?hd (xs := ([] : List (List Int))) (inner := []) (ok := fun k => wo.heap.size ≤ k) (okp := fun _ => False) ?hr ?hp (fun _ hk => hk.elim) (Nat.le_refl _) (Below.refl _ _) (Nat.le_refl _) (by simp) ?_
      case hd => rfl
      case hg => rfl
      case hr => first | (go_simp; done) | (go_simp; rfl)
      case hp => exact (Reps.none _ _)
      intro v18 w3 ho3 hb3 _ _; have HM3 := Aside0.mk (show MidRel wo [] v18 w3 from ⟨ho3, hb3⟩); clear ho3 hb3; go_wp2_with fail; go_loopw [8, 21] (fun v j wm => ∃ q : Nat, q ≤ ws.length ∧ j = .int .i64 q ∧ Aside0 (MidRel wo (fwStep m p (ws.take q)) v wm)) (fun _ j _ => ws.length - (intOf j).toNat)
      case atStart => exact ⟨0, Nat.zero_le _, rfl, by simpa [fwStep] using HM3⟩
      case round =>
        clear HM3; obtain ⟨q, hq, rfl, HM⟩ := hrel; generalize wr = wm at *; by_cases hlq : q < ws.length
        · obtain ⟨ad, A0, c0, hA, hx0, hl0, hC0⟩ := at_L1 (Kd.S_reads' HO.out).2.2 (q : Int) (by omega) (by omega); subst hA; have hx1 := pw_cell_below HM.out.2 hx0; rw [Int.toNat_natCast] at hx1; have hword : rd_L1 ws (q : Int) = ws[q] := by unfold rd_L1; rw [Int.toNat_natCast, List.getD_eq_getElem?_getD, List.getElem?_eq_getElem hlq]; rfl
          rw [hword] at hx1 hl0 hC0; have HT := Aside0.mk (fwStep_take m p ws q hlq); have HWL := Aside0.mk (HLEN.out ws[q] (List.getElem_mem hlq)); have HC0 := Aside0.mk hC0; have HL0 := Aside0.mk hl0; have hacc : (fwStep m p (ws.take q)).length ≤ m * q := by have := fwStep_le m p (ws.take q); rwa [List.length_take, Nat.min_eq_left (by omega)] at this
          have HACC := Aside0.mk hacc; clear hx0 hl0 hC0 hword hacc; generalize ws[q] = word at *; generalize hfa : fwStep m p (ws.take q) = acc at *; have HFA := Aside0.mk hfa; clear hfa; go_wp2_with fail; go_loopw [8, 26] (fun v x wi => ∃ a : Nat, a ≤ m ∧ x = .int .i64 a ∧ Aside0 (MidRel wo (acc ++ ext p word a) v wi)) (fun _ x _ => m - (intOf x).toNat)
          case atStart => exact ⟨0, Nat.zero_le _, rfl, by simpa [ext] using HM⟩
          case round =>
            clear HM; obtain ⟨a, ha, rfl, HM⟩ := hrel; generalize wr = wi at *; by_cases hla : a < m
            · have HLE := Aside0.mk (ext_le p word a); have HQ := Aside0.mk (show m * q + m ≤ m * ws.length from by have := Nat.mul_le_mul_left m (show q + 1 ≤ ws.length from hlq); rwa [Nat.mul_add, Nat.mul_one] at this); obtain ⟨b, hb_⟩ : ∃ b, p (word ++ [(a : Int)]) = b := ⟨_, rfl⟩; have HPX := Aside0.mk hb_; clear hb_; go_wp2_with ((with_reducible refine gate_dst (N := 29) rfl ?_); refine Aside0.out ?_); refine Aside0.mk ?_; refine Kd.R_lit (Kd.int .i64) _ 3 ?hg (N := 29) ?hd (xs := ([] : List Int)) (inner := []) (ok := fun _ => True) (okp := fun _ => True) ?hr ?hp (fun _ hk => hk) trivial (Below.refl _ _) (Nat.le_refl _) (by simp) ?_
              case hd => rfl
              case hg => rfl
              case hr => first | (go_simp; done) | (go_simp; rfl)
              case hp => exact (Reps.none _ _)
              intro v29 w4 ho4 hb4 _ _; have HO4 := Aside0.mk ho4; have HB4 := Aside0.mk hb4; clear ho4 hb4; go_wp2_with ((with_reducible refine gate_builtin (b := .append) (xs := #[.tmp 29, .tmp 30]) rfl ?_); refine Aside0.out ?_); refine Aside0.mk ?_
              at_builtin
              refine Kd.R_append_rows (Kd.int .i64) (Rr := (Kd.int .i64).K w4) (w0 := wi) wi.heap.size rfl (.tmp 29) (.tmp 30) 36 3 (.int .i64 0) 8 rfl Try.underlying36 info3 rfl (by decide) (by omega) v29 [] word A0 _ c0 (fun _ => True) (fun _ => False) rfl rfl HO4.out ?aR (fun _ _ h => h) (fun _ hk => hk.elim) (fun _ _ => trivial) HB4.out HB4.out.size ?aL ?_
              case aR => exact Kd.C_below HC0.out (below_step HM.out.2 HB4.out)
              case aL => have := HWL.out; simp only [List.length_nil]; omega
              intro v31 w5 ho5 hb5 _ _; rw [List.nil_append] at ho5; have HO5 := Aside0.mk ho5; have HB5 := Aside0.mk hb5; clear ho5 hb5 HO4 HB4; go_wp2_with ((with_reducible refine gate_builtin (b := .append) (xs := #[.tmp 31, .tmp 33]) rfl ?_); refine Aside0.out ?_); refine Aside0.mk ?_
              at_builtin
              refine Kd.R_append (Kd.int .i64) (w0 := wi) wi.heap.size rfl (.tmp 31) (.tmp 33) 36 3 (.int .i64 0) 8 rfl Try.underlying36 info3 rfl (by decide) (by omega) v31 word (a : Int) [.int .i64 a] (fun _ => True) (fun _ => False) rfl rfl rfl (fun _ hk => hk.elim) (fun _ _ => trivial) HO5.out HB5.out HB5.out.size ?aL ?_
              case aL => have := HWL.out; omega
              intro v34 w6 ho6 hb6 _ _; generalize hnw : word ++ [(a : Int)] = nw at *; have HNW := Aside0.mk hnw; clear hnw; obtain ⟨A34, c34, rfl⟩ := Kd.R_slice ho6; have HO6 := Aside0.mk ho6; have HB6 := Aside0.mk hb6; clear ho6 hb6 HO5 HB5; have HCALL := Aside0.mk (HP.out w6 A34 c34 nw (below_step (below_step HB.out HM.out.2) HB6.out) (Kd.R_reads' HO6.out).2.2 (Kd.R_reads' HO6.out).2.1 (by have := HWL.out; rw [← HNW.out, List.length_append, this]; simp; omega)); rw [HPX.out] at HCALL; go_wp2_with ((with_reducible refine gate_calleeV (t := 35) rfl ?_); refine Aside0.out ?_); refine Aside0.mk ?_; refine goesV_ (some 37) rfl rfl (t := 35) (f := f) (cap := cap) HF.out hname hbody (#[.slice A34 (nw).length c34] ++ cap) rfl rfl (congrArg (· ++ cap) (by (try simp only [List.map_toArray, List.map_cons, List.map_nil]); first | done | rfl)) ?_; refine HCALL.out.mono ?_; rintro e w7 ⟨rfl, hb7⟩; refine ⟨_, rfl, ?_⟩; have HB7 := Aside0.mk (below_step HB6.out hb7); have HO7 := Aside0.mk (Kd.R_lower (Kd.R_below HO6.out hb7) HM.out.2.size); have HBS := Aside0.mk (fun k (hk : (Value.slice A34 (nw).length c34).ownBlock = some k) => Kd.R_base HO6.out k hk); have HS7 := Aside0.mk (Kd.S_below (Kd.S_mono (ok' := fun k => wo.heap.size ≤ k ∧ k < wi.heap.size) (Kd.S_bound HM.out.1) (fun k hk => ⟨hk.1, hk.2.2.1⟩)) HB7.out); clear HCALL HO6 HB6 hb7; cases b with
              | false =>
                go_wp2_with fail; go_roundw
                case rel => exact ⟨a + 1, by omega, by go_num, ⟨by rw [ext_succ, HNW.out, HPX.out]; simpa using Kd.S_mono HS7.out (fun k hk => hk.1), below_step HM.out.2 HB7.out⟩⟩
                case measure => simp [intOf]; omega
              | true =>
                go_wp2_with ((with_reducible refine gate_builtin (b := .append) (xs := #[.tmp 38, .tmp 40]) rfl ?_); refine Aside0.out ?_); refine Aside0.mk ?_
                at_builtin
                refine Kd.S_append (Kd.slice 3 (Kd.int .i64)) (w0 := wo) wo.heap.size rfl (.tmp 38) (.tmp 40) 22 36 (.slice none 0 0) 24 rfl Try.underlying22 info36 rfl (by decide) (by omega) _ (acc ++ ext p word a) (nw) [.slice A34 (nw).length c34] (fun k => wo.heap.size ≤ k) (fun k => some k = (Value.slice A34 (nw).length c34).ownBlock) rfl rfl ?aP ?aK ?aF ?aO ?aB ?aS ?aL ?_
                case aP => exact ⟨_, rfl, Kd.R_reok rfl HO7.out (fun k hk => hk.symm)⟩
                case aK => exact fun k hk => ⟨Nat.le_trans HM.out.2.size (HBS.out k hk.symm), fun he => by have h1 := Kd.S_lt HM.out.1 k he.symm; have h2 := HBS.out k hk.symm; omega⟩
                case aF => exact fun k hk => Nat.le_trans (Nat.le_trans HM.out.2.size HB7.out.size) hk
                case aO => exact Kd.S_mono HS7.out (fun k hk => ⟨hk.1, fun he => by have h2 := HBS.out k he.symm; omega⟩)
                case aB => exact below_step HM.out.2 HB7.out
                case aS => exact Nat.le_trans HM.out.2.size HB7.out.size
                case aL => have h1 := HLE.out; have h2 := HACC.out; have h3 := HQ.out; have h4 := HML.out; rw [List.length_append]; omega
                intro v41 w8 ho8 hb8 _ _; have HO8 := Aside0.mk ho8; have HB8 := Aside0.mk hb8; clear ho8 hb8; go_wp2_with fail; go_roundw
                case rel => exact ⟨a + 1, by omega, by go_num, ⟨by rw [ext_succ, HNW.out, HPX.out, _root_.if_pos rfl, ← List.append_assoc]; exact HO8.out, HB8.out⟩⟩
                case measure => simp [intOf]; omega
            · have e : a = m := by omega
              subst e; go_wp2_with fail; go_roundw
              case rel => exact ⟨q + 1, by omega, by go_num, by rw [HT.out]; exact HM⟩
              case measure => simp [intOf]; omega
        · have e : q = ws.length := by omega
          subst e; rw [List.take_length] at HM; go_wp2_with fail; go_roundw
          case rel => exact ⟨k + 1, by omega, by go_num, ⟨by have h := Kd.S_lower (Kd.S_mono (ok' := fun _ => True) HM.out.1 (fun _ _ => trivial)) HB.out.size; rwa [HWS.out] at h⟩, ⟨below_step HB.out HM.out.2⟩⟩
          case measure => simp [intOf]; omega
    · have e : k = n := by omega
      subst e; go_wp2; go_ret; exact ⟨_, rfl, HO.out, HB.out⟩
end Go.Proofs.Ytooamcjgejajeaa.M
namespace Go.Proofs.Ytooamcjgejajeaa.M
open Go.RowKit Go.Proofs.Ytooamcjgejajeaa.KW Go.Proofs.YtooamcjgejajeaaW.PrintWords Go.Proofs.YtooamcjgejajeaaW.PrintLast Go.Proofs.YtooamcjgejajeaaW.PrintMore
attribute [local go_sem] max2_int min2_int max_two min_two max_three min_three max_four min_four
set_option linter.unusedVariables false
set_option linter.unusedSimpArgs false
mutual
def impl_HasPower.j0 : Nat → List Int → Int → Int → Bool → Option (Bool)
 | 0, _, _, _, _ => none
 | k + 1, x0, x1, x2, x27 => if x27 = true then (some false) else (impl_HasPower.l0 k x0 x1 x2 1)
def impl_HasPower.l0 : Nat → List Int → Int → Int → Int → Option (Bool)
 | 0, _, _, _, _ => none
 | k + 1, x0, x1, x2, x7 => if x7 ≤ (x0.length : Int) then ((impl_longestRepeat.f k x0 x7).bind fun t559 => (if (wrap64 (t559 * x2)) ≥ (wrap64 (x1 * x7)) then (some true) else (impl_HasPower.l0 k x0 x1 x2 (wrap64 (x7 + 1))))) else (some false)
end
def impl_HasPower.f (k : Nat) (l0 : List Int) (a1 : Int) (a2 : Int) : Option (Bool) := if (l0.length : Int) > 128 then (impl_HasPower.j0 k l0 a1 a2 true) else (if a1 < 2 then (impl_HasPower.j0 k l0 a1 a2 true) else (if a1 > 20 then (impl_HasPower.j0 k l0 a1 a2 true) else (if a2 < 1 then (impl_HasPower.j0 k l0 a1 a2 true) else (impl_HasPower.j0 k l0 a1 a2 (decide (a2 ≥ a1))))))
theorem impl_HasPower.mono_l : ∀ k, (∀ y0 y1 y2 y3, LeO (impl_HasPower.j0 k y0 y1 y2 y3) (impl_HasPower.j0 (k + 1) y0 y1 y2 y3)) ∧ (∀ y0 y1 y2 y3, LeO (impl_HasPower.l0 k y0 y1 y2 y3) (impl_HasPower.l0 (k + 1) y0 y1 y2 y3))
 | 0 => ⟨fun _ _ _ _ r h => by simp [impl_HasPower.j0] at h, fun _ _ _ _ r h => by simp [impl_HasPower.l0] at h⟩
 | k + 1 => by
  obtain ⟨ih0, ih1⟩ := impl_HasPower.mono_l k; refine ⟨?_, ?_⟩
  ·intro y0 y1 y2 y3; unfold impl_HasPower.j0
   repeat' first
   | (with_reducible exact ih0 _ _ _ _)
   | (with_reducible exact ih1 _ _ _ _)
   | (with_reducible exact impl_longestRepeat.mono _ _ _)
   | (with_reducible exact LeO.refl _)
   | (with_reducible exact LeO.none _)
   | (with_reducible refine LeO.ite ?_ ?_)
   | (with_reducible refine LeO.bind ?_ (fun _ => ?_))
  ·intro y0 y1 y2 y3; unfold impl_HasPower.l0
   repeat' first
   | (with_reducible exact ih0 _ _ _ _)
   | (with_reducible exact ih1 _ _ _ _)
   | (with_reducible exact impl_longestRepeat.mono _ _ _)
   | (with_reducible exact LeO.refl _)
   | (with_reducible exact LeO.none _)
   | (with_reducible refine LeO.ite ?_ ?_)
   | (with_reducible refine LeO.bind ?_ (fun _ => ?_))
theorem impl_HasPower.mono : ∀ a0 a1 a2 k, LeO (impl_HasPower.f k a0 a1 a2) (impl_HasPower.f (k + 1) a0 a1 a2) := by
 intro a0 a1 a2 k; obtain ⟨ih0, ih1⟩ := impl_HasPower.mono_l k; unfold impl_HasPower.f
 repeat' first
   | (with_reducible exact ih0 _ _ _ _)
   | (with_reducible exact ih1 _ _ _ _)
   | (with_reducible exact impl_longestRepeat.mono _ _ _)
   | (with_reducible exact LeO.refl _)
   | (with_reducible exact LeO.none _)
   | (with_reducible refine LeO.ite ?_ ?_)
   | (with_reducible refine LeO.bind ?_ (fun _ => ?_))
set_option maxHeartbeats 8000000 in
set_option maxRecDepth 100000 in
theorem impl_HasPower.calls (k : Nat) (A0 : Option Addr) (c0 : Nat) (l0 : List Int) (a1 : Int) (a2 : Int) (r : Bool) (w : World) (hr0 : Kd.C (Kd.int .i64) w A0 l0.length l0) (hc0 : l0.length ≤ c0) (h : impl_HasPower.f k l0 a1 a2 = some r) :
  Calls Try.prog 125 #[.slice A0 l0.length c0, .int .i64 a1, .int .i64 a2] w fun e w' => e = .returned (.bool r) ∧ Below w.heap.size w w' := by
 have HR0 := am hr0; have HC0 := am hc0; clear hr0 hc0; have HB := am (Below.refl w.heap.size w); have H : (if (l0.length : Int) > 128 then (impl_HasPower.j0 k l0 a1 a2 true) else (if a1 < 2 then (impl_HasPower.j0 k l0 a1 a2 true) else (if a1 > 20 then (impl_HasPower.j0 k l0 a1 a2 true) else (if a2 < 1 then (impl_HasPower.j0 k l0 a1 a2 true) else (impl_HasPower.j0 k l0 a1 a2 (decide (a2 ≥ a1))))))) = some r := h; clear h; have HC4 := am H; clear H; go_enter Try.func125, Try.ntmps125; go_upto_region 1 with (fail); go_cut [27] (fun v27 wc => ∃ (kq : Nat) (x27_3 : Bool), v27 = .bool x27_3 ∧ Aside0 (impl_HasPower.j0 kq l0 a1 a2 x27_3 = some r) ∧ Aside0 (kq ≤ k) ∧ Aside0 (Below w.heap.size w wc))
 case first =>
  have H := HC4.out; clear HC4; by_cases c5 : (l0.length : Int) > 128
  ·rw [if_pos c5] at H; have c5b0 : decide (128 < (l0.length : Int)) = true := decide_eq_true c5; have c5b1 : decide (128 < l0.length) = true := decide_eq_true (by omega); clear c5
   (first | rw [c5b0] | (simp only [i64_w, i32_w]; rw [c5b0]) | skip)
   have H' := am H; clear H; go_wp2; go_meet
   case rel => exact ⟨_, (true), (by first | rfl | (simp; done) | (simp [*]; done)), H', ⟨by first | omega | exact Nat.le_refl _⟩, ⟨by exact rB HB⟩⟩
  ·rw [if_neg c5] at H; have c5b0 : decide (128 < (l0.length : Int)) = false := decide_eq_false c5; have c5b1 : decide (128 < l0.length) = false := decide_eq_false (by omega); clear c5
   (first | rw [c5b0] | (simp only [i64_w, i32_w]; rw [c5b0]) | skip)
   by_cases c6 : a1 < 2
   ·rw [if_pos c6] at H; have c6b0 : decide (a1 < 2) = true := decide_eq_true c6; clear c6; have H' := am H; clear H; go_wp2; go_meet
    case rel => exact ⟨_, (true), (by first | rfl | (simp; done) | (simp [*]; done)), H', ⟨by first | omega | exact Nat.le_refl _⟩, ⟨by exact rB HB⟩⟩
   ·rw [if_neg c6] at H; have c6b0 : decide (a1 < 2) = false := decide_eq_false c6; clear c6; by_cases c7 : a1 > 20
    ·rw [if_pos c7] at H; have c7b0 : decide (20 < a1) = true := decide_eq_true c7; clear c7; have H' := am H; clear H; go_wp2; go_meet
     case rel => exact ⟨_, (true), (by first | rfl | (simp; done) | (simp [*]; done)), H', ⟨by first | omega | exact Nat.le_refl _⟩, ⟨by exact rB HB⟩⟩
    ·rw [if_neg c7] at H; have c7b0 : decide (20 < a1) = false := decide_eq_false c7; clear c7; by_cases c8 : a2 < 1
     ·rw [if_pos c8] at H; have c8b0 : decide (a2 < 1) = true := decide_eq_true c8; clear c8; have H' := am H; clear H; go_wp2; go_meet
      case rel => exact ⟨_, (true), (by first | rfl | (simp; done) | (simp [*]; done)), H', ⟨by first | omega | exact Nat.le_refl _⟩, ⟨by exact rB HB⟩⟩
     ·rw [if_neg c8] at H; have c8b0 : decide (a2 < 1) = false := decide_eq_false c8; clear c8; have H' := am H; clear H; go_wp2; go_meet
      case rel => exact ⟨_, (decide (a2 ≥ a1)), (by first | rfl | (simp; done) | (simp [*]; done)), H', ⟨by first | omega | exact Nat.le_refl _⟩, ⟨by exact rB HB⟩⟩
 case rest =>
  clear HC4
  try clear c1
  try clear p2
  try clear c5
  try clear c5b0
  try clear c5b1
  try clear c6
  try clear c6b0
  try clear c7
  try clear c7b0
  try clear c8
  try clear c8b0
  obtain ⟨kq, x27_3, rfl, HA, HJ3, HB⟩ := hcut; cases kq with
  | zero => exact absurd HA.out (by simp [impl_HasPower.j0])
  | succ kj3 =>
   have H := HA.out; clear HA; simp only [impl_HasPower.j0] at H; by_cases c9 : x27_3 = true
   ·subst c9; have H1 : (some false) = some r := by rw [if_pos rfl] at H; exact H
    clear H; have H := H1; clear H1; obtain rfl := Option.some.inj H; go_wp2; go_ret; exact ⟨by first | rfl | (simp [errW_none, errW_some] <;> rfl) | (simp [*, errW_none, errW_some] <;> rfl), by exact rB HB⟩
   ·replace c9 := Bool.eq_false_iff.mpr c9; subst c9; have H1 : (impl_HasPower.l0 kj3 l0 a1 a2 1) = some r := by rw [if_neg (show ¬ (false = true) by decide)] at H; exact H
    clear H; have H := H1; clear H1; have H' := am H; clear H; go_wp2; go_loopg [7] kj3 (fun kq v7 w' => ∃ (x7_2 : Int), v7 = .int .i64 x7_2 ∧ Aside0 (impl_HasPower.l0 kq l0 a1 a2 x7_2 = some r) ∧ Aside0 (kq ≤ kj3) ∧ Aside0 (Below w.heap.size w w'))
    case atStart => exact ⟨(1), (by first | rfl | (simp; done) | (simp [*]; done)), H', ⟨Nat.le_refl _⟩, ⟨by exact rB HB⟩⟩
    case round =>
     clear H'
     try clear c1
     try clear p2
     try clear c5
     try clear c5b0
     try clear c5b1
     try clear c6
     try clear c6b0
     try clear c7
     try clear c7b0
     try clear c8
     try clear c8b0
     try clear c9
     try clear p2
     obtain ⟨x7_2, rfl, HA, HK2, HB⟩ := hrel; cases gk with
     | zero => exact absurd HA.out (by simp [impl_HasPower.l0])
     | succ k2 =>
      have H := HA.out; clear HA; simp only [impl_HasPower.l0] at H; by_cases c10 : x7_2 ≤ (l0.length : Int)
      ·rw [if_pos c10] at H; have c10b0 : decide (x7_2 ≤ (l0.length : Int)) = true := decide_eq_true c10; clear c10; replace H := Option.bind_eq_some_iff.mp H; obtain ⟨t559, A110, H⟩ := H; replace H : (if (wrap64 (t559 * a2)) ≥ (wrap64 (a1 * x7_2)) then (some true) else (impl_HasPower.l0 k2 l0 a1 a2 (wrap64 (x7_2 + 1)))) = some r := H; have A11 := am A110; clear A110; by_cases c12 : (wrap64 (t559 * a2)) ≥ (wrap64 (a1 * x7_2))
       ·rw [if_pos c12] at H; have c12b0 : decide ((wrap64 (a1 * x7_2)) ≤ (wrap64 (t559 * a2))) = true := decide_eq_true c12; clear c12; obtain rfl := Option.some.inj H; go_wp2_with (first | ((with_reducible refine gate_callee (f := 124) rfl ?_); refine goesL_ (some 36) rfl rfl Try.func124 (by kernel_rfl) rfl #[.slice A0 l0.length c0, .int .i64 x7_2] rfl (by (try simp only [mT, mC, mN]); first | done | rfl) ?_; (with_reducible refine (impl_longestRepeat.calls k2 _ _ l0 x7_2 t559 _ ?side1 ?side2 A11.out).mono ?_); (case side1 => exact xC ((Kd.C_below HR0.out HB.out))); (case side2 => exact HC0.out); rintro e w13 ⟨rfl, hb⟩; refine ⟨_, rfl, ?_⟩; replace HB := am (below_step (by exact rB HB) hb); clear hb)); go_ret; exact ⟨by first | rfl | (simp [errW_none, errW_some] <;> rfl) | (simp [*, errW_none, errW_some] <;> rfl), by exact rB HB⟩
       ·rw [if_neg c12] at H; have c12b0 : decide ((wrap64 (a1 * x7_2)) ≤ (wrap64 (t559 * a2))) = false := decide_eq_false c12; clear c12; have H' := am H; clear H; go_wp2_with (first | ((with_reducible refine gate_callee (f := 124) rfl ?_); refine goesL_ (some 36) rfl rfl Try.func124 (by kernel_rfl) rfl #[.slice A0 l0.length c0, .int .i64 x7_2] rfl (by (try simp only [mT, mC, mN]); first | done | rfl) ?_; (with_reducible refine (impl_longestRepeat.calls k2 _ _ l0 x7_2 t559 _ ?side1 ?side2 A11.out).mono ?_); (case side1 => exact xC ((Kd.C_below HR0.out HB.out))); (case side2 => exact HC0.out); rintro e w14 ⟨rfl, hb⟩; refine ⟨_, rfl, ?_⟩; replace HB := am (below_step (by exact rB HB) hb); clear hb)); go_roundg k2
        case measure => have := HJ3.out; have := HK2.out; omega
        case rel => exact ⟨(wrap64 (x7_2 + 1)), (by first | rfl | (simp; done) | (simp [*]; done)), H', ⟨by have := HJ3.out; have := HK2.out; omega⟩, ⟨by exact rB HB⟩⟩
      ·rw [if_neg c10] at H; have c10b0 : decide (x7_2 ≤ (l0.length : Int)) = false := decide_eq_false c10; clear c10; obtain rfl := Option.some.inj H; go_wp2; go_ret; exact ⟨by first | rfl | (simp [errW_none, errW_some] <;> rfl) | (simp [*, errW_none, errW_some] <;> rfl), by exact rB HB⟩
def impl_HasSquare.f (k : Nat) (l0 : List Int) : Option (Bool) := (impl_HasPower.f k l0 2 1).bind fun t560 => (some t560)
theorem impl_HasSquare.mono : ∀ a0 k, LeO (impl_HasSquare.f k a0) (impl_HasSquare.f (k + 1) a0) := by
 intro a0 k; unfold impl_HasSquare.f
 repeat' first
   | (with_reducible exact impl_HasPower.mono _ _ _ _)
   | (with_reducible exact LeO.refl _)
   | (with_reducible exact LeO.none _)
   | (with_reducible refine LeO.ite ?_ ?_)
   | (with_reducible refine LeO.bind ?_ (fun _ => ?_))
set_option maxHeartbeats 8000000 in
set_option maxRecDepth 100000 in
theorem impl_HasSquare.calls (k : Nat) (A0 : Option Addr) (c0 : Nat) (l0 : List Int) (r : Bool) (w : World) (hr0 : Kd.C (Kd.int .i64) w A0 l0.length l0) (hc0 : l0.length ≤ c0) (h : impl_HasSquare.f k l0 = some r) :
  Calls Try.prog 53 #[.slice A0 l0.length c0] w fun e w' => e = .returned (.bool r) ∧ Below w.heap.size w w' := by
 have HR0 := am hr0; have HC0 := am hc0; clear hr0 hc0; have HB := am (Below.refl w.heap.size w); have H : ((impl_HasPower.f k l0 2 1).bind fun t560 => (some t560)) = some r := h; clear h; replace H := Option.bind_eq_some_iff.mp H; obtain ⟨t560, A20, H⟩ := H; replace H : (some t560) = some r := H; have A2 := am A20; clear A20; obtain rfl := Option.some.inj H; go_enter Try.func53, Try.ntmps53; go_wp2_with (first | ((with_reducible refine gate_callee (f := 125) rfl ?_); refine goesL_ (some 4) rfl rfl Try.func125 (by kernel_rfl) rfl #[.slice A0 l0.length c0, .int .i64 2, .int .i64 1] rfl (by (try simp only [mT, mC, mN]); first | done | rfl) ?_; (with_reducible refine (impl_HasPower.calls k _ _ l0 2 1 t560 _ ?side1 ?side2 A2.out).mono ?_); (case side1 => exact xC (HR0.out)); (case side2 => exact HC0.out); rintro e w3 ⟨rfl, hb⟩; refine ⟨_, rfl, ?_⟩; replace HB := am (below_step (by exact rB HB) hb); clear hb)); go_ret; exact ⟨by first | rfl | (simp [errW_none, errW_some] <;> rfl) | (simp [*, errW_none, errW_some] <;> rfl), by exact rB HB⟩
end Go.Proofs.Ytooamcjgejajeaa.M
/- Powers, squares and overlaps in a word: program and reference find the same. No condition. -/
namespace Go.Proofs.Ytooamcjgejajeaa.M
open Go.RowKit Go.Proofs.YtooamcjgejajeaaW.PrintWords Go.Proofs.YtooamcjgejajeaaW.PrintMore Go.Proofs.Ytooamcjgejajeaa.K
/-- L letters from i on are those p further on. -/
def per (w : List Int) (p i L : Nat) : Prop := ∀ t, t < L → i + t + p < w.length ∧ w.getD (i + t) 0 = w.getD (i + t + p) 0
theorem per_zero (w : List Int) (p i : Nat) : per w p i 0 := fun t h => by omega
theorem per_le {w : List Int} {p i L M : Nat} (h : per w p i L) (hm : M ≤ L) : per w p i M := fun t ht => h t (by omega)
theorem per_succ {w : List Int} {p i L : Nat} (h : per w p i L) (h1 : i + L + p < w.length) (h2 : w.getD (i + L) 0 = w.getD (i + L + p) 0) : per w p i (L + 1) := fun t ht => by
  by_cases e : t = L
  · subst e; exact ⟨h1, h2⟩
  · exact h t (by omega)
theorem per_bound {w : List Int} {p i L : Nat} (h : per w p i L) (hl : 0 < L) : i + L + p ≤ w.length := by
  have := (h (L - 1) (by omega)).1; omega
theorem rd_nat (xs : List Int) (n : Int) (i : Nat) (h : n = (i : Int)) : rd xs n = xs.getD i 0 := by rw [h, rd_at]
theorem l10_ev (w : List Int) (i p : Nat) (hp : 1 ≤ p) (hw : w.length ≤ 1048576) (hip : i + p < w.length) : ∃ M : Nat, per w p i M ∧ ¬ per w p i (M + 1) ∧ Ev (fun k => spec_l10Match.f k w (i : Int) (p : Int)) ((p + M : Nat) : Int) := by
  have key : ∀ d t, i + p + t + d = w.length → per w p i t → ∃ M : Nat, per w p i M ∧ ¬ per w p i (M + 1) ∧ Ev (fun k => spec_l10Match.l0 k w (i : Int) (p : Int) ((p + t : Nat) : Int)) ((p + M : Nat) : Int) := by
    intro d
    induction d with
    | zero =>
      intro t hd ht; refine ⟨t, ht, fun h => by have := per_bound h (by omega); omega, ?_⟩; refine Ev.step (fun k => by simp only [spec_l10Match.l0]; rw [w_id (by omega) (by omega), _root_.if_neg (by omega)]) (Ev.same (Ev.some _) ?_); unfold mn; rw [w_id (by omega) (by omega)]; split <;> omega
    | succ d ih =>
      intro t hd ht; by_cases q : w.getD (i + t) 0 = w.getD (i + t + p) 0
      · obtain ⟨M, h1, h2, h3⟩ := ih (t + 1) (by omega) (per_succ ht (by omega) q); refine ⟨M, h1, h2, ?_⟩
        refine Ev.step (fun k => by
          simp only [spec_l10Match.l0]
          rw [w_id (a := (i : Int) + ((p + t : Nat) : Int)) (by omega) (by omega), w_id (a := (i : Int) + ((p + t : Nat) : Int) - (p : Int)) (by omega) (by omega), _root_.if_pos (by omega), _root_.if_pos (by omega), _root_.if_pos (by omega), _root_.if_pos (by omega),
            _root_.if_pos (by rw [rd_nat w _ (i + t + p) (by omega), rd_nat w _ (i + t) (by omega), q]), wsucc (by omega)]; rfl) h3
      · refine ⟨t, ht, fun h => q (h t (by omega)).2, ?_⟩
        refine Ev.step (fun k => by
          simp only [spec_l10Match.l0]
          rw [w_id (a := (i : Int) + ((p + t : Nat) : Int)) (by omega) (by omega), w_id (a := (i : Int) + ((p + t : Nat) : Int) - (p : Int)) (by omega) (by omega), _root_.if_pos (by omega), _root_.if_pos (by omega), _root_.if_pos (by omega), _root_.if_pos (by omega),
            _root_.if_neg (by rw [rd_nat w _ (i + t + p) (by omega), rd_nat w _ (i + t) (by omega)]; exact fun e => q e.symm)]) (Ev.same (Ev.some _) ?_)
        unfold mn; rw [w_id (by omega) (by omega)]; split <;> omega
  obtain ⟨M, h1, h2, h3⟩ := key (w.length - (i + p)) 0 (by omega) (per_zero _ _ _); exact ⟨M, h1, h2, h3⟩
theorem longest_ev (w : List Int) (p : Nat) (hp : 1 ≤ p) (hw : w.length ≤ 1048576) (hpl : p ≤ w.length) : ∃ M : Nat, M ≤ w.length ∧ (∃ i, per w p i M) ∧ (∀ i L, per w p i L → L ≤ M) ∧ Ev (fun k => impl_longestRepeat.f k w (p : Int)) ((M + p : Nat) : Int) := by
  have key : ∀ d i b c : Nat, i + p + d = w.length → c ≤ i → per w p (i - c) c → (∀ j L, j + L = i → per w p j L → L ≤ c) → (∃ j, per w p j b) → (∀ j L, j + L ≤ i → per w p j L → L ≤ b) → b ≤ i →
      ∃ M : Nat, M ≤ w.length ∧ (∃ i, per w p i M) ∧ (∀ i L, per w p i L → L ≤ M) ∧ Ev (fun k => impl_longestRepeat.l0 k w (p : Int) (b : Int) (c : Int) (i : Int)) ((M + p : Nat) : Int) := by
    intro d
    induction d with
    | zero =>
      intro i b c hd hci h1 h2 h3 h4 hbi; refine ⟨b, by omega, h3, fun j L h => ?_, ?_⟩
      · by_cases hL : L = 0
        · omega
        · exact h4 j L (by have := per_bound h (by omega); omega) h
      · refine Ev.step (fun k => by simp only [impl_longestRepeat.l0]; rw [w_id (a := (i : Int) + (p : Int)) (by omega) (by omega), _root_.if_neg (by omega)]) (Ev.same (Ev.some _) ?_); rw [w_id (by omega) (by omega)]; omega
    | succ d ih =>
      intro i b c hd hci h1 h2 h3 h4 hbi; by_cases q : w.getD i 0 = w.getD (i + p) 0
      · have hc1 : per w p (i + 1 - (c + 1)) (c + 1) := by
          rw [show i + 1 - (c + 1) = i - c from by omega]; exact per_succ h1 (by omega) (by rw [show i - c + c = i from by omega]; exact q)
        have hc2 : ∀ j L, j + L = i + 1 → per w p j L → L ≤ c + 1 := fun j L hj h => by
          by_cases hL : L = 0
          · omega
          · have := h2 j (L - 1) (by omega) (per_le h (by omega)); omega
        obtain ⟨M, g0, g1, g2, g3⟩ := ih (i + 1) (if b < c + 1 then c + 1 else b) (c + 1) (by omega) (by omega) hc1 hc2
          (by split <;> first | exact h3 | exact ⟨_, hc1⟩)
          (fun j L hj h => by
            by_cases e : j + L = i + 1
            · have := hc2 j L e h; split <;> omega
            · have := h4 j L (by omega) h; split <;> omega) (by split <;> omega)
        refine ⟨M, g0, g1, g2, ?_⟩
        refine Ev.step (fun k => by
          simp only [impl_longestRepeat.l0]
          rw [w_id (a := (i : Int) + (p : Int)) (by omega) (by omega), _root_.if_pos (by omega), _root_.if_pos (by omega), _root_.if_pos (by omega), _root_.if_pos (by omega),
            _root_.if_pos (by rw [rd_at, rd_nat w _ (i + p) (by omega), q]), wsucc (by omega), wsucc (by omega),
            show mx (b : Int) ((c + 1 : Nat) : Int) = ((if b < c + 1 then c + 1 else b : Nat) : Int) from by unfold mx; split <;> split <;> omega]) g3
      · have hc2 : ∀ j L, j + L = i + 1 → per w p j L → L = 0 := fun j L hj h => by
          by_cases hL : L = 0
          · exact hL
          · have := (h (L - 1) (by omega)).2; rw [show j + (L - 1) = i from by omega] at this; exact absurd this q
        obtain ⟨M, g0, g1, g2, g3⟩ := ih (i + 1) b 0 (by omega) (by omega) (per_zero _ _ _) (fun j L hj h => by have := hc2 j L hj h; omega) h3
          (fun j L hj h => by
            by_cases e : j + L = i + 1
            · have := hc2 j L e h; omega
            · exact h4 j L (by omega) h) (by omega)
        refine ⟨M, g0, g1, g2, ?_⟩
        refine Ev.step (fun k => by
          simp only [impl_longestRepeat.l0]
          rw [w_id (a := (i : Int) + (p : Int)) (by omega) (by omega), _root_.if_pos (by omega), _root_.if_pos (by omega), _root_.if_pos (by omega), _root_.if_pos (by omega),
            _root_.if_neg (by rw [rd_at, rd_nat w _ (i + p) (by omega)]; exact q), wsucc (by omega)]; rfl) g3
  have := key (w.length - p) 0 0 0 (by omega) (Nat.le_refl _) (per_zero _ _ _) (fun j L h _ => by omega) ⟨0, per_zero _ _ _⟩ (fun j L h _ => by omega) (Nat.le_refl _); exact this
/-- There is a part that is long enough against one of its periods. -/
def PW (w : List Int) (a b : Nat) : Prop := w.length ≤ 128 ∧ ∃ i p L, 1 ≤ p ∧ i + p < w.length ∧ per w p i L ∧ p * a ≤ (p + L) * b
open Classical in
noncomputable def hasPower (w : List Int) (a b : Nat) : Bool := decide (PW w a b)
open Classical in
theorem hasPower_iff (w : List Int) (a b : Nat) : hasPower w a b = true ↔ PW w a b := by unfold hasPower; exact decide_eq_true_iff
theorem hasPower_no (w : List Int) (a b : Nat) (h : ¬ PW w a b) : hasPower w a b = false := Bool.eq_false_iff.2 (fun q => h ((hasPower_iff w a b).1 q))
def OV (w : List Int) : Prop := w.length ≤ 128 ∧ ∃ i p L, 1 ≤ p ∧ per w p i L ∧ p < L
open Classical in
noncomputable def hasOverlap (w : List Int) : Bool := decide (OV w)
open Classical in
theorem hasOverlap_iff (w : List Int) : hasOverlap w = true ↔ OV w := by unfold hasOverlap; exact decide_eq_true_iff
theorem hasOverlap_no (w : List Int) (h : ¬ OV w) : hasOverlap w = false := Bool.eq_false_iff.2 (fun q => h ((hasOverlap_iff w).1 q))
theorem l1In_val (a b c : Int) : spec_l1In.f a b c = some (decide (b ≤ a ∧ a ≤ c)) := by
  unfold spec_l1In.f; by_cases q : a ≥ b
  · rw [_root_.if_pos q]; simp [q]
  · rw [_root_.if_neg q]; simp; omega
theorem specPower_ev (w : List Int) (a b : Nat) (ha : 2 ≤ a ∧ a ≤ 20) (hb : 1 ≤ b ∧ b < a) (hw : w.length ≤ 1048576) : Ev (fun k => spec_HasPower.f k w (a : Int) (b : Int)) (hasPower w a b) := by
  unfold spec_HasPower.f; refine Ev.bind (Ev.val (l1In_val _ _ _)) ?_; rw [decide_eq_true (by omega)]; refine Ev.if_pos rfl ?_; refine Ev.bind (Ev.val (l1In_val _ _ _)) ?_; rw [w_id (by omega) (by omega), decide_eq_true (by omega)]; refine Ev.step (fun k => by simp only [spec_HasPower.j0]; rw [_root_.if_neg (by decide)]) ?_; by_cases h128 : w.length ≤ 128
  · have inner : ∀ (i : Nat) (r : Bool), i < w.length → (r = true → PW w a b) → ((∀ p L, 1 ≤ p → i + p < w.length → per w p i L → ¬ p * a ≤ (p + L) * b) → Ev (fun k => spec_HasPower.l0 k w (a : Int) (b : Int) ((i + 1 : Nat) : Int)) r) → (r = false → ∀ p L, 1 ≤ p → i + p < w.length → per w p i L → ¬ p * a ≤ (p + L) * b) →
        ∀ d p, p + d = w.length → 1 ≤ p → (∀ q L, 1 ≤ q → q < p → i + q < w.length → per w q i L → ¬ q * a ≤ (q + L) * b) → Ev (fun k => spec_HasPower.l1 k w (a : Int) (b : Int) (i : Int) (p : Int)) r := by
      intro i r hi hr0 hr hr1 d
      induction d with
      | zero =>
        intro p hpd hp hno; refine Ev.step (fun k => by simp only [spec_HasPower.l1]; rw [w_id (a := (i : Int) + (p : Int)) (by omega) (by omega), _root_.if_neg (by omega), wsucc (by omega)]) (hr (fun q L h1 h2 h3 => hno q L h1 (by omega) h2 h3))
      | succ d ih =>
        intro p hpd hp hno; by_cases q : i + p < w.length
        · obtain ⟨M, g1, g2, g3⟩ := l10_ev w i p hp hw q; refine Ev.step (fun k => by simp only [spec_HasPower.l1]; rw [w_id (a := (i : Int) + (p : Int)) (by omega) (by omega), _root_.if_pos (by omega)]) ?_; have hMw : M ≤ w.length := by
            by_cases e : M = 0
            · omega
            · have := per_bound g1 (by omega); omega
          refine Ev.bind g3 ?_; have e1 : wrap64 (((p + M : Nat) : Int) * (b : Int)) = (((p + M) * b : Nat) : Int) := by
            have h2 : (p + M) * b ≤ 256 * 20 := Nat.mul_le_mul (show p + M ≤ 256 from by omega) (show b ≤ 20 from by omega); have h3 : (p + M) * b ≤ 100000 := Nat.le_trans h2 (by decide); clear h2; rw [← Int.natCast_mul]; exact w_id (by omega) (by omega)
          have e2 : wrap64 ((p : Int) * (a : Int)) = ((p * a : Nat) : Int) := by
            have h2 : p * a ≤ 256 * 20 := Nat.mul_le_mul (show p ≤ 256 from by omega) (show a ≤ 20 from by omega); have h3 : p * a ≤ 100000 := Nat.le_trans h2 (by decide); clear h2; rw [← Int.natCast_mul]; exact w_id (by omega) (by omega)
          rw [e1, e2]; refine Ev.ite (fun c => ?_) (fun c => ?_)
          · refine Ev.same (Ev.some true) ?_; cases r with
            | true => rfl
            | false => exact absurd (Int.ofNat_le.1 c) (hr1 rfl p M hp q g1)
          · refine Ev.congr (fun k => by rw [wsucc (by omega)]) (ih (p + 1) (by omega) (by omega) (fun q' L h1 h2 h3 h4 h5 => ?_)); by_cases e : q' = p
            · subst e; have hLM : L ≤ M := by
                rcases Nat.lt_or_ge M L with hlt | hge
                · exact absurd (per_le h4 (show M + 1 ≤ L from hlt)) g2
                · exact hge
              exact c (Int.ofNat_le.2 (Nat.le_trans h5 (Nat.mul_le_mul_right b (Nat.add_le_add_left hLM q'))))
            · exact hno q' L h1 (by omega) h3 h4 h5
        · refine Ev.step (fun k => by simp only [spec_HasPower.l1]; rw [w_id (a := (i : Int) + (p : Int)) (by omega) (by omega), _root_.if_neg (by omega), wsucc (by omega)]) (hr (fun q' L h1 h2 h3 => hno q' L h1 (by omega) h2 h3))
    have outer : ∀ r : Bool, (r = true ↔ PW w a b) → ∀ i, i ≤ w.length → (∀ j p L, j < i → 1 ≤ p → j + p < w.length → per w p j L → ¬ p * a ≤ (p + L) * b) → Ev (fun k => spec_HasPower.l0 k w (a : Int) (b : Int) (i : Int)) r := by
      intro r hr; refine down w.length ?_ ?_
      · intro hno; refine Ev.step (fun k => by simp only [spec_HasPower.l0]; rw [_root_.if_neg (by omega)]) ?_; refine Ev.step (fun k => by simp only [spec_HasPower.j2]; rw [_root_.if_neg (by decide)]) (Ev.same (Ev.some false) ?_); cases r with
        | false => rfl
        | true =>
          obtain ⟨_, i, p, L, h1, h2, h3, h4⟩ := hr.1 rfl; exact absurd h4 (hno i p L (by omega) h1 h2 h3)
      · intro i hi ih hno; refine Ev.step (fun k => by simp only [spec_HasPower.l0]; rw [_root_.if_pos (by omega), decide_eq_true (by omega)]) ?_; refine Ev.step (fun k => by simp only [spec_HasPower.j2]; rw [_root_.if_pos trivial]) ?_; refine inner i r hi (fun e => hr.1 e) (fun h => ih (fun j p L hj h1 h2 h3 => ?_)) (fun e p L h1 h2 h3 h4 => ?_) (w.length - 1) 1 (by omega) (Nat.le_refl _) (fun q L h1 h2 => by omega)
        · by_cases e : j = i
          · subst e; exact h p L h1 h2 h3
          · exact hno j p L (by omega) h1 h2 h3
        · have := hr.2 ⟨h128, i, p, L, h1, h2, h3, h4⟩; rw [e] at this; cases this
    exact outer _ (hasPower_iff w a b) 0 (by omega) (fun j p L h => by omega)
  · have hf : hasPower w a b = false := hasPower_no _ _ _ (fun h => h128 h.1); rw [hf]; refine Ev.step (fun k => by simp only [spec_HasPower.l0]; rw [_root_.if_pos (by omega), decide_eq_false (by omega)]) ?_; exact Ev.step (fun k => by simp only [spec_HasPower.j2]; rw [_root_.if_neg (by decide)]) (Ev.some _)
theorem implPower_ev (w : List Int) (a b : Nat) (ha : 2 ≤ a ∧ a ≤ 20) (hb : 1 ≤ b ∧ b < a) (hw : w.length ≤ 1048576) : Ev (fun k => impl_HasPower.f k w (a : Int) (b : Int)) (hasPower w a b) := by
  unfold impl_HasPower.f; refine Ev.ite (fun h => ?_) (fun h => ?_)
  · have hf : hasPower w a b = false := hasPower_no _ _ _ (fun h => by have := h.1; omega); rw [hf]; exact Ev.step (fun k => by simp only [impl_HasPower.j0]; rw [_root_.if_pos trivial]) (Ev.some _)
  · refine Ev.if_neg (by omega) (Ev.if_neg (by omega) (Ev.if_neg (by omega) ?_)); rw [decide_eq_false (by omega)]; refine Ev.step (fun k => by simp only [impl_HasPower.j0]; rw [_root_.if_neg (by decide)]) ?_; have key : ∀ r : Bool, (r = true ↔ PW w a b) → ∀ d p, p + d = w.length + 1 → 1 ≤ p → (∀ q i L, 1 ≤ q → q < p → i + q < w.length → per w q i L → ¬ q * a ≤ (q + L) * b) → Ev (fun k => impl_HasPower.l0 k w (a : Int) (b : Int) (p : Int)) r := by
      intro r hr d
      induction d with
      | zero =>
        intro p hpd hp hno; refine Ev.step (fun k => by simp only [impl_HasPower.l0]; rw [_root_.if_neg (by omega)]) (Ev.same (Ev.some false) ?_); cases r with
        | false => rfl
        | true =>
          obtain ⟨_, i, p', L, h1, h2, h3, h4⟩ := hr.1 rfl; exact absurd h4 (hno p' i L h1 (by omega) h2 h3)
      | succ d ih =>
        intro p hpd hp hno; obtain ⟨M, g0, ⟨i, g1⟩, g2, g3⟩ := longest_ev w p hp hw (by omega); refine Ev.step (fun k => by simp only [impl_HasPower.l0]; rw [_root_.if_pos (by omega)]) ?_; refine Ev.bind g3 ?_; have e1 : wrap64 (((M + p : Nat) : Int) * (b : Int)) = (((M + p) * b : Nat) : Int) := by
          have h2 : (M + p) * b ≤ 400 * 20 := Nat.mul_le_mul (show M + p ≤ 400 from by omega) (show b ≤ 20 from by omega); have h3 : (M + p) * b ≤ 100000 := Nat.le_trans h2 (by decide); clear h2; rw [← Int.natCast_mul]; exact w_id (by omega) (by omega)
        have e2 : wrap64 ((a : Int) * (p : Int)) = ((p * a : Nat) : Int) := by
          have h2 : p * a ≤ 256 * 20 := Nat.mul_le_mul (show p ≤ 256 from by omega) (show a ≤ 20 from by omega); have h3 : p * a ≤ 100000 := Nat.le_trans h2 (by decide); clear h2; rw [Int.mul_comm, ← Int.natCast_mul]; exact w_id (by omega) (by omega)
        rw [e1, e2]; refine Ev.ite (fun c => ?_) (fun c => ?_)
        · refine Ev.same (Ev.some true) ?_; symm; refine hr.2 ⟨by omega, ?_⟩; by_cases hM : M = 0
          · subst hM; have h7 := Nat.mul_lt_mul_of_pos_left hb.2 (show 0 < p from hp); rw [Nat.zero_add] at c; exact absurd (Int.ofNat_le.1 c) (Nat.not_le.2 h7)
          · have := per_bound g1 (by omega); exact ⟨i, p, M, hp, by omega, g1, by rw [Nat.add_comm p M]; exact Int.ofNat_le.1 c⟩
        · refine Ev.congr (fun k => by rw [wsucc (by omega)]) (ih (p + 1) (by omega) (by omega) (fun q' j L h1 h2 h3 h4 h5 => ?_)); by_cases e : q' = p
          · subst e; exact c (Int.ofNat_le.2 (Nat.le_trans h5 (Nat.mul_le_mul_right b (by rw [Nat.add_comm M]; exact Nat.add_le_add_left (g2 j L h4) q'))))
          · exact hno q' j L h1 (by omega) h3 h4 h5
    exact key _ (hasPower_iff w a b) w.length 1 (by omega) (Nat.le_refl _) (fun q i L h1 h2 => by omega)
theorem specSquare_ev (w : List Int) (hw : w.length ≤ 1048576) : Ev (fun k => spec_HasSquare.f k w) (hasPower w 2 1) := by
  unfold spec_HasSquare.f; exact Ev.bind (specPower_ev w 2 1 (by omega) (by omega) hw) (Ev.some _)
theorem implSquare_ev (w : List Int) (hw : w.length ≤ 1048576) : Ev (fun k => impl_HasSquare.f k w) (hasPower w 2 1) := by
  unfold impl_HasSquare.f; exact Ev.bind (implPower_ev w 2 1 (by omega) (by omega) hw) (Ev.some _)
theorem implOverlap_ev (w : List Int) (hw : w.length ≤ 1048576) : Ev (fun k => impl_HasOverlap.f k w) (hasOverlap w) := by
  unfold impl_HasOverlap.f; refine Ev.ite (fun h => ?_) (fun h => ?_)
  · have hf : hasOverlap w = false := hasOverlap_no _ (fun h => by have := h.1; omega); rw [hf]; exact Ev.some _
  · have key : ∀ r : Bool, (r = true ↔ OV w) → ∀ d p, p + d = w.length + 1 → 1 ≤ p → (∀ q i L, 1 ≤ q → q < p → per w q i L → ¬ q < L) → Ev (fun k => impl_HasOverlap.l0 k w (p : Int)) r := by
      intro r hr d
      induction d with
      | zero =>
        intro p hpd hp hno; refine Ev.step (fun k => by simp only [impl_HasOverlap.l0]; rw [_root_.if_neg (by omega)]) (Ev.same (Ev.some false) ?_); cases r with
        | false => rfl
        | true =>
          obtain ⟨_, i, p', L, h1, h3, h4⟩ := hr.1 rfl; exact absurd h4 (hno p' i L h1 (by have := per_bound h3 (by omega); omega) h3)
      | succ d ih =>
        intro p hpd hp hno; obtain ⟨M, g0, ⟨i, g1⟩, g2, g3⟩ := longest_ev w p hp hw (by omega); refine Ev.step (fun k => by simp only [impl_HasOverlap.l0]; rw [_root_.if_pos (by omega)]) ?_; refine Ev.bind g3 ?_; rw [w_id (a := 2 * (p : Int)) (by omega) (by omega)]; refine Ev.ite (fun c => ?_) (fun c => ?_)
        · refine Ev.same (Ev.some true) ?_; symm; exact hr.2 ⟨by omega, i, p, M, hp, g1, by omega⟩
        · refine Ev.congr (fun k => by rw [wsucc (by omega)]) (ih (p + 1) (by omega) (by omega) (fun q' j L h1 h2 h4 h5 => ?_)); by_cases e : q' = p
          · subst e; have := g2 j L h4; omega
          · exact hno q' j L h1 (by omega) h4 h5
    exact key _ (hasOverlap_iff w) w.length 1 (by omega) (Nat.le_refl _) (fun q i L h1 h2 => by omega)
theorem specOverlap_ev (w : List Int) (hw : w.length ≤ 1048576) : Ev (fun k => spec_HasOverlap.f k w) (hasOverlap w) := by
  unfold spec_HasOverlap.f; by_cases h128 : w.length ≤ 128
  · have inner : ∀ (i : Nat) (r : Bool), i < w.length → ((∀ p L, 1 ≤ p → per w p i L → ¬ p < L) → Ev (fun k => spec_HasOverlap.l0 k w ((i + 1 : Nat) : Int)) r) → (r = false → ∀ p L, 1 ≤ p → per w p i L → ¬ p < L) →
        ∀ d p, p + d = w.length → 1 ≤ p → (∀ q L, 1 ≤ q → q < p → per w q i L → ¬ q < L) → Ev (fun k => spec_HasOverlap.l1 k w (i : Int) (p : Int)) r := by
      intro i r hi hr hr1 d; have big : ∀ q L, w.length ≤ i + 2 * q → per w q i L → ¬ q < L := fun q L h1 h2 h3 => by have := per_bound h2 (by omega); omega
      induction d with
      | zero =>
        intro p hpd hp hno; refine Ev.step (fun k => by simp only [spec_HasOverlap.l1]; rw [w_id (a := 2 * (p : Int)) (by omega) (by omega), w_id (a := (i : Int) + (2 * (p : Int))) (by omega) (by omega), _root_.if_neg (by omega), wsucc (by omega)]) (hr (fun q L h1 h3 => ?_)); by_cases e : q < p
        · exact hno q L h1 e h3
        · exact big q L (by omega) h3
      | succ d ih =>
        intro p hpd hp hno; by_cases q : i + 2 * p < w.length
        · obtain ⟨M, g1, g2, g3⟩ := l10_ev w i p hp hw (by omega); refine Ev.step (fun k => by simp only [spec_HasOverlap.l1]; rw [w_id (a := 2 * (p : Int)) (by omega) (by omega), w_id (a := (i : Int) + (2 * (p : Int))) (by omega) (by omega), _root_.if_pos (by omega)]) ?_; refine Ev.bind g3 ?_; refine Ev.ite (fun c => ?_) (fun c => ?_)
          · refine Ev.same (Ev.some true) ?_; cases r with
            | true => rfl
            | false => exact absurd (show p < M by omega) (hr1 rfl p M hp g1)
          · refine Ev.congr (fun k => by rw [wsucc (by omega)]) (ih (p + 1) (by omega) (by omega) (fun q' L h1 h2 h4 h5 => ?_)); by_cases e : q' = p
            · subst e; rcases Nat.lt_or_ge M L with hlt | hge
              · exact absurd (per_le h4 (show M + 1 ≤ L from hlt)) g2
              · omega
            · exact hno q' L h1 (by omega) h4 h5
        · refine Ev.step (fun k => by simp only [spec_HasOverlap.l1]; rw [w_id (a := 2 * (p : Int)) (by omega) (by omega), w_id (a := (i : Int) + (2 * (p : Int))) (by omega) (by omega), _root_.if_neg (by omega), wsucc (by omega)]) (hr (fun q' L h1 h3 => ?_)); by_cases e : q' < p
          · exact hno q' L h1 e h3
          · exact big q' L (by omega) h3
    have outer : ∀ r : Bool, (r = true ↔ OV w) → ∀ i, i ≤ w.length → (∀ j p L, j < i → 1 ≤ p → per w p j L → ¬ p < L) → Ev (fun k => spec_HasOverlap.l0 k w (i : Int)) r := by
      intro r hr; refine down w.length ?_ ?_
      · intro hno; refine Ev.step (fun k => by simp only [spec_HasOverlap.l0]; rw [_root_.if_neg (by omega)]) ?_; refine Ev.step (fun k => by simp only [spec_HasOverlap.j1]; rw [_root_.if_neg (by decide)]) (Ev.same (Ev.some false) ?_); cases r with
        | false => rfl
        | true =>
          obtain ⟨_, i, p, L, h1, h3, h4⟩ := hr.1 rfl; exact absurd h4 (hno i p L (by have := per_bound h3 (by omega); omega) h1 h3)
      · intro i hi ih hno; refine Ev.step (fun k => by simp only [spec_HasOverlap.l0]; rw [_root_.if_pos (by omega), decide_eq_true (by omega)]) ?_; refine Ev.step (fun k => by simp only [spec_HasOverlap.j1]; rw [_root_.if_pos trivial]) ?_; refine inner i r hi (fun h => ih (fun j p L hj h1 h3 => ?_)) (fun e p L h1 h3 h4 => ?_) (w.length - 1) 1 (by omega) (Nat.le_refl _) (fun q L h1 h2 => by omega)
        · by_cases e : j = i
          · subst e; exact h p L h1 h3
          · exact hno j p L (by omega) h1 h3
        · have := hr.2 ⟨h128, i, p, L, h1, h3, h4⟩; rw [e] at this; cases this
    exact outer _ (hasOverlap_iff w) 0 (by omega) (fun j p L h => by omega)
  · have hf : hasOverlap w = false := hasOverlap_no _ (fun h => h128 h.1); rw [hf]; refine Ev.step (fun k => by simp only [spec_HasOverlap.l0]; rw [_root_.if_pos (by omega), decide_eq_false (by omega)]) ?_; exact Ev.step (fun k => by simp only [spec_HasOverlap.j1]; rw [_root_.if_neg (by decide)]) (Ev.some _)
end Go.Proofs.Ytooamcjgejajeaa.M
/- What the laws' own small functions on rows of rows come to. No condition but lengths that fit. -/
namespace Go.Proofs.Ytooamcjgejajeaa.M
open Go.RowKit Go.Proofs.YtooamcjgejajeaaW.PrintWords Go.Proofs.Ytooamcjgejajeaa.K
theorem rdLL (xs : List (List Int)) (i : Nat) (h : i < xs.length) : rd_L1 xs (i : Int) = xs[i] := by
  unfold rd_L1; rw [Int.toNat_natCast, List.getD_eq_getElem?_getD, List.getElem?_eq_getElem h]; rfl
end Go.Proofs.Ytooamcjgejajeaa.M
/- The words of a length without squares, or without overlaps: the reference's words are those of fw. No condition but that there is room. -/
namespace Go.Proofs.Ytooamcjgejajeaa.M
open Go.RowKit Go.Proofs.YtooamcjgejajeaaW.PrintWords Go.Proofs.YtooamcjgejajeaaW.PrintMore Go.Proofs.Ytooamcjgejajeaa.K
noncomputable def tst (ov : Bool) (w : List Int) : Bool := if ov = true then !hasOverlap w else !hasPower w 2 1
theorem l29_ev (m n : Nat) (ov : Bool) (hm : m ≤ 1000) (hn : n ≤ 1000) (hroom : ∀ i, i ≤ n → m ^ i ≤ 1000000000000) : Ev (fun k => spec_l29Words.f k (m : Int) (n : Int) ov) (fw m (tst ov) n) := by
  have l2 : ∀ (ws : List (List Int)) (i q : Nat) (acc : List (List Int)) (r : List (List Int)) (hq : q < ws.length), ws.length ≤ 1000000000000 → ws[q].length ≤ 1000 → acc.length + m ≤ 1000000000000 →
      Ev (fun k => spec_l29Words.l1 k (m : Int) (n : Int) ov ws (i : Int) (acc ++ ext (tst ov) ws[q] m) ((q + 1 : Nat) : Int)) r → ∀ a, a ≤ m →
      Ev (fun k => spec_l29Words.l2 k (m : Int) (n : Int) ov ws (i : Int) (acc ++ ext (tst ov) ws[q] a) (q : Int) (a : Int)) r := by
    intro ws i q acc r hq hwl hwq hacc hr; refine down m ?_ ?_
    · exact Ev.step (fun k => by simp only [spec_l29Words.l2]; rw [_root_.if_neg (by omega), wsucc (by omega)]) hr
    · intro a ha ih; have hel := ext_le (tst ov) ws[q] a; refine Ev.step (fun k => by simp only [spec_l29Words.l2]; rw [_root_.if_pos (by omega)]) ?_; refine Ev.congr (fun k => Option.bind_some _ _) ?_; refine Ev.if_pos (by omega) (Ev.if_pos (by omega) ?_); rw [rdLL ws q hq, List.nil_append]; refine Ev.if_pos (by simp only [List.length_nil]; omega) ?_; refine Ev.congr (fun k => Option.bind_some _ _) ?_; refine Ev.if_pos (by omega) ?_; refine Ev.congr (fun k => Option.bind_some _ _) ?_; rw [ext_succ] at ih; have hl : (ws[q] ++ [(a : Int)]).length ≤ 1048576 := by rw [List.length_append]; simp; omega
      have fin : ∀ t : Bool, tst ov (ws[q] ++ [(a : Int)]) = !t → Ev (fun k => if t = true then spec_l29Words.l2 k (m : Int) (n : Int) ov ws (i : Int) (acc ++ ext (tst ov) ws[q] a) (q : Int) (wrap64 ((a : Int) + 1)) else if (acc ++ ext (tst ov) ws[q] a).length < 5864062014805 then spec_l29Words.l2 k (m : Int) (n : Int) ov ws (i : Int) ((acc ++ ext (tst ov) ws[q] a) ++ [ws[q] ++ [(a : Int)]]) (q : Int) (wrap64 ((a : Int) + 1)) else none) r := by
        intro t ht; refine Ev.ite (fun c => ?_) (fun c => ?_)
        · rw [ht, c] at ih; refine Ev.congr (fun k => by rw [wsucc (by omega)]) ?_; simpa using ih
        · rw [ht, Bool.eq_false_iff.2 c] at ih; refine Ev.if_pos (by rw [List.length_append]; omega) ?_; refine Ev.congr (fun k => by rw [wsucc (by omega), List.append_assoc]) ?_; simpa using ih
      refine Ev.ite (fun c => ?_) (fun c => ?_)
      · refine Ev.bind (specOverlap_ev _ hl) (fin _ ?_); unfold tst; rw [_root_.if_pos c]
      · refine Ev.bind (specSquare_ev _ hl) (fin _ ?_); unfold tst; rw [_root_.if_neg c]
  have l1 : ∀ (i : Nat) (ws : List (List Int)) (r : List (List Int)), i < n → ws.length ≤ 1000000000000 → m * ws.length ≤ 1000000000000 → (∀ u ∈ ws, u.length ≤ 1000) →
      Ev (fun k => spec_l29Words.l0 k (m : Int) (n : Int) ov (fwStep m (tst ov) ws) ((i + 1 : Nat) : Int)) r → ∀ q, q ≤ ws.length →
      Ev (fun k => spec_l29Words.l1 k (m : Int) (n : Int) ov ws (i : Int) (fwStep m (tst ov) (ws.take q)) (q : Int)) r := by
    intro i ws r hi hwl hml hu hr; refine down ws.length ?_ ?_
    · refine Ev.step (fun k => by simp only [spec_l29Words.l1]; rw [_root_.if_neg (by omega), wsucc (by omega), List.take_length]) hr
    · intro q hq ih; refine Ev.step (fun k => by simp only [spec_l29Words.l1]; rw [_root_.if_pos (by omega)]) ?_; rw [fwStep_take m (tst ov) ws q hq] at ih; have h1 : (fwStep m (tst ov) (ws.take q)).length ≤ m * q := by have := fwStep_le m (tst ov) (ws.take q); rwa [List.length_take, Nat.min_eq_left (by omega)] at this
      have h2 : m * q + m ≤ m * ws.length := by have := Nat.mul_le_mul_left m (show q + 1 ≤ ws.length from hq); rwa [Nat.mul_add, Nat.mul_one] at this
      have := l2 ws i q _ r hq hwl (hu _ (List.getElem_mem hq)) (by omega) ih 0 (by omega); simpa [ext] using this
  have l0 : ∀ i, i ≤ n → Ev (fun k => spec_l29Words.l0 k (m : Int) (n : Int) ov (fw m (tst ov) i) (i : Int)) (fw m (tst ov) n) := by
    refine down n ?_ ?_
    · exact Ev.step (fun k => by simp only [spec_l29Words.l0]; rw [_root_.if_neg (by omega)]) (Ev.some _)
    · intro i hi ih; refine Ev.step (fun k => by simp only [spec_l29Words.l0]; rw [_root_.if_pos (by omega)]) ?_; have h1 := fw_le m (tst ov) i; have h2 := hroom i (by omega); have h3 := hroom (i + 1) (by omega); have := l1 i (fw m (tst ov) i) _ hi (by omega) (Nat.le_trans (Nat.mul_le_mul_left m h1) (by rwa [Nat.pow_succ, Nat.mul_comm] at h3)) (fun u hu => by rw [fw_len m (tst ov) i u hu]; omega) ih 0 (by omega); simpa [fwStep] using this
  unfold spec_l29Words.f; exact l0 0 (by omega)
theorem small_pow (m n : Nat) (hm : m ≤ 4) (hn : n ≤ 10) : ∀ i, i ≤ n → m ^ i ≤ 1000000000000 := by
  intro i hi; refine Nat.le_trans (Nat.pow_le_pow_left hm i) (Nat.le_trans (Nat.pow_le_pow_right (by omega) (show i ≤ 10 by omega)) (by decide))
end Go.Proofs.Ytooamcjgejajeaa.M
namespace Go.Proofs.Ytooamcjgejajeaa.M
open Go.RowKit Go.Proofs.Ytooamcjgejajeaa.KW Go.Proofs.YtooamcjgejajeaaW.PrintWords Go.Proofs.YtooamcjgejajeaaW.PrintLast Go.Proofs.YtooamcjgejajeaaW.PrintMore
attribute [local go_sem] max2_int min2_int max_two min_two max_three min_three max_four min_four
set_option linter.unusedVariables false
set_option linter.unusedSimpArgs false
def impl_isOverlapFree.f (k : Nat) (l0 : List Int) : Option (Bool) := (impl_HasOverlap.f k l0).bind fun t459 => (some (!t459))
theorem impl_isOverlapFree.mono : ∀ a0 k, LeO (impl_isOverlapFree.f k a0) (impl_isOverlapFree.f (k + 1) a0) := by
 intro a0 k; unfold impl_isOverlapFree.f
 repeat' first
   | (with_reducible exact impl_HasOverlap.mono _ _)
   | (with_reducible exact LeO.refl _)
   | (with_reducible exact LeO.none _)
   | (with_reducible refine LeO.ite ?_ ?_)
   | (with_reducible refine LeO.bind ?_ (fun _ => ?_))
set_option maxHeartbeats 8000000 in
set_option maxRecDepth 100000 in
theorem impl_isOverlapFree.calls (k : Nat) (A0 : Option Addr) (c0 : Nat) (l0 : List Int) (r : Bool) (w : World) (hr0 : Kd.C (Kd.int .i64) w A0 l0.length l0) (hc0 : l0.length ≤ c0) (h : impl_isOverlapFree.f k l0 = some r) :
  Calls Try.prog 119 #[.slice A0 l0.length c0] w fun e w' => e = .returned (.bool r) ∧ Below w.heap.size w w' := by
 have HR0 := am hr0; have HC0 := am hc0; clear hr0 hc0; have HB := am (Below.refl w.heap.size w); have H : ((impl_HasOverlap.f k l0).bind fun t459 => (some (!t459))) = some r := h; clear h; replace H := Option.bind_eq_some_iff.mp H; obtain ⟨t459, A20, H⟩ := H; replace H : (some (!t459)) = some r := H; have A2 := am A20; clear A20; obtain rfl := Option.some.inj H; go_enter Try.func119, Try.ntmps119; go_wp2_with (first | ((with_reducible refine gate_callee (f := 52) rfl ?_); refine goesL_ (some 4) rfl rfl Try.func52 (by kernel_rfl) rfl #[.slice A0 l0.length c0] rfl (by (try simp only [mT, mC, mN]); first | done | rfl) ?_; (with_reducible refine (impl_HasOverlap.calls k _ _ l0 t459 _ ?side1 ?side2 A2.out).mono ?_); (case side1 => exact xC (HR0.out)); (case side2 => exact HC0.out); rintro e w3 ⟨rfl, hb⟩; refine ⟨_, rfl, ?_⟩; replace HB := am (below_step (by exact rB HB) hb); clear hb)); go_ret; exact ⟨by first | rfl | (simp [errW_none, errW_some] <;> rfl) | (simp [*, errW_none, errW_some] <;> rfl), by exact rB HB⟩
def impl_isSquareFree.f (k : Nat) (l0 : List Int) : Option (Bool) := (impl_HasSquare.f k l0).bind fun t563 => (some (!t563))
theorem impl_isSquareFree.mono : ∀ a0 k, LeO (impl_isSquareFree.f k a0) (impl_isSquareFree.f (k + 1) a0) := by
 intro a0 k; unfold impl_isSquareFree.f
 repeat' first
   | (with_reducible exact impl_HasSquare.mono _ _)
   | (with_reducible exact LeO.refl _)
   | (with_reducible exact LeO.none _)
   | (with_reducible refine LeO.ite ?_ ?_)
   | (with_reducible refine LeO.bind ?_ (fun _ => ?_))
set_option maxHeartbeats 8000000 in
set_option maxRecDepth 100000 in
theorem impl_isSquareFree.calls (k : Nat) (A0 : Option Addr) (c0 : Nat) (l0 : List Int) (r : Bool) (w : World) (hr0 : Kd.C (Kd.int .i64) w A0 l0.length l0) (hc0 : l0.length ≤ c0) (h : impl_isSquareFree.f k l0 = some r) :
  Calls Try.prog 121 #[.slice A0 l0.length c0] w fun e w' => e = .returned (.bool r) ∧ Below w.heap.size w w' := by
 have HR0 := am hr0; have HC0 := am hc0; clear hr0 hc0; have HB := am (Below.refl w.heap.size w); have H : ((impl_HasSquare.f k l0).bind fun t563 => (some (!t563))) = some r := h; clear h; replace H := Option.bind_eq_some_iff.mp H; obtain ⟨t563, A20, H⟩ := H; replace H : (some (!t563)) = some r := H; have A2 := am A20; clear A20; obtain rfl := Option.some.inj H; go_enter Try.func121, Try.ntmps121; go_wp2_with (first | ((with_reducible refine gate_callee (f := 53) rfl ?_); refine goesL_ (some 4) rfl rfl Try.func53 (by kernel_rfl) rfl #[.slice A0 l0.length c0] rfl (by (try simp only [mT, mC, mN]); first | done | rfl) ?_; (with_reducible refine (impl_HasSquare.calls k _ _ l0 t563 _ ?side1 ?side2 A2.out).mono ?_); (case side1 => exact xC (HR0.out)); (case side2 => exact HC0.out); rintro e w3 ⟨rfl, hb⟩; refine ⟨_, rfl, ?_⟩; replace HB := am (below_step (by exact rB HB) hb); clear hb)); go_ret; exact ⟨by first | rfl | (simp [errW_none, errW_some] <;> rfl) | (simp [*, errW_none, errW_some] <;> rfl), by exact rB HB⟩
end Go.Proofs.Ytooamcjgejajeaa.M
/- The program's counts and lists of words without squares or overlaps, walked. No condition. -/
namespace Go.Proofs.Ytooamcjgejajeaa.M
open Go.RowKit Go.Proofs.YtooamcjgejajeaaW.PrintWords Go.Proofs.YtooamcjgejajeaaW.PrintLast Go.Proofs.YtooamcjgejajeaaW.PrintMore Go.Proofs.Ytooamcjgejajeaa.K Go.Proofs.Ytooamcjgejajeaa.KW
set_option linter.unusedVariables false
set_option linter.unusedSimpArgs false
theorem isOV_ev (w : List Int) (hw : w.length ≤ 1048576) : Ev (fun k => impl_isOverlapFree.f k w) (tst true w) := by
  unfold impl_isOverlapFree.f; exact Ev.bind (implOverlap_ev w hw) (Ev.some _)
theorem isSQ_ev (w : List Int) (hw : w.length ≤ 1048576) : Ev (fun k => impl_isSquareFree.f k w) (tst false w) := by
  unfold impl_isSquareFree.f; exact Ev.bind (implSquare_ev w hw) (Ev.some _)
theorem freeOV (m n : Nat) (w : World) (hm : m ≤ 4) (hn : n ≤ 10) :
    Calls Try.prog 118 #[.int .i64 m, .int .i64 n, .func (.func 119) #[] #[]] w fun e w' => ∃ v0_ : Value, e = .returned v0_ ∧ Kd.S (Kd.slice 3 (Kd.int .i64)) 36 w' w.heap.size (fun _ => True) v0_ (fw m (tst true) n) ∧ Below w.heap.size w w' := by
  refine freeWords_calls 119 _ #[] (tst true) m n w Try.func119 (by kernel_rfl) rfl (by omega) (by omega) (small_pow m n hm hn) ?_; intro W A c xs hB hC hc hl; obtain ⟨k, hk⟩ := (isOV_ev xs (by omega)).rounds; rw [Array.append_empty]; exact impl_isOverlapFree.calls k A c xs _ W hC hc hk
theorem freeSQ (m n : Nat) (w : World) (hm : m ≤ 4) (hn : n ≤ 10) :
    Calls Try.prog 118 #[.int .i64 m, .int .i64 n, .func (.func 121) #[] #[]] w fun e w' => ∃ v0_ : Value, e = .returned v0_ ∧ Kd.S (Kd.slice 3 (Kd.int .i64)) 36 w' w.heap.size (fun _ => True) v0_ (fw m (tst false) n) ∧ Below w.heap.size w w' := by
  refine freeWords_calls 121 _ #[] (tst false) m n w Try.func121 (by kernel_rfl) rfl (by omega) (by omega) (small_pow m n hm hn) ?_; intro W A c xs hB hC hc hl; obtain ⟨k, hk⟩ := (isSQ_ev xs (by omega)).rounds; rw [Array.append_empty]; exact impl_isSquareFree.calls k A c xs _ W hC hc hk
end Go.Proofs.Ytooamcjgejajeaa.M
/- The program's list of words that pass a test, for one test: in the form of the printed walks. No condition. -/
namespace Go.Proofs.Ytooamcjgejajeaa.M
open Go.RowKit Go.Proofs.YtooamcjgejajeaaW.PrintWords Go.Proofs.YtooamcjgejajeaaW.PrintLast Go.Proofs.YtooamcjgejajeaaW.PrintMore Go.Proofs.Ytooamcjgejajeaa.K
set_option linter.unusedVariables false
noncomputable def impl_freeWords_of119.f (k : Nat) (a0 : Int) (a1 : Int) : Option ((List (List Int))) := if (0 ≤ a0 ∧ a0 ≤ 4) ∧ 0 ≤ a1 ∧ a1 ≤ 10 then some (fw a0.toNat (tst true) a1.toNat) else none
theorem impl_freeWords_of119.mono : ∀ a0 a1 k, LeO (impl_freeWords_of119.f k a0 a1) (impl_freeWords_of119.f (k + 1) a0 a1) := fun a0 a1 k => LeO.refl _
theorem impl_freeWords_of119.ev (m n : Nat) (hm : m ≤ 4) (hn : n ≤ 10) : Ev (fun k => impl_freeWords_of119.f k (m : Int) (n : Int)) (fw m (tst true) n) := by
  unfold impl_freeWords_of119.f; exact Ev.if_pos (by omega) (Ev.same (Ev.some _) (by simp))
theorem impl_freeWords_of119.calls (k : Nat) (a0 : Int) (a1 : Int) (r : List (List Int)) (w : World) (h : impl_freeWords_of119.f k a0 a1 = some r) :
    Calls Try.prog 118 #[.int .i64 a0, .int .i64 a1, .func (.func 119) #[] #[]] w fun e w' => ∃ v0_ : Value, e = .returned (v0_) ∧ Kd.N (Kd.slice 3 (Kd.int .i64)) 36 w' w.heap.size (fun k_ => (w.heap.size ≤ k_)) v0_ r ∧ Below w.heap.size w w' := by
  unfold impl_freeWords_of119.f at h; split at h
  · rename_i q; obtain ⟨m, rfl⟩ : ∃ m : Nat, a0 = (m : Int) := ⟨a0.toNat, by omega⟩; obtain ⟨n, rfl⟩ : ∃ n : Nat, a1 = (n : Int) := ⟨a1.toNat, by omega⟩; rw [Int.toNat_natCast, Int.toNat_natCast] at h; obtain rfl := Option.some.inj h; refine (freeOV m n w (by omega) (by omega)).mono ?_; rintro e w1 ⟨v, rfl, hS, hB⟩; exact ⟨v, rfl, Kd.S_N (Kd.S_mono (Kd.S_bound hS) (fun _ hk => hk.2.1)), hB⟩
  · exact absurd h (by simp)
end Go.Proofs.Ytooamcjgejajeaa.M
namespace Go.Proofs.Ytooamcjgejajeaa.M
noncomputable section
open Go.RowKit Go.Proofs.Ytooamcjgejajeaa.KW Go.Proofs.YtooamcjgejajeaaW.PrintWords Go.Proofs.YtooamcjgejajeaaW.PrintLast Go.Proofs.YtooamcjgejajeaaW.PrintMore
attribute [local go_sem] max2_int min2_int max_two min_two max_three min_three max_four min_four
set_option linter.unusedVariables false
set_option linter.unusedSimpArgs false
mutual
def impl_KeepsOverlapFree.j0 : Nat → Int → Bool → List (List Int) → Option (Bool)
 | 0, _, _, _ => none
 | k + 1, x1, x25, x484000 => if x25 = true then (some false) else ((impl_freeWords_of119.f k 2 x1).bind fun t485 => (impl_KeepsOverlapFree.l0 k t485 (t485.length : Int) 0 x484000))
def impl_KeepsOverlapFree.l0 : Nat → List (List Int) → Int → Int → List (List Int) → Option (Bool)
 | 0, _, _, _, _ => none
 | k + 1, x27, x28, x29, x484000 => if x29 < x28 then (if 0 ≤ x29 then (if x29 < (x27.length : Int) then ((impl_ApplyMorphism.f k x484000 (rd_L1 x27 x29)).bind fun bt489 => (if bt489.2 = true then ((impl_HasOverlap.f k bt489.1).bind fun t493 => (if t493 = true then (some false) else (impl_KeepsOverlapFree.l0 k x27 x28 (wrap64 (x29 + 1)) x484000))) else (some false))) else (none)) else (none)) else (some true)
end
def impl_KeepsOverlapFree.f (k : Nat) (l0_0 : List (List Int)) (a1 : Int) : Option (Bool) := (impl_IsMorphism.f k l0_0).bind fun t484 => (if t484 = true then (if (l0_0.length : Int) = 2 then (if a1 < 0 then (impl_KeepsOverlapFree.j0 k a1 true l0_0) else (impl_KeepsOverlapFree.j0 k a1 (decide (a1 > 5)) l0_0)) else (impl_KeepsOverlapFree.j0 k a1 true l0_0)) else (impl_KeepsOverlapFree.j0 k a1 true l0_0))
theorem impl_KeepsOverlapFree.mono_l : ∀ k, (∀ y0 y1 y2, LeO (impl_KeepsOverlapFree.j0 k y0 y1 y2) (impl_KeepsOverlapFree.j0 (k + 1) y0 y1 y2)) ∧ (∀ y0 y1 y2 y3, LeO (impl_KeepsOverlapFree.l0 k y0 y1 y2 y3) (impl_KeepsOverlapFree.l0 (k + 1) y0 y1 y2 y3))
 | 0 => ⟨fun _ _ _ r h => by simp [impl_KeepsOverlapFree.j0] at h, fun _ _ _ _ r h => by simp [impl_KeepsOverlapFree.l0] at h⟩
 | k + 1 => by
  obtain ⟨ih0, ih1⟩ := impl_KeepsOverlapFree.mono_l k; refine ⟨?_, ?_⟩
  ·intro y0 y1 y2; unfold impl_KeepsOverlapFree.j0
   repeat' first
   | (with_reducible exact ih0 _ _ _)
   | (with_reducible exact ih1 _ _ _ _)
   | (with_reducible exact impl_ApplyMorphism.mono _ _ _)
   | (with_reducible exact impl_HasOverlap.mono _ _)
   | (with_reducible exact impl_IsMorphism.mono _ _)
   | (with_reducible exact impl_freeWords_of119.mono _ _ _)
   | (with_reducible exact LeO.refl _)
   | (with_reducible exact LeO.none _)
   | (with_reducible refine LeO.ite ?_ ?_)
   | (with_reducible refine LeO.bind ?_ (fun _ => ?_))
  ·intro y0 y1 y2 y3; unfold impl_KeepsOverlapFree.l0
   repeat' first
   | (with_reducible exact ih0 _ _ _)
   | (with_reducible exact ih1 _ _ _ _)
   | (with_reducible exact impl_ApplyMorphism.mono _ _ _)
   | (with_reducible exact impl_HasOverlap.mono _ _)
   | (with_reducible exact impl_IsMorphism.mono _ _)
   | (with_reducible exact impl_freeWords_of119.mono _ _ _)
   | (with_reducible exact LeO.refl _)
   | (with_reducible exact LeO.none _)
   | (with_reducible refine LeO.ite ?_ ?_)
   | (with_reducible refine LeO.bind ?_ (fun _ => ?_))
theorem impl_KeepsOverlapFree.mono : ∀ a0 a1 k, LeO (impl_KeepsOverlapFree.f k a0 a1) (impl_KeepsOverlapFree.f (k + 1) a0 a1) := by
 intro a0 a1 k; obtain ⟨ih0, ih1⟩ := impl_KeepsOverlapFree.mono_l k; unfold impl_KeepsOverlapFree.f
 repeat' first
   | (with_reducible exact ih0 _ _ _)
   | (with_reducible exact ih1 _ _ _ _)
   | (with_reducible exact impl_ApplyMorphism.mono _ _ _)
   | (with_reducible exact impl_HasOverlap.mono _ _)
   | (with_reducible exact impl_IsMorphism.mono _ _)
   | (with_reducible exact impl_freeWords_of119.mono _ _ _)
   | (with_reducible exact LeO.refl _)
   | (with_reducible exact LeO.none _)
   | (with_reducible refine LeO.ite ?_ ?_)
   | (with_reducible refine LeO.bind ?_ (fun _ => ?_))
set_option maxHeartbeats 8000000 in
set_option maxRecDepth 100000 in
theorem impl_KeepsOverlapFree.calls (k : Nat) (A0_0 : Option Addr) (c0_0 : Nat) (l0_0 : List (List Int)) (a1 : Int) (r : Bool) (w : World) (hr0_0 : Kd.C (Kd.slice 3 (Kd.int .i64)) w A0_0 l0_0.length l0_0) (hc0_0 : l0_0.length ≤ c0_0) (h : impl_KeepsOverlapFree.f k l0_0 a1 = some r) :
  Calls Try.prog 34 #[.agg #[.slice A0_0 l0_0.length c0_0], .int .i64 a1] w fun e w' => e = .returned (.bool r) ∧ Below w.heap.size w w' := by
 have hu28 := Try.underlying28; have HR0_0 := am hr0_0; have HC0_0 := am hc0_0; clear hr0_0 hc0_0; have HB := am (Below.refl w.heap.size w); have H : ((impl_IsMorphism.f k l0_0).bind fun t484 => (if t484 = true then (if (l0_0.length : Int) = 2 then (if a1 < 0 then (impl_KeepsOverlapFree.j0 k a1 true l0_0) else (impl_KeepsOverlapFree.j0 k a1 (decide (a1 > 5)) l0_0)) else (impl_KeepsOverlapFree.j0 k a1 true l0_0)) else (impl_KeepsOverlapFree.j0 k a1 true l0_0))) = some r := h; clear h; have HC3 := am H; clear H; go_enter Try.func34, Try.ntmps34; go_upto_region 1 with (first | ((with_reducible refine gate_dst (N := 2) rfl ?_); (try (refine gate_guard (by rfl) ?_; dsimp only)); refine box_event ?hg (N := 2) ?hd (cs := #[.slice A0_0 l0_0.length c0_0]) (t := 28) ?hr ?_; (case hd => rfl); (case hg => rfl); (case hr => first | (go_simp; done) | (go_simp; rfl)); intro gb483 hg w4 hbox hb; have BK483 := am (hbox); have GW483 := am ((by rw [hg]; exact (below_size (by exact rB HB)) : w.heap.size ≤ gb483)); have GE483 := am ((by rw [hg]; exact (below_size (by exact rB HB)) : w.heap.size ≤ gb483)); replace HB := am (below_step (by exact rB HB) hb); have qW483 := Ge.mk GW483.out; have qE483 := Ge.mk GE483.out; clear hb hbox hg)); (try simp only [Act.put, qa, qz, qs]); go_cut [25] (fun v25 wc => ∃ (kq : Nat) (x25_2 : Bool), v25 = .bool x25_2 ∧ Aside0 (impl_KeepsOverlapFree.j0 kq a1 x25_2 l0_0 = some r) ∧ Aside0 (kq ≤ k) ∧ Aside0 (wc.heap[gb483]? = some (.cells #[(.slice A0_0 l0_0.length c0_0)] 28 (0, 0))) ∧ Aside0 (Below w.heap.size w wc))
 case first =>
  have H := HC3.out; clear HC3; replace H := Option.bind_eq_some_iff.mp H; obtain ⟨t484, A50, H⟩ := H; replace H : (if t484 = true then (if (l0_0.length : Int) = 2 then (if a1 < 0 then (impl_KeepsOverlapFree.j0 k a1 true l0_0) else (impl_KeepsOverlapFree.j0 k a1 (decide (a1 > 5)) l0_0)) else (impl_KeepsOverlapFree.j0 k a1 true l0_0)) else (impl_KeepsOverlapFree.j0 k a1 true l0_0)) = some r := H; have A5 := am A50; clear A50; by_cases c6 : t484 = true
  ·subst c6; have H1 : (if (l0_0.length : Int) = 2 then (if a1 < 0 then (impl_KeepsOverlapFree.j0 k a1 true l0_0) else (impl_KeepsOverlapFree.j0 k a1 (decide (a1 > 5)) l0_0)) else (impl_KeepsOverlapFree.j0 k a1 true l0_0)) = some r := by rw [if_pos rfl] at H; exact H
   clear H; have H := H1; clear H1; by_cases c7 : (l0_0.length : Int) = 2
   ·rw [if_pos c7] at H; have c7b0 : ((l0_0.length : Int) == 2) = true := beq_iff_eq.mpr c7; have c7b1 : ((l0_0.length : Int) != 2) = false := bne_eq_false_iff_eq.mpr c7; clear c7
    (first | rw [c7b0] | (simp only [i64_w, i32_w]; rw [c7b0]) | skip)
    by_cases c8 : a1 < 0
    ·rw [if_pos c8] at H; have c8b0 : decide (a1 < 0) = true := decide_eq_true c8; clear c8; have H' := am H; clear H; have hcz9_0 : w4.cell? ⟨gb483, 0, none⟩ = some (.slice A0_0 l0_0.length c0_0) := (blk_cell BK483.out 0).trans rfl; have hfz9_0 := blk_frozen BK483.out 0; go_wp2_with (first | ((with_reducible refine gate_callee (f := 108) rfl ?_); refine goesL_ (some 10) rfl rfl Try.func108 (by kernel_rfl) rfl #[.agg #[.slice A0_0 l0_0.length c0_0]] rfl (by (try simp only [mT, mC, mN]); first | done | rfl) ?_; (with_reducible refine (impl_IsMorphism.calls k _ _ l0_0 true _ ?side1 ?side2 A5.out).mono ?_); (case side1 => exact xC ((Kd.C_below HR0_0.out HB.out))); (case side2 => exact HC0_0.out); rintro e w10 ⟨rfl, hb⟩; refine ⟨_, rfl, ?_⟩; replace BK483 := am (blk_below (g := gb483) (o := .cells #[.slice A0_0 l0_0.length c0_0] 28 (0, 0)) (by exact rX BK483) hb); replace HB := am (below_step (by exact rB HB) hb); clear hb; have hcz11_0 : w10.cell? ⟨gb483, 0, none⟩ = some (.slice A0_0 l0_0.length c0_0) := (blk_cell BK483.out 0).trans rfl; have hfz11_0 := blk_frozen BK483.out 0)); go_meet
     case rel => exact ⟨_, (true), (by first | rfl | (simp; done) | (simp [*]; done)), H', ⟨by first | omega | exact Nat.le_refl _⟩, ⟨by exact rX BK483⟩, ⟨by exact rB HB⟩⟩
    ·rw [if_neg c8] at H; have c8b0 : decide (a1 < 0) = false := decide_eq_false c8; clear c8; have H' := am H; clear H; have hcz12_0 : w4.cell? ⟨gb483, 0, none⟩ = some (.slice A0_0 l0_0.length c0_0) := (blk_cell BK483.out 0).trans rfl; have hfz12_0 := blk_frozen BK483.out 0; go_wp2_with (first | ((with_reducible refine gate_callee (f := 108) rfl ?_); refine goesL_ (some 10) rfl rfl Try.func108 (by kernel_rfl) rfl #[.agg #[.slice A0_0 l0_0.length c0_0]] rfl (by (try simp only [mT, mC, mN]); first | done | rfl) ?_; (with_reducible refine (impl_IsMorphism.calls k _ _ l0_0 true _ ?side1 ?side2 A5.out).mono ?_); (case side1 => exact xC ((Kd.C_below HR0_0.out HB.out))); (case side2 => exact HC0_0.out); rintro e w13 ⟨rfl, hb⟩; refine ⟨_, rfl, ?_⟩; replace BK483 := am (blk_below (g := gb483) (o := .cells #[.slice A0_0 l0_0.length c0_0] 28 (0, 0)) (by exact rX BK483) hb); replace HB := am (below_step (by exact rB HB) hb); clear hb; have hcz14_0 : w13.cell? ⟨gb483, 0, none⟩ = some (.slice A0_0 l0_0.length c0_0) := (blk_cell BK483.out 0).trans rfl; have hfz14_0 := blk_frozen BK483.out 0)); go_meet
     case rel => exact ⟨_, (decide (a1 > 5)), (by first | rfl | (simp; done) | (simp [*]; done)), H', ⟨by first | omega | exact Nat.le_refl _⟩, ⟨by exact rX BK483⟩, ⟨by exact rB HB⟩⟩
   ·rw [if_neg c7] at H; have c7b0 : ((l0_0.length : Int) == 2) = false := beq_eq_false_iff_ne.mpr c7; have c7b1 : ((l0_0.length : Int) != 2) = true := bne_iff_ne.mpr c7
    (first | rw [c7b0] | (simp only [i64_w, i32_w]; rw [c7b0]) | skip)
    have H' := am H; clear H; have hcz15_0 : w4.cell? ⟨gb483, 0, none⟩ = some (.slice A0_0 l0_0.length c0_0) := (blk_cell BK483.out 0).trans rfl; have hfz15_0 := blk_frozen BK483.out 0; go_wp2_with (first | ((with_reducible refine gate_callee (f := 108) rfl ?_); refine goesL_ (some 10) rfl rfl Try.func108 (by kernel_rfl) rfl #[.agg #[.slice A0_0 l0_0.length c0_0]] rfl (by (try simp only [mT, mC, mN]); first | done | rfl) ?_; (with_reducible refine (impl_IsMorphism.calls k _ _ l0_0 true _ ?side1 ?side2 A5.out).mono ?_); (case side1 => exact xC ((Kd.C_below HR0_0.out HB.out))); (case side2 => exact HC0_0.out); rintro e w16 ⟨rfl, hb⟩; refine ⟨_, rfl, ?_⟩; replace BK483 := am (blk_below (g := gb483) (o := .cells #[.slice A0_0 l0_0.length c0_0] 28 (0, 0)) (by exact rX BK483) hb); replace HB := am (below_step (by exact rB HB) hb); clear hb; have hcz17_0 : w16.cell? ⟨gb483, 0, none⟩ = some (.slice A0_0 l0_0.length c0_0) := (blk_cell BK483.out 0).trans rfl; have hfz17_0 := blk_frozen BK483.out 0)); go_meet
    case rel => exact ⟨_, (true), (by first | rfl | (simp; done) | (simp [*]; done)), H', ⟨by first | omega | exact Nat.le_refl _⟩, ⟨by exact rX BK483⟩, ⟨by exact rB HB⟩⟩
  ·replace c6 := Bool.eq_false_iff.mpr c6; subst c6; have H1 : (impl_KeepsOverlapFree.j0 k a1 true l0_0) = some r := by rw [if_neg (show ¬ (false = true) by decide)] at H; exact H
   clear H; have H := H1; clear H1; have H' := am H; clear H; have hcz18_0 : w4.cell? ⟨gb483, 0, none⟩ = some (.slice A0_0 l0_0.length c0_0) := (blk_cell BK483.out 0).trans rfl; have hfz18_0 := blk_frozen BK483.out 0; go_wp2_with (first | ((with_reducible refine gate_callee (f := 108) rfl ?_); refine goesL_ (some 10) rfl rfl Try.func108 (by kernel_rfl) rfl #[.agg #[.slice A0_0 l0_0.length c0_0]] rfl (by (try simp only [mT, mC, mN]); first | done | rfl) ?_; (with_reducible refine (impl_IsMorphism.calls k _ _ l0_0 false _ ?side1 ?side2 A5.out).mono ?_); (case side1 => exact xC ((Kd.C_below HR0_0.out HB.out))); (case side2 => exact HC0_0.out); rintro e w19 ⟨rfl, hb⟩; refine ⟨_, rfl, ?_⟩; replace BK483 := am (blk_below (g := gb483) (o := .cells #[.slice A0_0 l0_0.length c0_0] 28 (0, 0)) (by exact rX BK483) hb); replace HB := am (below_step (by exact rB HB) hb); clear hb)); go_meet
   case rel => exact ⟨_, (true), (by first | rfl | (simp; done) | (simp [*]; done)), H', ⟨by first | omega | exact Nat.le_refl _⟩, ⟨by exact rX BK483⟩, ⟨by exact rB HB⟩⟩
 case rest =>
  clear HC3
  try clear c1
  try clear p2
  try clear c3
  try clear c6
  try clear c7
  try clear c7b0
  try clear c7b1
  try clear c8
  try clear c8b0
  try clear c10
  try clear hcz11_0
  try clear hcz12_0
  try clear hcz14_0
  try clear hcz15_0
  try clear hcz17_0
  try clear hcz18_0
  try clear hcz9_0
  try clear hfz11_0
  try clear hfz12_0
  try clear hfz14_0
  try clear hfz15_0
  try clear hfz17_0
  try clear hfz18_0
  try clear hfz9_0
  obtain ⟨kq, x25_2, rfl, HA, HJ2, BK483, HB⟩ := hcut; cases kq with
  | zero => exact absurd HA.out (by simp [impl_KeepsOverlapFree.j0])
  | succ kj2 =>
   have H := HA.out; clear HA; simp only [impl_KeepsOverlapFree.j0] at H; by_cases c20 : x25_2 = true
   ·subst c20; have H1 : (some false) = some r := by rw [if_pos rfl] at H; exact H
    clear H; have H := H1; clear H1; obtain rfl := Option.some.inj H; go_wp2; go_ret; exact ⟨by first | rfl | (simp [errW_none, errW_some] <;> rfl) | (simp [*, errW_none, errW_some] <;> rfl), by exact rB HB⟩
   ·replace c20 := Bool.eq_false_iff.mpr c20; subst c20; have H1 : ((impl_freeWords_of119.f kj2 2 a1).bind fun t485 => (impl_KeepsOverlapFree.l0 kj2 t485 (t485.length : Int) 0 l0_0)) = some r := by rw [if_neg (show ¬ (false = true) by decide)] at H; exact H
    clear H; have H := H1; clear H1; replace H := Option.bind_eq_some_iff.mp H; obtain ⟨t485, A210, H⟩ := H; replace H : (impl_KeepsOverlapFree.l0 kj2 t485 (t485.length : Int) 0 l0_0) = some r := H; have A21 := am A210; clear A210; have H' := am H; clear H; go_wp2_with (first | ((with_reducible refine gate_callee (f := 118) rfl ?_); refine goesL_ (some 27) rfl rfl Try.func118 (by kernel_rfl) rfl #[.int .i64 2, .int .i64 a1, .func (.func 119) #[] #[]] rfl (by (try simp only [mT, mC, mN]); first | done | rfl) ?_; (with_reducible refine (impl_freeWords_of119.calls kj2 2 a1 t485 _ A21.out).mono ?_); rintro e w22 ⟨v486, rfl, ho0, hb⟩; refine ⟨_, rfl, ?_⟩; have HO487 := am (Kd.N_lower (Kd.N_mono (ok' := fun k_ => k_ ≠ gb483) ho0 (fun k_ hk_ => (Kd.freshB (g := gb483) (o := .cells #[.slice A0_0 l0_0.length c0_0] 28 (0, 0)) (by exact rX BK483) k_ hk_))) (below_size (by exact rB HB))); replace BK483 := am (blk_below (g := gb483) (o := .cells #[.slice A0_0 l0_0.length c0_0] 28 (0, 0)) (by exact rX BK483) hb); replace HB := am (below_step (by exact rB HB) hb); clear hb ho0; obtain ⟨Ao23, co23, eo23⟩ := Kd.N_slice HO487.out; subst eo23)); go_loopg [29] kj2 (fun kq v29 w' => ∃ (x29_2 : Int), v29 = .int .i64 x29_2 ∧ Aside0 (impl_KeepsOverlapFree.l0 kq t485 (t485.length : Int) x29_2 l0_0 = some r) ∧ Aside0 (kq ≤ kj2) ∧ Aside0 (Kd.N (Kd.slice 3 (Kd.int .i64)) 36 w' w.heap.size (fun k_ => k_ ≠ gb483) (.slice Ao23 t485.length co23) t485) ∧ Aside0 (w'.heap[gb483]? = some (.cells #[(.slice A0_0 l0_0.length c0_0)] 28 (0, 0))) ∧ Aside0 (Below w.heap.size w w'))
    case atStart => exact ⟨(0), (by first | rfl | (simp; done) | (simp [*]; done)), H', ⟨Nat.le_refl _⟩, ⟨by exact rN HO487⟩, ⟨by exact rX BK483⟩, ⟨by exact rB HB⟩⟩
    case round =>
     clear H'
     try clear c1
     try clear c2
     try clear p2
     try clear c3
     try clear c6
     try clear c7
     try clear c7b0
     try clear c7b1
     try clear c8
     try clear c8b0
     try clear c9
     try clear c10
     try clear c20
     try clear hcz11_0
     try clear hcz12_0
     try clear hcz14_0
     try clear hcz15_0
     try clear hcz17_0
     try clear hcz18_0
     try clear hcz9_0
     try clear hfz11_0
     try clear hfz12_0
     try clear hfz14_0
     try clear hfz15_0
     try clear hfz17_0
     try clear hfz18_0
     try clear hfz9_0
     try clear p2
     obtain ⟨x29_2, rfl, HA, HK2, HO_27, BK483, HB⟩ := hrel; cases gk with
     | zero => exact absurd HA.out (by simp [impl_KeepsOverlapFree.l0])
     | succ k2 =>
      have H := HA.out; clear HA; simp only [impl_KeepsOverlapFree.l0] at H; by_cases c24 : x29_2 < (t485.length : Int)
      ·rw [if_pos c24] at H; have c24b0 : decide (x29_2 < (t485.length : Int)) = true := decide_eq_true c24; clear c24; by_cases c25 : 0 ≤ x29_2
       ·rw [if_pos c25] at H; have c25b0 : decide (0 ≤ x29_2) = true := decide_eq_true c25; clear c25; by_cases c26 : x29_2 < (t485.length : Int)
        ·rw [if_pos c26] at H; have c26b0 : decide (x29_2 < (t485.length : Int)) = true := decide_eq_true c26; clear c26; replace H := Option.bind_eq_some_iff.mp H; obtain ⟨⟨t489, t492⟩, A270, H⟩ := H; replace H : (if t492 = true then ((impl_HasOverlap.f k2 t489).bind fun t493 => (if t493 = true then (some false) else (impl_KeepsOverlapFree.l0 k2 t485 (t485.length : Int) (wrap64 (x29_2 + 1)) l0_0))) else (some false)) = some r := H; have A27 := am A270; clear A270; by_cases c28 : t492 = true
         ·subst c28; have H1 : ((impl_HasOverlap.f k2 t489).bind fun t493 => (if t493 = true then (some false) else (impl_KeepsOverlapFree.l0 k2 t485 (t485.length : Int) (wrap64 (x29_2 + 1)) l0_0))) = some r := by rw [if_pos rfl] at H; exact H
          clear H; have H := H1; clear H1; replace H := Option.bind_eq_some_iff.mp H; obtain ⟨t493, A290, H⟩ := H; replace H : (if t493 = true then (some false) else (impl_KeepsOverlapFree.l0 k2 t485 (t485.length : Int) (wrap64 (x29_2 + 1)) l0_0)) = some r := H; have A29 := am A290; clear A290; by_cases c30 : t493 = true
          ·subst c30; have H1 : (some false) = some r := by rw [if_pos rfl] at H; exact H
           clear H; have H := H1; clear H1; obtain rfl := Option.some.inj H; have p488 : 0 ≤ (x29_2 : Int) := of_decide_eq_true (by first | (with_reducible assumption) | assumption); have q488 : x29_2 < (t485.length : Int) := of_decide_eq_true (by first | (with_reducible assumption) | assumption); obtain ⟨ad488, A488_0, c488_0, e488, hx488_0, hl488_0, hi488_0⟩ := at_L1 (Kd.N_reads' HO_27.out).2.2 x29_2 p488 q488; cases e488; obtain ⟨ce488, hce488, hMe488, hcc488⟩ := Kd.N_get HO_27.out [] x29_2 p488 (by first | exact q488 | exact of_decide_eq_true (by first | (with_reducible assumption) | assumption) | (have e_ := (Kd.N_reads' HO_27.out).1; omega)); obtain ⟨ua488_0, uc488_0, rfl, ul488_0, ge488_0⟩ := Kd.FK_slice_open hMe488; have hv488_0 := hcc488 0 _ rfl; rw [Nat.add_zero, show ((Kd.slice 3 (Kd.int .i64))).sz = 1 from rfl, Nat.mul_one] at hv488_0; replace hv488_0 := Option.some.inj (hv488_0.symm.trans hx488_0); injection hv488_0 with hva_ hvn_ hvc_; rw [hva_] at ge488_0; rw [hvc_] at ul488_0; have HL488_0 := am (show Kd.V (Kd.int .i64) 3 _ w.heap.size _ _ (rd_L1 t485 x29_2) from Kd.V_mk ul488_0 ge488_0); clear hva_ hvn_ hvc_ ge488_0 ul488_0; clear hcc488 hce488; have HR488_0 := am hi488_0; have HC488_0 := am hl488_0; clear hi488_0 hl488_0; replace p488 := eq_true p488; replace q488 := eq_true q488; have hcz31_0 : wr.cell? ⟨gb483, 0, none⟩ = some (.slice A0_0 l0_0.length c0_0) := (blk_cell BK483.out 0).trans rfl; have hfz31_0 := blk_frozen BK483.out 0; go_wp2_with (first | ((with_reducible refine gate_callee (f := 100) rfl ?_); refine goesL_ (some 36) rfl rfl Try.func100 (by kernel_rfl) rfl #[.agg #[.slice A0_0 l0_0.length c0_0], .slice A488_0 (rd_L1 t485 x29_2).length c488_0] rfl (by (try simp only [mT, mC, mN]); first | done | rfl) ?_; (with_reducible refine (impl_ApplyMorphism.calls k2 _ _ l0_0 _ _ (rd_L1 t485 x29_2) t489 true _ ?side1 ?side2 ?side3 ?side4 A27.out).mono ?_); (case side1 => exact xC ((Kd.C_below HR0_0.out HB.out))); (case side2 => exact HC0_0.out); (case side3 => repeat (first | exact (by repeat (first | (with_reducible exact HR488_0.out) | (with_reducible refine Kd.C_alloc ?_ _) | (with_reducible refine Kd.C_drewN ?_ _) | (with_reducible refine Kd.C_drew ?_) | exact HR488_0.out)) | (with_reducible refine Kd.C_alloc ?_ _) | (with_reducible refine Kd.C_drewN ?_ _) | (with_reducible refine Kd.C_drew ?_))); (case side4 => exact HC488_0.out); rintro e w32 ⟨v490, rfl, ho0, hb⟩; refine ⟨_, rfl, ?_⟩; replace HO_27 := am (Kd.N_elder' (by exact rN HO_27) (Kd.R_base ho0) hb); replace HL488_0 := am (Kd.V_elder' (by exact rV HL488_0) (Kd.R_base ho0) hb); have HO491 := am (Kd.R_lower ho0 (below_size (by exact rB HB))); replace BK483 := am (blk_below (g := gb483) (o := .cells #[.slice A0_0 l0_0.length c0_0] 28 (0, 0)) (by exact rX BK483) hb); replace HR488_0 := am (Kd.C_below (by repeat (first | (with_reducible exact HR488_0.out) | (with_reducible refine Kd.C_alloc ?_ _) | (with_reducible refine Kd.C_drewN ?_ _) | (with_reducible refine Kd.C_drew ?_) | exact HR488_0.out)) hb); replace HB := am (below_step (by exact rB HB) hb); clear hb ho0; obtain ⟨Ao33, co33, eo33⟩ := Kd.R_slice HO491.out; subst eo33) | (go_at_call 52; (with_reducible refine (impl_HasOverlap.calls k2 _ _ t489 true _ ?side1 ?side2 A29.out).mono ?_); (case side1 => exact xC ((Kd.R_reads' HO491.out).2.2)); (case side2 => exact (Kd.R_reads' HO491.out).2.1); rintro e w34 ⟨rfl, hb⟩; replace HO_27 := am (Kd.N_below (by exact rN HO_27) hb); replace HL488_0 := am (Kd.V_below (by exact rV HL488_0) hb); replace HO491 := am (Kd.R_below (by exact rR HO491) hb); replace BK483 := am (blk_below (g := gb483) (o := .cells #[.slice A0_0 l0_0.length c0_0] 28 (0, 0)) (by exact rX BK483) hb); replace HR488_0 := am (Kd.C_below (by repeat (first | (with_reducible exact HR488_0.out) | (with_reducible refine Kd.C_alloc ?_ _) | (with_reducible refine Kd.C_drewN ?_ _) | (with_reducible refine Kd.C_drew ?_) | exact HR488_0.out)) hb); replace HB := am (below_step (by exact rB HB) hb); clear hb)); go_ret; exact ⟨by first | rfl | (simp [errW_none, errW_some] <;> rfl) | (simp [*, errW_none, errW_some] <;> rfl), by exact rB HB⟩
          ·replace c30 := Bool.eq_false_iff.mpr c30; subst c30; have H1 : (impl_KeepsOverlapFree.l0 k2 t485 (t485.length : Int) (wrap64 (x29_2 + 1)) l0_0) = some r := by rw [if_neg (show ¬ (false = true) by decide)] at H; exact H
           clear H; have H := H1; clear H1; have H' := am H; clear H; have p488 : 0 ≤ (x29_2 : Int) := of_decide_eq_true (by first | (with_reducible assumption) | assumption); have q488 : x29_2 < (t485.length : Int) := of_decide_eq_true (by first | (with_reducible assumption) | assumption); obtain ⟨ad488, A488_0, c488_0, e488, hx488_0, hl488_0, hi488_0⟩ := at_L1 (Kd.N_reads' HO_27.out).2.2 x29_2 p488 q488; cases e488; obtain ⟨ce488, hce488, hMe488, hcc488⟩ := Kd.N_get HO_27.out [] x29_2 p488 (by first | exact q488 | exact of_decide_eq_true (by first | (with_reducible assumption) | assumption) | (have e_ := (Kd.N_reads' HO_27.out).1; omega)); obtain ⟨ua488_0, uc488_0, rfl, ul488_0, ge488_0⟩ := Kd.FK_slice_open hMe488; have hv488_0 := hcc488 0 _ rfl; rw [Nat.add_zero, show ((Kd.slice 3 (Kd.int .i64))).sz = 1 from rfl, Nat.mul_one] at hv488_0; replace hv488_0 := Option.some.inj (hv488_0.symm.trans hx488_0); injection hv488_0 with hva_ hvn_ hvc_; rw [hva_] at ge488_0; rw [hvc_] at ul488_0; have HL488_0 := am (show Kd.V (Kd.int .i64) 3 _ w.heap.size _ _ (rd_L1 t485 x29_2) from Kd.V_mk ul488_0 ge488_0); clear hva_ hvn_ hvc_ ge488_0 ul488_0; clear hcc488 hce488; have HR488_0 := am hi488_0; have HC488_0 := am hl488_0; clear hi488_0 hl488_0; replace p488 := eq_true p488; replace q488 := eq_true q488; have hcz35_0 : wr.cell? ⟨gb483, 0, none⟩ = some (.slice A0_0 l0_0.length c0_0) := (blk_cell BK483.out 0).trans rfl; have hfz35_0 := blk_frozen BK483.out 0; go_wp2_with (first | ((with_reducible refine gate_callee (f := 100) rfl ?_); refine goesL_ (some 36) rfl rfl Try.func100 (by kernel_rfl) rfl #[.agg #[.slice A0_0 l0_0.length c0_0], .slice A488_0 (rd_L1 t485 x29_2).length c488_0] rfl (by (try simp only [mT, mC, mN]); first | done | rfl) ?_; (with_reducible refine (impl_ApplyMorphism.calls k2 _ _ l0_0 _ _ (rd_L1 t485 x29_2) t489 true _ ?side1 ?side2 ?side3 ?side4 A27.out).mono ?_); (case side1 => exact xC ((Kd.C_below HR0_0.out HB.out))); (case side2 => exact HC0_0.out); (case side3 => repeat (first | exact (by repeat (first | (with_reducible exact HR488_0.out) | (with_reducible refine Kd.C_alloc ?_ _) | (with_reducible refine Kd.C_drewN ?_ _) | (with_reducible refine Kd.C_drew ?_) | exact HR488_0.out)) | (with_reducible refine Kd.C_alloc ?_ _) | (with_reducible refine Kd.C_drewN ?_ _) | (with_reducible refine Kd.C_drew ?_))); (case side4 => exact HC488_0.out); rintro e w36 ⟨v490, rfl, ho0, hb⟩; refine ⟨_, rfl, ?_⟩; replace HO_27 := am (Kd.N_elder' (by exact rN HO_27) (Kd.R_base ho0) hb); replace HL488_0 := am (Kd.V_elder' (by exact rV HL488_0) (Kd.R_base ho0) hb); have HO491 := am (Kd.R_lower ho0 (below_size (by exact rB HB))); replace BK483 := am (blk_below (g := gb483) (o := .cells #[.slice A0_0 l0_0.length c0_0] 28 (0, 0)) (by exact rX BK483) hb); replace HR488_0 := am (Kd.C_below (by repeat (first | (with_reducible exact HR488_0.out) | (with_reducible refine Kd.C_alloc ?_ _) | (with_reducible refine Kd.C_drewN ?_ _) | (with_reducible refine Kd.C_drew ?_) | exact HR488_0.out)) hb); replace HB := am (below_step (by exact rB HB) hb); clear hb ho0; obtain ⟨Ao37, co37, eo37⟩ := Kd.R_slice HO491.out; subst eo37) | (go_at_call 52; (with_reducible refine (impl_HasOverlap.calls k2 _ _ t489 false _ ?side1 ?side2 A29.out).mono ?_); (case side1 => exact xC ((Kd.R_reads' HO491.out).2.2)); (case side2 => exact (Kd.R_reads' HO491.out).2.1); rintro e w38 ⟨rfl, hb⟩; replace HO_27 := am (Kd.N_below (by exact rN HO_27) hb); replace HL488_0 := am (Kd.V_below (by exact rV HL488_0) hb); replace HO491 := am (Kd.R_below (by exact rR HO491) hb); replace BK483 := am (blk_below (g := gb483) (o := .cells #[.slice A0_0 l0_0.length c0_0] 28 (0, 0)) (by exact rX BK483) hb); replace HR488_0 := am (Kd.C_below (by repeat (first | (with_reducible exact HR488_0.out) | (with_reducible refine Kd.C_alloc ?_ _) | (with_reducible refine Kd.C_drewN ?_ _) | (with_reducible refine Kd.C_drew ?_) | exact HR488_0.out)) hb); replace HB := am (below_step (by exact rB HB) hb); clear hb)); go_roundg k2
           case measure => have := HJ2.out; have := HK2.out; omega
           case rel => exact ⟨(wrap64 (x29_2 + 1)), (by first | rfl | (simp; done) | (simp [*]; done)), H', ⟨by have := HJ2.out; have := HK2.out; omega⟩, ⟨by exact xN (Kd.N_mono HO_27.out (fun _ hk => hk.1))⟩, ⟨by exact rX BK483⟩, ⟨by exact rB HB⟩⟩
         ·replace c28 := Bool.eq_false_iff.mpr c28; subst c28; have H1 : (some false) = some r := by rw [if_neg (show ¬ (false = true) by decide)] at H; exact H
          clear H; have H := H1; clear H1; obtain rfl := Option.some.inj H; have p488 : 0 ≤ (x29_2 : Int) := of_decide_eq_true (by first | (with_reducible assumption) | assumption); have q488 : x29_2 < (t485.length : Int) := of_decide_eq_true (by first | (with_reducible assumption) | assumption); obtain ⟨ad488, A488_0, c488_0, e488, hx488_0, hl488_0, hi488_0⟩ := at_L1 (Kd.N_reads' HO_27.out).2.2 x29_2 p488 q488; cases e488; obtain ⟨ce488, hce488, hMe488, hcc488⟩ := Kd.N_get HO_27.out [] x29_2 p488 (by first | exact q488 | exact of_decide_eq_true (by first | (with_reducible assumption) | assumption) | (have e_ := (Kd.N_reads' HO_27.out).1; omega)); obtain ⟨ua488_0, uc488_0, rfl, ul488_0, ge488_0⟩ := Kd.FK_slice_open hMe488; have hv488_0 := hcc488 0 _ rfl; rw [Nat.add_zero, show ((Kd.slice 3 (Kd.int .i64))).sz = 1 from rfl, Nat.mul_one] at hv488_0; replace hv488_0 := Option.some.inj (hv488_0.symm.trans hx488_0); injection hv488_0 with hva_ hvn_ hvc_; rw [hva_] at ge488_0; rw [hvc_] at ul488_0; have HL488_0 := am (show Kd.V (Kd.int .i64) 3 _ w.heap.size _ _ (rd_L1 t485 x29_2) from Kd.V_mk ul488_0 ge488_0); clear hva_ hvn_ hvc_ ge488_0 ul488_0; clear hcc488 hce488; have HR488_0 := am hi488_0; have HC488_0 := am hl488_0; clear hi488_0 hl488_0; replace p488 := eq_true p488; replace q488 := eq_true q488; have hcz39_0 : wr.cell? ⟨gb483, 0, none⟩ = some (.slice A0_0 l0_0.length c0_0) := (blk_cell BK483.out 0).trans rfl; have hfz39_0 := blk_frozen BK483.out 0; go_wp2_with (first | ((with_reducible refine gate_callee (f := 100) rfl ?_); refine goesL_ (some 36) rfl rfl Try.func100 (by kernel_rfl) rfl #[.agg #[.slice A0_0 l0_0.length c0_0], .slice A488_0 (rd_L1 t485 x29_2).length c488_0] rfl (by (try simp only [mT, mC, mN]); first | done | rfl) ?_; (with_reducible refine (impl_ApplyMorphism.calls k2 _ _ l0_0 _ _ (rd_L1 t485 x29_2) t489 false _ ?side1 ?side2 ?side3 ?side4 A27.out).mono ?_); (case side1 => exact xC ((Kd.C_below HR0_0.out HB.out))); (case side2 => exact HC0_0.out); (case side3 => repeat (first | exact (by repeat (first | (with_reducible exact HR488_0.out) | (with_reducible refine Kd.C_alloc ?_ _) | (with_reducible refine Kd.C_drewN ?_ _) | (with_reducible refine Kd.C_drew ?_) | exact HR488_0.out)) | (with_reducible refine Kd.C_alloc ?_ _) | (with_reducible refine Kd.C_drewN ?_ _) | (with_reducible refine Kd.C_drew ?_))); (case side4 => exact HC488_0.out); rintro e w40 ⟨v490, rfl, ho0, hb⟩; refine ⟨_, rfl, ?_⟩; replace HO_27 := am (Kd.N_elder' (by exact rN HO_27) (Kd.R_base ho0) hb); replace HL488_0 := am (Kd.V_elder' (by exact rV HL488_0) (Kd.R_base ho0) hb); have HO491 := am (Kd.R_lower ho0 (below_size (by exact rB HB))); replace BK483 := am (blk_below (g := gb483) (o := .cells #[.slice A0_0 l0_0.length c0_0] 28 (0, 0)) (by exact rX BK483) hb); replace HR488_0 := am (Kd.C_below (by repeat (first | (with_reducible exact HR488_0.out) | (with_reducible refine Kd.C_alloc ?_ _) | (with_reducible refine Kd.C_drewN ?_ _) | (with_reducible refine Kd.C_drew ?_) | exact HR488_0.out)) hb); replace HB := am (below_step (by exact rB HB) hb); clear hb ho0)); go_ret; exact ⟨by first | rfl | (simp [errW_none, errW_some] <;> rfl) | (simp [*, errW_none, errW_some] <;> rfl), by exact rB HB⟩
        ·rw [if_neg c26] at H; exact absurd H (by simp)
       ·rw [if_neg c25] at H; exact absurd H (by simp)
      ·rw [if_neg c24] at H; have c24b0 : decide (x29_2 < (t485.length : Int)) = false := decide_eq_false c24; clear c24; obtain rfl := Option.some.inj H; go_wp2; go_ret; exact ⟨by first | rfl | (simp [errW_none, errW_some] <;> rfl) | (simp [*, errW_none, errW_some] <;> rfl), by exact rB HB⟩
end
end Go.Proofs.Ytooamcjgejajeaa.M
namespace Go.Proofs.Ytooamcjgejajeaa.M
open Go.RowKit Go.Proofs.Ytooamcjgejajeaa.KW Go.Proofs.YtooamcjgejajeaaW.PrintWords Go.Proofs.YtooamcjgejajeaaW.PrintLast Go.Proofs.YtooamcjgejajeaaW.PrintMore
attribute [local go_sem] max2_int min2_int max_two min_two max_three min_three max_four min_four
set_option linter.unusedVariables false
set_option linter.unusedSimpArgs false
def spec_SquareFreeWords.f (k : Nat) (a0 : Int) (a1 : Int) : Option ((List (List Int)) × Bool) := (spec_l1In.f a0 1 4).bind fun t509 => (if t509 = true then ((spec_l1In.f a1 0 5).bind fun t510 => (if t510 = true then ((spec_l29Words.f k a0 a1 false).bind fun t511 => (some (t511, true))) else (some ((([] : List (List Int))), false)))) else (some ((([] : List (List Int))), false)))
theorem spec_SquareFreeWords.mono : ∀ a0 a1 k, LeO (spec_SquareFreeWords.f k a0 a1) (spec_SquareFreeWords.f (k + 1) a0 a1) := by
 intro a0 a1 k; unfold spec_SquareFreeWords.f
 repeat' first
   | (with_reducible exact spec_l29Words.mono _ _ _ _)
   | (with_reducible exact LeO.refl _)
   | (with_reducible exact LeO.none _)
   | (with_reducible refine LeO.ite ?_ ?_)
   | (with_reducible refine LeO.bind ?_ (fun _ => ?_))
set_option maxHeartbeats 8000000 in
set_option maxRecDepth 100000 in
theorem spec_SquareFreeWords.calls (k : Nat) (a0 : Int) (a1 : Int) (r1 : List (List Int)) (r2 : Bool) (w : World) (h : spec_SquareFreeWords.f k a0 a1 = some (r1, r2)) :
  Calls Try.prog 57 #[.int .i64 a0, .int .i64 a1] w fun e w' => ∃ v0_ : Value, e = .returned (.tuple #[v0_, .bool r2]) ∧ Kd.N (Kd.slice 3 (Kd.int .i64)) 36 w' w.heap.size (fun k_ => (w.heap.size ≤ k_)) v0_ r1 ∧ Below w.heap.size w w' := by
 have HB := am (Below.refl w.heap.size w); have H : ((spec_l1In.f a0 1 4).bind fun t509 => (if t509 = true then ((spec_l1In.f a1 0 5).bind fun t510 => (if t510 = true then ((spec_l29Words.f k a0 a1 false).bind fun t511 => (some (t511, true))) else (some ((([] : List (List Int))), false)))) else (some ((([] : List (List Int))), false)))) = some (r1, r2) := h; clear h; replace H := Option.bind_eq_some_iff.mp H; obtain ⟨t509, A30, H⟩ := H; replace H : (if t509 = true then ((spec_l1In.f a1 0 5).bind fun t510 => (if t510 = true then ((spec_l29Words.f k a0 a1 false).bind fun t511 => (some (t511, true))) else (some ((([] : List (List Int))), false)))) else (some ((([] : List (List Int))), false))) = some (r1, r2) := H; have A3 := am A30; clear A30; by_cases c4 : t509 = true
 ·subst c4; have H1 : ((spec_l1In.f a1 0 5).bind fun t510 => (if t510 = true then ((spec_l29Words.f k a0 a1 false).bind fun t511 => (some (t511, true))) else (some ((([] : List (List Int))), false)))) = some (r1, r2) := by rw [if_pos rfl] at H; exact H
  clear H; have H := H1; clear H1; replace H := Option.bind_eq_some_iff.mp H; obtain ⟨t510, A50, H⟩ := H; replace H : (if t510 = true then ((spec_l29Words.f k a0 a1 false).bind fun t511 => (some (t511, true))) else (some ((([] : List (List Int))), false))) = some (r1, r2) := H; have A5 := am A50; clear A50; by_cases c6 : t510 = true
  ·subst c6; have H1 : ((spec_l29Words.f k a0 a1 false).bind fun t511 => (some (t511, true))) = some (r1, r2) := by rw [if_pos rfl] at H; exact H
   clear H; have H := H1; clear H1; replace H := Option.bind_eq_some_iff.mp H; obtain ⟨t511, A70, H⟩ := H; replace H : (some (t511, true)) = some (r1, r2) := H; have A7 := am A70; clear A70; simp only [Option.some.injEq, Prod.mk.injEq] at H; obtain ⟨rfl, rfl⟩ := H; go_enter Try.func57, Try.ntmps57; go_wp2_with (first | ((with_reducible refine gate_callee (f := 115) rfl ?_); refine goesL_ (some 7) rfl rfl Try.func115 (by kernel_rfl) rfl #[.int .i64 a0, .int .i64 1, .int .i64 4] rfl (by (try simp only [mT, mC, mN]); first | done | rfl) ?_; (with_reducible refine (spec_l1In.calls a0 1 4 true _ A3.out).mono ?_); rintro e w' ⟨rfl, ⟨nd, rfl⟩⟩; refine ⟨_, rfl, ?_⟩) | (go_at_call 115; (with_reducible refine (spec_l1In.calls a1 0 5 true _ A5.out).mono ?_); rintro e w' ⟨rfl, ⟨nd, rfl⟩⟩) | ((with_reducible refine gate_callee (f := 116) rfl ?_); refine goesL_ (some 17) rfl rfl Try.func116 (by kernel_rfl) rfl #[.int .i64 a0, .int .i64 a1, .bool false] rfl (by (try simp only [mT, mC, mN]); first | done | rfl) ?_; (with_reducible refine (spec_l29Words.calls k a0 a1 false t511 _ A7.out).mono ?_); rintro e w8 ⟨v512, rfl, ho0, hb⟩; refine ⟨_, rfl, ?_⟩; have HO513 := am (Kd.N_lower (Kd.N_mono (ok' := fun k_ => (w.heap.size ≤ k_)) ho0 (fun k_ hk_ => (Nat.le_trans (below_size (by exact rB HB)) hk_))) (below_size (by exact rB HB))); replace HB := am (below_step (by exact rB HB) hb); clear hb ho0)); go_ret2; exact ⟨_, by first | rfl | (simp [errW_none, errW_some] <;> rfl) | (simp [*, errW_none, errW_some] <;> rfl), by exact rN HO513, by exact rB HB⟩
  ·replace c6 := Bool.eq_false_iff.mpr c6; subst c6; have H1 : (some ((([] : List (List Int))), false)) = some (r1, r2) := by rw [if_neg (show ¬ (false = true) by decide)] at H; exact H
   clear H; have H := H1; clear H1; obtain ⟨y514, hy514⟩ : ∃ y_ : List (List Int), y_ = (([] : List (List Int))) := ⟨_, rfl⟩; replace H : (some (y514, false)) = some (r1, r2) := by rw [hy514]; first | exact H | exact (Option.bind_some _ _).symm.trans H
   have Ny514 := am hy514; clear hy514; simp only [Option.some.injEq, Prod.mk.injEq] at H; obtain ⟨rfl, rfl⟩ := H; go_enter Try.func57, Try.ntmps57; go_wp2_with (first | ((with_reducible refine gate_callee (f := 115) rfl ?_); refine goesL_ (some 7) rfl rfl Try.func115 (by kernel_rfl) rfl #[.int .i64 a0, .int .i64 1, .int .i64 4] rfl (by (try simp only [mT, mC, mN]); first | done | rfl) ?_; (with_reducible refine (spec_l1In.calls a0 1 4 true _ A3.out).mono ?_); rintro e w' ⟨rfl, ⟨nd, rfl⟩⟩; refine ⟨_, rfl, ?_⟩) | (go_at_call 115; (with_reducible refine (spec_l1In.calls a1 0 5 false _ A5.out).mono ?_); rintro e w' ⟨rfl, ⟨nd, rfl⟩⟩) | ((with_reducible refine gate_dst (N := 14) rfl ?_); refine Kd.N_lit (Kd.slice 3 (Kd.int .i64)) _ 36 ?hg (N' := 14) ?hd (xs := ([] : List (List Int))) (inner := []) (ok := (fun k_ => (w.heap.size ≤ k_))) (okp := (fun k_ => (w.heap.size ≤ k_))) ?hr ?hp (fun _ hk => hk) ((show ∀ k_, w.heap.size ≤ k_ → (fun k_ => (w.heap.size ≤ k_)) k_ from fun k_ hk => (Nat.le_trans (below_size (by exact rB HB)) hk)) _ (Nat.le_refl _)) (Below.refl _ _) (Nat.le_refl _) (by simp) ?_; (case hd => rfl); (case hg => rfl); (case hr => first | (go_simp; done) | (go_simp; rfl)); (case hp => exact (Reps.none _ _)); intro v515 w9 ho10 hb hg_ hnew_; clear hg_ hnew_; (first | rw [← Ny514.out] at ho10 | (simp only [Int.reduceToNat] at ho10; rw [← Ny514.out] at ho10)); have HO516 := am (Kd.N_lower ho10 (below_size (by exact rB HB))); replace HB := am (below_step (by exact rB HB) hb); clear hb ho10)); go_ret2; exact ⟨_, by first | rfl | (simp [errW_none, errW_some] <;> rfl) | (simp [*, errW_none, errW_some] <;> rfl), by exact rN HO516, by exact rB HB⟩
 ·replace c4 := Bool.eq_false_iff.mpr c4; subst c4; have H1 : (some ((([] : List (List Int))), false)) = some (r1, r2) := by rw [if_neg (show ¬ (false = true) by decide)] at H; exact H
  clear H; have H := H1; clear H1; obtain ⟨y517, hy517⟩ : ∃ y_ : List (List Int), y_ = (([] : List (List Int))) := ⟨_, rfl⟩; replace H : (some (y517, false)) = some (r1, r2) := by rw [hy517]; first | exact H | exact (Option.bind_some _ _).symm.trans H
  have Ny517 := am hy517; clear hy517; simp only [Option.some.injEq, Prod.mk.injEq] at H; obtain ⟨rfl, rfl⟩ := H; go_enter Try.func57, Try.ntmps57; go_wp2_with (first | ((with_reducible refine gate_callee (f := 115) rfl ?_); refine goesL_ (some 7) rfl rfl Try.func115 (by kernel_rfl) rfl #[.int .i64 a0, .int .i64 1, .int .i64 4] rfl (by (try simp only [mT, mC, mN]); first | done | rfl) ?_; (with_reducible refine (spec_l1In.calls a0 1 4 false _ A3.out).mono ?_); rintro e w' ⟨rfl, ⟨nd, rfl⟩⟩; refine ⟨_, rfl, ?_⟩) | ((with_reducible refine gate_dst (N := 14) rfl ?_); refine Kd.N_lit (Kd.slice 3 (Kd.int .i64)) _ 36 ?hg (N' := 14) ?hd (xs := ([] : List (List Int))) (inner := []) (ok := (fun k_ => (w.heap.size ≤ k_))) (okp := (fun k_ => (w.heap.size ≤ k_))) ?hr ?hp (fun _ hk => hk) ((show ∀ k_, w.heap.size ≤ k_ → (fun k_ => (w.heap.size ≤ k_)) k_ from fun k_ hk => (Nat.le_trans (below_size (by exact rB HB)) hk)) _ (Nat.le_refl _)) (Below.refl _ _) (Nat.le_refl _) (by simp) ?_; (case hd => rfl); (case hg => rfl); (case hr => first | (go_simp; done) | (go_simp; rfl)); (case hp => exact (Reps.none _ _)); intro v518 w11 ho12 hb hg_ hnew_; clear hg_ hnew_; (first | rw [← Ny517.out] at ho12 | (simp only [Int.reduceToNat] at ho12; rw [← Ny517.out] at ho12)); have HO519 := am (Kd.N_lower ho12 (below_size (by exact rB HB))); replace HB := am (below_step (by exact rB HB) hb); clear hb ho12)); go_ret2; exact ⟨_, by first | rfl | (simp [errW_none, errW_some] <;> rfl) | (simp [*, errW_none, errW_some] <;> rfl), by exact rN HO519, by exact rB HB⟩
mutual
def spec_BrokenWord.j0 : Nat → Int → Bool → List (List Int) → Option (List Int × Bool)
 | 0, _, _, _ => none
 | k + 1, x1, x19, x521000 => if x19 = true then (some ((([] : List Int)), false)) else ((spec_SquareFreeWords.f k (x521000.length : Int) x1).bind fun bt525 => (spec_BrokenWord.l0 k bt525.1 bt525.2 0 x521000))
def spec_BrokenWord.l0 : Nat → List (List Int) → Bool → Int → List (List Int) → Option (List Int × Bool)
 | 0, _, _, _, _ => none
 | k + 1, x6, x7, x8, x521000 => if x8 < (x6.length : Int) then (spec_BrokenWord.j2 k x6 x7 x8 x7 x521000) else (spec_BrokenWord.j2 k x6 x7 x8 false x521000)
def spec_BrokenWord.j2 : Nat → List (List Int) → Bool → Int → Bool → List (List Int) → Option (List Int × Bool)
 | 0, _, _, _, _, _ => none
 | k + 1, x6, x7, x8, x35, x521000 => if x35 = true then (if 0 ≤ x8 then (if x8 < (x6.length : Int) then ((spec_ApplyMorphism.f k x521000 (rd_L1 x6 x8)).bind fun bt533 => (if bt533.2 = true then ((spec_HasSquare.f k bt533.1).bind fun t537 => (if t537 = true then ((some (([] : List Int) : List Int)).bind fun y538 => (if y538.length + (rd_L1 x6 x8).length < 17592186044416 then (some ((y538 ++ (rd_L1 x6 x8)), true)) else (none))) else (spec_BrokenWord.l0 k x6 x7 (wrap64 (x8 + 1)) x521000))) else ((some (([] : List Int) : List Int)).bind fun y545 => (if y545.length + (rd_L1 x6 x8).length < 17592186044416 then (some ((y545 ++ (rd_L1 x6 x8)), true)) else (none))))) else (none)) else (none)) else (some ((([] : List Int)), false))
end
def spec_BrokenWord.f (k : Nat) (l0_0 : List (List Int)) (a1 : Int) : Option (List Int × Bool) := (spec_IsMorphism.f k l0_0).bind fun t521 => (if t521 = true then (spec_BrokenWord.j0 k a1 (decide ((l0_0.length : Int) > 4)) l0_0) else (spec_BrokenWord.j0 k a1 true l0_0))
theorem spec_BrokenWord.mono_l : ∀ k, (∀ y0 y1 y2, LeO (spec_BrokenWord.j0 k y0 y1 y2) (spec_BrokenWord.j0 (k + 1) y0 y1 y2)) ∧ (∀ y0 y1 y2 y3, LeO (spec_BrokenWord.l0 k y0 y1 y2 y3) (spec_BrokenWord.l0 (k + 1) y0 y1 y2 y3)) ∧ (∀ y0 y1 y2 y3 y4, LeO (spec_BrokenWord.j2 k y0 y1 y2 y3 y4) (spec_BrokenWord.j2 (k + 1) y0 y1 y2 y3 y4))
 | 0 => ⟨fun _ _ _ r h => by simp [spec_BrokenWord.j0] at h, fun _ _ _ _ r h => by simp [spec_BrokenWord.l0] at h, fun _ _ _ _ _ r h => by simp [spec_BrokenWord.j2] at h⟩
 | k + 1 => by
  obtain ⟨ih0, ih1, ih2⟩ := spec_BrokenWord.mono_l k; refine ⟨?_, ?_, ?_⟩
  ·intro y0 y1 y2; unfold spec_BrokenWord.j0
   repeat' first
   | (with_reducible exact ih0 _ _ _)
   | (with_reducible exact ih1 _ _ _ _)
   | (with_reducible exact ih2 _ _ _ _ _)
   | (with_reducible exact spec_ApplyMorphism.mono _ _ _)
   | (with_reducible exact spec_HasSquare.mono _ _)
   | (with_reducible exact spec_IsMorphism.mono _ _)
   | (with_reducible exact spec_SquareFreeWords.mono _ _ _)
   | (with_reducible exact LeO.refl _)
   | (with_reducible exact LeO.none _)
   | (with_reducible refine LeO.ite ?_ ?_)
   | (with_reducible refine LeO.bind ?_ (fun _ => ?_))
  ·intro y0 y1 y2 y3; unfold spec_BrokenWord.l0
   repeat' first
   | (with_reducible exact ih0 _ _ _)
   | (with_reducible exact ih1 _ _ _ _)
   | (with_reducible exact ih2 _ _ _ _ _)
   | (with_reducible exact spec_ApplyMorphism.mono _ _ _)
   | (with_reducible exact spec_HasSquare.mono _ _)
   | (with_reducible exact spec_IsMorphism.mono _ _)
   | (with_reducible exact spec_SquareFreeWords.mono _ _ _)
   | (with_reducible exact LeO.refl _)
   | (with_reducible exact LeO.none _)
   | (with_reducible refine LeO.ite ?_ ?_)
   | (with_reducible refine LeO.bind ?_ (fun _ => ?_))
  ·intro y0 y1 y2 y3 y4; unfold spec_BrokenWord.j2
   repeat' first
   | (with_reducible exact ih0 _ _ _)
   | (with_reducible exact ih1 _ _ _ _)
   | (with_reducible exact ih2 _ _ _ _ _)
   | (with_reducible exact spec_ApplyMorphism.mono _ _ _)
   | (with_reducible exact spec_HasSquare.mono _ _)
   | (with_reducible exact spec_IsMorphism.mono _ _)
   | (with_reducible exact spec_SquareFreeWords.mono _ _ _)
   | (with_reducible exact LeO.refl _)
   | (with_reducible exact LeO.none _)
   | (with_reducible refine LeO.ite ?_ ?_)
   | (with_reducible refine LeO.bind ?_ (fun _ => ?_))
theorem spec_BrokenWord.mono : ∀ a0 a1 k, LeO (spec_BrokenWord.f k a0 a1) (spec_BrokenWord.f (k + 1) a0 a1) := by
 intro a0 a1 k; obtain ⟨ih0, ih1, ih2⟩ := spec_BrokenWord.mono_l k; unfold spec_BrokenWord.f
 repeat' first
   | (with_reducible exact ih0 _ _ _)
   | (with_reducible exact ih1 _ _ _ _)
   | (with_reducible exact ih2 _ _ _ _ _)
   | (with_reducible exact spec_ApplyMorphism.mono _ _ _)
   | (with_reducible exact spec_HasSquare.mono _ _)
   | (with_reducible exact spec_IsMorphism.mono _ _)
   | (with_reducible exact spec_SquareFreeWords.mono _ _ _)
   | (with_reducible exact LeO.refl _)
   | (with_reducible exact LeO.none _)
   | (with_reducible refine LeO.ite ?_ ?_)
   | (with_reducible refine LeO.bind ?_ (fun _ => ?_))
def spec_BrokenWord.T7 : Bool × List (List Nat × List Nat) := (true, [([], []), ([], []), ([], []), ([1, 2], [1, 2]), ([3], [3]), ([0, 4], [0, 4]), ([5], [5]), ([6], [6]), ([6], [6]), ([7, 5, 0, 1, 2, 3, 4, 5, 6, 7], [7]), ([8, 9, 0, 1, 2, 3, 4, 5, 6, 7, 8, 9], [8])])
def spec_BrokenWord.B7 : List Nat := [0, 0, 0, 6, 14, 31, 63, 127, 127, 255, 1023]
theorem spec_BrokenWord.tab7 : rtab .any (opsOf Try.f37 7) = spec_BrokenWord.T7 := by kernel_rfl
theorem spec_BrokenWord.bits7 : waitsOk spec_BrokenWord.T7.2 spec_BrokenWord.B7 = true := by kernel_rfl
set_option maxHeartbeats 8000000 in
set_option maxRecDepth 100000 in
theorem spec_BrokenWord.calls (k : Nat) (A0_0 : Option Addr) (c0_0 : Nat) (l0_0 : List (List Int)) (a1 : Int) (r1 : List Int) (r2 : Bool) (w : World) (hr0_0 : Kd.C (Kd.slice 3 (Kd.int .i64)) w A0_0 l0_0.length l0_0) (hc0_0 : l0_0.length ≤ c0_0) (h : spec_BrokenWord.f k l0_0 a1 = some (r1, r2)) :
  Calls Try.prog 37 #[.agg #[.slice A0_0 l0_0.length c0_0], .int .i64 a1] w fun e w' => ∃ v0_ : Value, e = .returned (.tuple #[v0_, .bool r2]) ∧ Kd.R (Kd.int .i64) 3 w' w.heap.size (fun _ => True) v0_ r1 ∧ Below w.heap.size w w' := by
 have hu28 := Try.underlying28; have HR0_0 := am hr0_0; have HC0_0 := am hc0_0; clear hr0_0 hc0_0; have HB := am (Below.refl w.heap.size w); have H : ((spec_IsMorphism.f k l0_0).bind fun t521 => (if t521 = true then (spec_BrokenWord.j0 k a1 (decide ((l0_0.length : Int) > 4)) l0_0) else (spec_BrokenWord.j0 k a1 true l0_0))) = some (r1, r2) := h; clear h; have HC3 := am H; clear H; go_enter Try.func37, Try.ntmps37; go_upto_region 1 with (first | ((with_reducible refine gate_dst (N := 2) rfl ?_); (try (refine gate_guard (by rfl) ?_; dsimp only)); refine box_event ?hg (N := 2) ?hd (cs := #[.slice A0_0 l0_0.length c0_0]) (t := 28) ?hr ?_; (case hd => rfl); (case hg => rfl); (case hr => first | (go_simp; done) | (go_simp; rfl)); intro gb520 hg w4 hbox hb; have BK520 := am (hbox); have GW520 := am ((by rw [hg]; exact (below_size (by exact rB HB)) : w.heap.size ≤ gb520)); have GE520 := am ((by rw [hg]; exact (below_size (by exact rB HB)) : w.heap.size ≤ gb520)); replace HB := am (below_step (by exact rB HB) hb); have qW520 := Ge.mk GW520.out; have qE520 := Ge.mk GE520.out; clear hb hbox hg)); (try simp only [Act.put, qa, qz, qs]); go_cut [19] (fun v19 wc => ∃ (kq : Nat) (x19_2 : Bool), v19 = .bool x19_2 ∧ Aside0 (spec_BrokenWord.j0 kq a1 x19_2 l0_0 = some (r1, r2)) ∧ Aside0 (kq ≤ k) ∧ Aside0 (wc.heap[gb520]? = some (.cells #[(.slice A0_0 l0_0.length c0_0)] 28 (0, 0))) ∧ Aside0 (Below w.heap.size w wc))
 case first =>
  have H := HC3.out; clear HC3; replace H := Option.bind_eq_some_iff.mp H; obtain ⟨t521, A50, H⟩ := H; replace H : (if t521 = true then (spec_BrokenWord.j0 k a1 (decide ((l0_0.length : Int) > 4)) l0_0) else (spec_BrokenWord.j0 k a1 true l0_0)) = some (r1, r2) := H; have A5 := am A50; clear A50; by_cases c6 : t521 = true
  ·subst c6; have H1 : (spec_BrokenWord.j0 k a1 (decide ((l0_0.length : Int) > 4)) l0_0) = some (r1, r2) := by rw [if_pos rfl] at H; exact H
   clear H; have H := H1; clear H1; have H' := am H; clear H; have hcz7_0 : w4.cell? ⟨gb520, 0, none⟩ = some (.slice A0_0 l0_0.length c0_0) := (blk_cell BK520.out 0).trans rfl; have hfz7_0 := blk_frozen BK520.out 0; go_wp2_with (first | ((with_reducible refine gate_callee (f := 109) rfl ?_); refine goesL_ (some 12) rfl rfl Try.func109 (by kernel_rfl) rfl #[.agg #[.slice A0_0 l0_0.length c0_0]] rfl (by (try simp only [mT, mC, mN]); first | done | rfl) ?_; (with_reducible refine (spec_IsMorphism.calls k _ _ l0_0 true _ ?side1 ?side2 A5.out).mono ?_); (case side1 => exact xC ((Kd.C_below HR0_0.out HB.out))); (case side2 => exact HC0_0.out); rintro e w8 ⟨rfl, hb⟩; refine ⟨_, rfl, ?_⟩; replace BK520 := am (blk_below (g := gb520) (o := .cells #[.slice A0_0 l0_0.length c0_0] 28 (0, 0)) (by exact rX BK520) hb); replace HB := am (below_step (by exact rB HB) hb); clear hb; have hcz9_0 : w8.cell? ⟨gb520, 0, none⟩ = some (.slice A0_0 l0_0.length c0_0) := (blk_cell BK520.out 0).trans rfl; have hfz9_0 := blk_frozen BK520.out 0)); go_meet
   case rel => exact ⟨_, (decide ((l0_0.length : Int) > 4)), (by first | rfl | (simp; done) | (simp [*]; done)), H', ⟨by first | omega | exact Nat.le_refl _⟩, ⟨by exact rX BK520⟩, ⟨by exact rB HB⟩⟩
  ·replace c6 := Bool.eq_false_iff.mpr c6; subst c6; have H1 : (spec_BrokenWord.j0 k a1 true l0_0) = some (r1, r2) := by rw [if_neg (show ¬ (false = true) by decide)] at H; exact H
   clear H; have H := H1; clear H1; have H' := am H; clear H; have hcz10_0 : w4.cell? ⟨gb520, 0, none⟩ = some (.slice A0_0 l0_0.length c0_0) := (blk_cell BK520.out 0).trans rfl; have hfz10_0 := blk_frozen BK520.out 0; go_wp2_with (first | ((with_reducible refine gate_callee (f := 109) rfl ?_); refine goesL_ (some 12) rfl rfl Try.func109 (by kernel_rfl) rfl #[.agg #[.slice A0_0 l0_0.length c0_0]] rfl (by (try simp only [mT, mC, mN]); first | done | rfl) ?_; (with_reducible refine (spec_IsMorphism.calls k _ _ l0_0 false _ ?side1 ?side2 A5.out).mono ?_); (case side1 => exact xC ((Kd.C_below HR0_0.out HB.out))); (case side2 => exact HC0_0.out); rintro e w11 ⟨rfl, hb⟩; refine ⟨_, rfl, ?_⟩; replace BK520 := am (blk_below (g := gb520) (o := .cells #[.slice A0_0 l0_0.length c0_0] 28 (0, 0)) (by exact rX BK520) hb); replace HB := am (below_step (by exact rB HB) hb); clear hb)); go_meet
   case rel => exact ⟨_, (true), (by first | rfl | (simp; done) | (simp [*]; done)), H', ⟨by first | omega | exact Nat.le_refl _⟩, ⟨by exact rX BK520⟩, ⟨by exact rB HB⟩⟩
 case rest =>
  clear HC3
  try clear c1
  try clear p2
  try clear c3
  try clear c6
  try clear c10
  try clear hcz10_0
  try clear hcz7_0
  try clear hcz9_0
  try clear hfz10_0
  try clear hfz7_0
  try clear hfz9_0
  obtain ⟨kq, x19_2, rfl, HA, HJ2, BK520, HB⟩ := hcut; cases kq with
  | zero => exact absurd HA.out (by simp [spec_BrokenWord.j0])
  | succ kj2 =>
   have H := HA.out; clear HA; simp only [spec_BrokenWord.j0] at H; by_cases c12 : x19_2 = true
   ·subst c12; have H1 : (some ((([] : List Int)), false)) = some (r1, r2) := by rw [if_pos rfl] at H; exact H
    clear H; have H := H1; clear H1; obtain ⟨y522, hy522⟩ : ∃ y_ : List Int, y_ = (([] : List Int)) := ⟨_, rfl⟩; replace H : (some (y522, false)) = some (r1, r2) := by rw [hy522]; first | exact H | exact (Option.bind_some _ _).symm.trans H
    have Ny522 := am hy522; clear hy522; simp only [Option.some.injEq, Prod.mk.injEq] at H; obtain ⟨rfl, rfl⟩ := H; go_wp2_with (first | ((with_reducible refine gate_dst (N := 20) rfl ?_); (try (refine gate_guard (by rfl) ?_; dsimp only)); refine Kd.R_lit (Kd.int .i64) _ 3 ?hg (N := 20) ?hd (xs := ([] : List Int)) (inner := []) (ok := fun _ => True) (okp := fun _ => True) ?hr ?hp (fun _ hk => hk) trivial (Below.refl _ _) (Nat.le_refl _) (by simp) ?_; (case hd => rfl); (case hg => rfl); (case hr => first | (go_simp; done) | (go_simp; rfl)); (case hp => exact (Reps.none _ _)); intro v523 w13 ho14 hb hg_ hnew_; clear hg_ hnew_; (first | rw [← Ny522.out] at ho14 | (simp only [Int.reduceToNat] at ho14; rw [← Ny522.out] at ho14)); have HO524 := am (Kd.R_lower ho14 (below_size (by exact rB HB))); replace BK520 := am (blk_below (g := gb520) (o := .cells #[.slice A0_0 l0_0.length c0_0] 28 (0, 0)) (by exact rX BK520) hb); replace HB := am (below_step (by exact rB HB) hb); clear hb ho14)); go_ret2; exact ⟨_, by first | rfl | (simp [errW_none, errW_some] <;> rfl) | (simp [*, errW_none, errW_some] <;> rfl), by exact rR HO524, by exact rB HB⟩
   ·replace c12 := Bool.eq_false_iff.mpr c12; subst c12; have H1 : ((spec_SquareFreeWords.f kj2 (l0_0.length : Int) a1).bind fun bt525 => (spec_BrokenWord.l0 kj2 bt525.1 bt525.2 0 l0_0)) = some (r1, r2) := by rw [if_neg (show ¬ (false = true) by decide)] at H; exact H
    clear H; have H := H1; clear H1; replace H := Option.bind_eq_some_iff.mp H; obtain ⟨⟨t525, t528⟩, A150, H⟩ := H; replace H : (spec_BrokenWord.l0 kj2 t525 t528 0 l0_0) = some (r1, r2) := H; have A15 := am A150; clear A150; have H' := am H; clear H; have hcz16_0 : wc.cell? ⟨gb520, 0, none⟩ = some (.slice A0_0 l0_0.length c0_0) := (blk_cell BK520.out 0).trans rfl; have hfz16_0 := blk_frozen BK520.out 0; go_wp2_with (first | ((with_reducible refine gate_callee (f := 57) rfl ?_); refine goesL_ (some 26) rfl rfl Try.func57 (by kernel_rfl) rfl #[.int .i64 (l0_0.length : Int), .int .i64 a1] rfl (by (try simp only [mT, mC, mN]); first | done | rfl) ?_; (with_reducible refine (spec_SquareFreeWords.calls kj2 (l0_0.length : Int) a1 t525 t528 _ A15.out).mono ?_); rintro e w17 ⟨v526, rfl, ho0, hb⟩; refine ⟨_, rfl, ?_⟩; have HO527 := am (Kd.N_lower (Kd.N_mono (ok' := fun k_ => k_ ≠ gb520) ho0 (fun k_ hk_ => (Kd.freshB (g := gb520) (o := .cells #[.slice A0_0 l0_0.length c0_0] 28 (0, 0)) (by exact rX BK520) k_ hk_))) (below_size (by exact rB HB))); replace BK520 := am (blk_below (g := gb520) (o := .cells #[.slice A0_0 l0_0.length c0_0] 28 (0, 0)) (by exact rX BK520) hb); replace HB := am (below_step (by exact rB HB) hb); clear hb ho0)); go_loopg [8] kj2 (fun kq v8 w' => ∃ (x8_2 : Int), v8 = .int .i64 x8_2 ∧ Aside0 (spec_BrokenWord.l0 kq t525 t528 x8_2 l0_0 = some (r1, r2)) ∧ Aside0 (kq ≤ kj2) ∧ Aside0 (Kd.N (Kd.slice 3 (Kd.int .i64)) 36 w' w.heap.size (fun k_ => k_ ≠ gb520) v526 t525) ∧ Aside0 (w'.heap[gb520]? = some (.cells #[(.slice A0_0 l0_0.length c0_0)] 28 (0, 0))) ∧ Aside0 (Below w.heap.size w w'))
    case atStart => exact ⟨(0), (by first | rfl | (simp; done) | (simp [*]; done)), H', ⟨Nat.le_refl _⟩, ⟨by exact rN HO527⟩, ⟨by exact rX BK520⟩, ⟨by exact rB HB⟩⟩
    case round =>
     clear H'
     try clear c1
     try clear p2
     try clear c3
     try clear c5
     try clear c6
     try clear c10
     try clear c12
     try clear hcz10_0
     try clear hcz16_0
     try clear hcz7_0
     try clear hcz9_0
     try clear hfz10_0
     try clear hfz16_0
     try clear hfz7_0
     try clear hfz9_0
     try clear p2
     obtain ⟨x8_2, rfl, HA, HK2, HO_6, BK520, HB⟩ := hrel; cases gk with
     | zero => exact absurd HA.out (by simp [spec_BrokenWord.l0])
     | succ k2 =>
      have H := HA.out; clear HA; simp only [spec_BrokenWord.l0] at H; have HC18 := am H; clear H; go_upto_region 5 with (fail); go_cut [35] (fun v35 wc => ∃ (kq : Nat) (x35_17 : Bool), v35 = .bool x35_17 ∧ Aside0 (spec_BrokenWord.j2 kq t525 t528 x8_2 x35_17 l0_0 = some (r1, r2)) ∧ Aside0 (kq ≤ k2) ∧ Aside0 (Kd.N (Kd.slice 3 (Kd.int .i64)) 36 wc w.heap.size (fun k_ => k_ ≠ gb520) v526 t525) ∧ Aside0 (wc.heap[gb520]? = some (.cells #[(.slice A0_0 l0_0.length c0_0)] 28 (0, 0))) ∧ Aside0 (Below w.heap.size w wc))
      case first =>
       have H := HC18.out; clear HC18; by_cases c19 : x8_2 < (t525.length : Int)
       ·rw [if_pos c19] at H; have c19b0 : decide (x8_2 < (t525.length : Int)) = true := decide_eq_true c19; clear c19
        (first | rw [c19b0] | (simp only [i64_w, i32_w]; rw [c19b0]) | skip)
        have H' := am H; clear H; obtain ⟨Ao20, co20, eo20⟩ := Kd.N_slice HO_6.out; subst eo20; go_wp2; go_meet
        case rel => exact ⟨_, (t528), (by first | rfl | (simp; done) | (simp [*]; done)), H', ⟨by have := HJ2.out; have := HK2.out; first | omega | exact Nat.le_refl _⟩, ⟨by exact rN HO_6⟩, ⟨by exact rX BK520⟩, ⟨by exact rB HB⟩⟩
       ·rw [if_neg c19] at H; have c19b0 : decide (x8_2 < (t525.length : Int)) = false := decide_eq_false c19; clear c19
        (first | rw [c19b0] | (simp only [i64_w, i32_w]; rw [c19b0]) | skip)
        have H' := am H; clear H; obtain ⟨Ao21, co21, eo21⟩ := Kd.N_slice HO_6.out; subst eo21; go_wp2; go_meet
        case rel => exact ⟨_, (false), (by first | rfl | (simp; done) | (simp [*]; done)), H', ⟨by have := HJ2.out; have := HK2.out; first | omega | exact Nat.le_refl _⟩, ⟨by exact rN HO_6⟩, ⟨by exact rX BK520⟩, ⟨by exact rB HB⟩⟩
      case rest =>
       clear HC18
       try clear c1
       try clear p2
       try clear c3
       try clear c5
       try clear c6
       try clear c10
       try clear c12
       try clear c19
       try clear c19b0
       try clear hcz10_0
       try clear hcz16_0
       try clear hcz7_0
       try clear hcz9_0
       try clear hfz10_0
       try clear hfz16_0
       try clear hfz7_0
       try clear hfz9_0
       try clear p2
       obtain ⟨kq, x35_17, rfl, HA, HJ17, HO_6, BK520, HB⟩ := hcut; cases kq with
       | zero => exact absurd HA.out (by simp [spec_BrokenWord.j2])
       | succ kj17 =>
        have H := HA.out; clear HA; simp only [spec_BrokenWord.j2] at H; by_cases c22 : x35_17 = true
        ·subst c22; have H1 : (if 0 ≤ x8_2 then (if x8_2 < (t525.length : Int) then ((spec_ApplyMorphism.f kj17 l0_0 (rd_L1 t525 x8_2)).bind fun bt533 => (if bt533.2 = true then ((spec_HasSquare.f kj17 bt533.1).bind fun t537 => (if t537 = true then ((some (([] : List Int) : List Int)).bind fun y538 => (if y538.length + (rd_L1 t525 x8_2).length < 17592186044416 then (some ((y538 ++ (rd_L1 t525 x8_2)), true)) else (none))) else (spec_BrokenWord.l0 kj17 t525 t528 (wrap64 (x8_2 + 1)) l0_0))) else ((some (([] : List Int) : List Int)).bind fun y545 => (if y545.length + (rd_L1 t525 x8_2).length < 17592186044416 then (some ((y545 ++ (rd_L1 t525 x8_2)), true)) else (none))))) else (none)) else (none)) = some (r1, r2) := by rw [if_pos rfl] at H; exact H
         clear H; have H := H1; clear H1; by_cases c23 : 0 ≤ x8_2
         ·rw [if_pos c23] at H; have c23b0 : decide (0 ≤ x8_2) = true := decide_eq_true c23; clear c23; by_cases c24 : x8_2 < (t525.length : Int)
          ·rw [if_pos c24] at H; have c24b0 : decide (x8_2 < (t525.length : Int)) = true := decide_eq_true c24; clear c24; replace H := Option.bind_eq_some_iff.mp H; obtain ⟨⟨t533, t536⟩, A250, H⟩ := H; replace H : (if t536 = true then ((spec_HasSquare.f kj17 t533).bind fun t537 => (if t537 = true then ((some (([] : List Int) : List Int)).bind fun y538 => (if y538.length + (rd_L1 t525 x8_2).length < 17592186044416 then (some ((y538 ++ (rd_L1 t525 x8_2)), true)) else (none))) else (spec_BrokenWord.l0 kj17 t525 t528 (wrap64 (x8_2 + 1)) l0_0))) else ((some (([] : List Int) : List Int)).bind fun y545 => (if y545.length + (rd_L1 t525 x8_2).length < 17592186044416 then (some ((y545 ++ (rd_L1 t525 x8_2)), true)) else (none)))) = some (r1, r2) := H; have A25 := am A250; clear A250; by_cases c26 : t536 = true
           ·subst c26; have H1 : ((spec_HasSquare.f kj17 t533).bind fun t537 => (if t537 = true then ((some (([] : List Int) : List Int)).bind fun y538 => (if y538.length + (rd_L1 t525 x8_2).length < 17592186044416 then (some ((y538 ++ (rd_L1 t525 x8_2)), true)) else (none))) else (spec_BrokenWord.l0 kj17 t525 t528 (wrap64 (x8_2 + 1)) l0_0))) = some (r1, r2) := by rw [if_pos rfl] at H; exact H
            clear H; have H := H1; clear H1; replace H := Option.bind_eq_some_iff.mp H; obtain ⟨t537, A270, H⟩ := H; replace H : (if t537 = true then ((some (([] : List Int) : List Int)).bind fun y538 => (if y538.length + (rd_L1 t525 x8_2).length < 17592186044416 then (some ((y538 ++ (rd_L1 t525 x8_2)), true)) else (none))) else (spec_BrokenWord.l0 kj17 t525 t528 (wrap64 (x8_2 + 1)) l0_0)) = some (r1, r2) := H; have A27 := am A270; clear A270; by_cases c28 : t537 = true
            ·subst c28; have H1 : ((some (([] : List Int) : List Int)).bind fun y538 => (if y538.length + (rd_L1 t525 x8_2).length < 17592186044416 then (some ((y538 ++ (rd_L1 t525 x8_2)), true)) else (none))) = some (r1, r2) := by rw [if_pos rfl] at H; exact H
             clear H; have H := H1; clear H1; obtain ⟨y538, hy538⟩ : ∃ y_ : List Int, y_ = (([] : List Int)) := ⟨_, rfl⟩; replace H : (if y538.length + (rd_L1 t525 x8_2).length < 17592186044416 then (some ((y538 ++ (rd_L1 t525 x8_2)), true)) else (none)) = some (r1, r2) := by rw [hy538]; first | exact H | exact (Option.bind_some _ _).symm.trans H
             have Ny538 := am hy538; clear hy538; by_cases c29 : y538.length + (rd_L1 t525 x8_2).length < 17592186044416
             ·rw [if_pos c29] at H; have LMc29 := am c29; clear c29; obtain ⟨y542, hy542⟩ : ∃ y_ : List Int, y_ = (y538 ++ (rd_L1 t525 x8_2)) := ⟨_, rfl⟩; replace H : (some (y542, true)) = some (r1, r2) := by rw [hy542]; first | exact H | exact (Option.bind_some _ _).symm.trans H
              have Ny542 := am hy542; clear hy542; simp only [Option.some.injEq, Prod.mk.injEq] at H; obtain ⟨rfl, rfl⟩ := H
              try go_wp2
              replace HO_6 := am (Kd.N_drew HO_6.out); replace BK520 := am (blk_drew BK520.out); replace HB := am (below_drew1 HB.out)
              obtain ⟨Ao31, co31, eo31⟩ := Kd.N_slice HO_6.out
              (first | subst eo31 | (injection eo31 with f1_ f2_ f3_; have f4_ := f1_.symm; have f5_ := f3_.symm; clear f1_ f2_ f3_; subst f4_; subst f5_))
              have p532 : 0 ≤ (x8_2 : Int) := of_decide_eq_true (by first | (with_reducible assumption) | assumption); have q532 : x8_2 < (t525.length : Int) := of_decide_eq_true (by first | (with_reducible assumption) | assumption); obtain ⟨ad532, A532_0, c532_0, e532, hx532_0, hl532_0, hi532_0⟩ := at_L1 (Kd.N_reads' HO_6.out).2.2 x8_2 p532 q532; cases e532; obtain ⟨ce532, hce532, hMe532, hcc532⟩ := Kd.N_get HO_6.out [] x8_2 p532 (by first | exact q532 | exact of_decide_eq_true (by first | (with_reducible assumption) | assumption) | (have e_ := (Kd.N_reads' HO_6.out).1; omega)); obtain ⟨ua532_0, uc532_0, rfl, ul532_0, ge532_0⟩ := Kd.FK_slice_open hMe532; have hv532_0 := hcc532 0 _ rfl; rw [Nat.add_zero, show ((Kd.slice 3 (Kd.int .i64))).sz = 1 from rfl, Nat.mul_one] at hv532_0; replace hv532_0 := Option.some.inj (hv532_0.symm.trans hx532_0); injection hv532_0 with hva_ hvn_ hvc_; rw [hva_] at ge532_0; rw [hvc_] at ul532_0; have HL532_0 := am (show Kd.V (Kd.int .i64) 3 _ w.heap.size _ _ (rd_L1 t525 x8_2) from Kd.V_mk ul532_0 ge532_0); clear hva_ hvn_ hvc_ ge532_0 ul532_0; clear hcc532 hce532; have HR532_0 := am hi532_0; have HC532_0 := am hl532_0; clear hi532_0 hl532_0; replace p532 := eq_true p532; replace q532 := eq_true q532; refine start_ (n := 11) (S := fun w' => w'.cell? ⟨gb520, 0, none⟩ = some (.slice A0_0 l0_0.length c0_0) ∧ w'.cell? (ad532.add (x8_2).toNat) = some (.slice A532_0 (rd_L1 t525 x8_2).length c532_0)) (ds := []) #[false, false, false, false, false, false, false, false, false, false, false] (by kernel_rfl) rfl rfl ⟨(blk_cell BK520.out 0).trans rfl, hx532_0⟩ (fun hHeld => ?_); refine with_tabW spec_BrokenWord.tab7 spec_BrokenWord.bits7 (fun HT_ HW_ => ?_); generalize wc.drew = w30 at HO_6 BK520 HB HL532_0 HR532_0 hx532_0 hHeld ⊢; refine pure_ (i := 1) (N := some 40) (v := ?_) (a' := ?_) (bA 11 2) rfl rfl (any_of HT_.out (by kernel_rfl)) (fun _ _ _ h => h) (Or.inl ⟨by rfl, ?_⟩) ?_ ?_; rotate_left; (intro w'; go_simp; (with_reducible rfl)); rotate_left; (simp only [Act.put, qa, qz, qs, i64_w, i32_w]; rfl); refine pure_ (i := 2) (N := some 41) (v := ?_) (a' := ?_) (bA 11 6) rfl rfl (any_of HT_.out (by kernel_rfl)) (fun _ _ _ h => h) (Or.inl ⟨by rfl, ?_⟩) ?_ ?_; rotate_left
              ·intro w'; go_simp; (with_reducible rfl)
              rotate_left; (simp only [Act.put, qa, qz, qs, i64_w, i32_w]; rfl); refine pure_ (i := 3) (N := some 42) (v := ?_) (a' := ?_) (bA 11 14) rfl rfl (any_of HT_.out (by kernel_rfl)) (fun _ _ _ h => h) (Or.inl ⟨by rfl, ?_⟩) ?_ ?_; rotate_left
              ·intro w'; go_simp; (with_reducible rfl)
              rotate_left; (simp only [Act.put, qa, qz, qs, i64_w, i32_w]; rfl); refine take_ (i := 0) (N := some 39) (v := ?_) (a' := ?_) (bA 11 15) rfl rfl (take_ofW HT_.out HW_.out (by kernel_rfl)) (fun _ _ _ h => h) (Or.inl ⟨by rfl, ?_⟩) hHeld ?_ ?_; rotate_left
              ·rintro w' ⟨s0, s1⟩; go_simp; (with_reducible rfl)
              rotate_left; (simp only [Act.put, qa, qz, qs, i64_w, i32_w]; rfl); refine take_ (i := 4) (N := some 43) (v := ?_) (a' := ?_) (bA 11 31) rfl rfl (take_ofW HT_.out HW_.out (by kernel_rfl)) (fun _ _ _ h => h) (Or.inl ⟨by rfl, ?_⟩) hHeld ?_ ?_; rotate_left
              ·rintro w' ⟨s0, s1⟩; go_simp; (with_reducible rfl)
              rotate_left; (simp only [Act.put, qa, qz, qs, i64_w, i32_w]; rfl); refine one_ (i := 5) (N := some 44) (bA 11 63) rfl rfl (one_of HT_.out (by kernel_rfl)) (by decide) (fun K hK => ?_); refine goes_ Try.func95 (by kernel_rfl) rfl #[.agg #[.slice A0_0 l0_0.length c0_0], .slice A532_0 (rd_L1 t525 x8_2).length c532_0] (by rfl) rfl rfl (by (try simp only [mT, mC, mN]); first | done | rfl) ?_; (with_reducible refine (spec_ApplyMorphism.calls kj17 _ _ l0_0 _ _ (rd_L1 t525 x8_2) t533 true _ ?side1 ?side2 ?side3 ?side4 A25.out).mono ?_); (case side1 => exact xC ((Kd.C_below HR0_0.out HB.out))); (case side2 => exact HC0_0.out); (case side3 => repeat (first | exact (by repeat (first | (with_reducible exact HR532_0.out) | (with_reducible refine Kd.C_alloc ?_ _) | (with_reducible refine Kd.C_drewN ?_ _) | (with_reducible refine Kd.C_drew ?_) | exact HR532_0.out)) | (with_reducible refine Kd.C_alloc ?_ _) | (with_reducible refine Kd.C_drewN ?_ _) | (with_reducible refine Kd.C_drew ?_))); (case side4 => exact HC532_0.out); rintro e w32 ⟨v534, rfl, ho0, hb⟩; have HS1_ := (hb.cell (World.block_lt_of_cell? _ _ (hHeld.2))).trans (hHeld.2); refine ⟨_, rfl, ?_⟩; replace HO_6 := am (Kd.N_elder' (by exact rN HO_6) (Kd.R_base ho0) hb); replace HL532_0 := am (Kd.V_elder' (by exact rV HL532_0) (Kd.R_base ho0) hb); have HO535 := am (Kd.R_lower ho0 (below_size (by exact rB HB))); replace BK520 := am (blk_below (g := gb520) (o := .cells #[.slice A0_0 l0_0.length c0_0] 28 (0, 0)) (by exact rX BK520) hb); replace HR532_0 := am (Kd.C_below (by repeat (first | (with_reducible exact HR532_0.out) | (with_reducible refine Kd.C_alloc ?_ _) | (with_reducible refine Kd.C_drewN ?_ _) | (with_reducible refine Kd.C_drew ?_) | exact HR532_0.out)) hb); replace HB := am (below_step (by exact rB HB) hb)
              (try clear hb); (try clear hb2); (try clear hk); (try clear hi); (try clear ho0); refine hK.out _ _ ⟨(blk_cell BK520.out 0).trans rfl, HS1_⟩ (fun hHeld => ?_); clear hK K; refine norm_ (a' := ?_) ?_ ?_; rotate_left; (show Act.put _ (some 44) _ = _; simp only [Act.put, qa, qz, qs, i64_w, i32_w]; rfl); refine pure_ (i := 6) (N := some 38) (v := ?_) (a' := ?_) (bA 11 127) rfl rfl (any_of HT_.out (by kernel_rfl)) (fun _ _ _ h => h) (Or.inl ⟨by rfl, ?_⟩) ?_ ?_; rotate_left
              ·intro w'; go_simp; (with_reducible rfl)
              rotate_left; (simp only [Act.put, qa, qz, qs, i64_w, i32_w]; rfl); refine pure_ (i := 7) (N := some 45) (v := ?_) (a' := ?_) (bA 11 255) rfl rfl (any_of HT_.out (by kernel_rfl)) (fun _ _ _ h => h) (Or.inl ⟨by rfl, ?_⟩) ?_ ?_; rotate_left
              ·intro w'; go_simp; (with_reducible rfl)
              rotate_left; (simp only [Act.put, qa, qz, qs, i64_w, i32_w]; rfl); refine pure_ (i := 8) (N := some 46) (v := ?_) (a' := ?_) (bA 11 511) rfl rfl (any_of HT_.out (by kernel_rfl)) (fun _ _ _ h => h) (Or.inl ⟨by rfl, ?_⟩) ?_ ?_; rotate_left
              ·intro w'; go_simp; (with_reducible rfl)
              rotate_left; (simp only [Act.put, qa, qz, qs, i64_w, i32_w]; rfl); refine pure_ (i := 9) (N := some 9) (v := ?_) (a' := ?_) (bA 11 1023) rfl rfl (any_of HT_.out (by kernel_rfl)) (fun _ _ _ h => h) (Or.inl ⟨by rfl, ?_⟩) ?_ ?_; rotate_left
              ·intro w'; go_simp; (with_reducible rfl)
              rotate_left; (simp only [Act.put, qa, qz, qs, i64_w, i32_w]; rfl); refine pure_ (i := 10) (N := some 10) (v := ?_) (a' := ?_) (bA 11 2047) rfl rfl (any_of HT_.out (by kernel_rfl)) (fun _ _ _ h => h) (Or.inl ⟨by rfl, ?_⟩) ?_ ?_; rotate_left
              ·intro w'; go_simp; (with_reducible rfl)
              rotate_left; (simp only [Act.put, qa, qz, qs, i64_w, i32_w]; rfl); refine done_ (done_of HT_.out (by kernel_rfl)) ?_; obtain ⟨Ao33, co33, eo33⟩ := Kd.R_slice HO535.out; subst eo33
              try go_wp2_with (first | (go_at_call 44; (with_reducible refine (spec_HasSquare.calls kj17 _ _ t533 true _ ?side1 ?side2 A27.out).mono ?_); (case side1 => exact xC ((Kd.R_reads' HO535.out).2.2)); (case side2 => exact (Kd.R_reads' HO535.out).2.1); rintro e w34 ⟨rfl, hb⟩; replace HO_6 := am (Kd.N_below (by exact rN HO_6) hb); replace HL532_0 := am (Kd.V_below (by exact rV HL532_0) hb); replace HO535 := am (Kd.R_below (by exact rR HO535) hb); replace BK520 := am (blk_below (g := gb520) (o := .cells #[.slice A0_0 l0_0.length c0_0] 28 (0, 0)) (by exact rX BK520) hb); replace HR532_0 := am (Kd.C_below (by repeat (first | (with_reducible exact HR532_0.out) | (with_reducible refine Kd.C_alloc ?_ _) | (with_reducible refine Kd.C_drewN ?_ _) | (with_reducible refine Kd.C_drew ?_) | exact HR532_0.out)) hb); replace HB := am (below_step (by exact rB HB) hb); clear hb) | ((with_reducible refine gate_dst (N := 53) rfl ?_); (try (refine gate_guard (by rfl) ?_; dsimp only)); refine Kd.R_lit (Kd.int .i64) _ 3 ?hg (N := 53) ?hd (xs := ([] : List Int)) (inner := []) (ok := fun _ => True) (okp := fun _ => True) ?hr ?hp (fun _ hk => hk) trivial (Below.refl _ _) (Nat.le_refl _) (by simp) ?_; (case hd => rfl); (case hg => rfl); (case hr => first | (go_simp; done) | (go_simp; rfl)); (case hp => exact (Reps.none _ _)); intro v539 w35 ho36 hb hg_ hnew_; clear hg_ hnew_; (first | rw [← Ny538.out] at ho36 | (simp only [Int.reduceToNat] at ho36; rw [← Ny538.out] at ho36)); replace HO_6 := am (Kd.N_elder' (by exact rN HO_6) (Kd.R_base ho36) hb); replace HL532_0 := am (Kd.V_elder' (by exact rV HL532_0) (Kd.R_base ho36) hb); have HO540 := am (Kd.R_lower (Kd.R_new' ho36 (Kd.R_lt (by exact rR HO535))) (below_size (by exact rB HB))); replace HO535 := am (Kd.R_elder' (by exact rR HO535) (Kd.R_base ho36) hb); replace BK520 := am (blk_below (g := gb520) (o := .cells #[.slice A0_0 l0_0.length c0_0] 28 (0, 0)) (by exact rX BK520) hb); replace HR532_0 := am (Kd.C_below (by repeat (first | (with_reducible exact HR532_0.out) | (with_reducible refine Kd.C_alloc ?_ _) | (with_reducible refine Kd.C_drewN ?_ _) | (with_reducible refine Kd.C_drew ?_) | exact HR532_0.out)) hb); replace HB := am (below_step (by exact rB HB) hb); clear hb ho36; have p541 : 0 ≤ (x8_2 : Int) := of_decide_eq_true (by first | (with_reducible assumption) | assumption); have q541 : x8_2 < (t525.length : Int) := of_decide_eq_true (by first | (with_reducible assumption) | assumption); obtain ⟨ad541, A541_0, c541_0, e541, hx541_0, hl541_0, hi541_0⟩ := at_L1 (Kd.N_reads' HO_6.out).2.2 x8_2 p541 q541; obtain rfl : ad532 = ad541 := (by injection e541); obtain ⟨ce541, hce541, hMe541, hcc541⟩ := Kd.N_get HO_6.out [] x8_2 p541 (by first | exact q541 | exact of_decide_eq_true (by first | (with_reducible assumption) | assumption) | (have e_ := (Kd.N_reads' HO_6.out).1; omega)); obtain ⟨ua541_0, uc541_0, rfl, ul541_0, ge541_0⟩ := Kd.FK_slice_open hMe541; have hv541_0 := hcc541 0 _ rfl; rw [Nat.add_zero, show ((Kd.slice 3 (Kd.int .i64))).sz = 1 from rfl, Nat.mul_one] at hv541_0; replace hv541_0 := Option.some.inj (hv541_0.symm.trans hx541_0); injection hv541_0 with hva_ hvn_ hvc_; rw [hva_] at ge541_0; rw [hvc_] at ul541_0; have HL541_0 := am (show Kd.V (Kd.int .i64) 3 _ w.heap.size _ _ (rd_L1 t525 x8_2) from Kd.V_mk ul541_0 ge541_0); clear hva_ hvn_ hvc_ ge541_0 ul541_0; clear hcc541 hce541; have HR541_0 := am hi541_0; have HC541_0 := am hl541_0; clear hi541_0 hl541_0; replace p541 := eq_true p541; replace q541 := eq_true q541) | ((with_reducible refine gate_builtin (b := .append) (xs := #[.tmp 53, .tmp 57]) rfl ?_); (try (refine gate_guard (by rfl) ?_; dsimp only)); at_builtin; refine Kd.R_append_rows (Kd.int .i64) (w0 := w) w.heap.size rfl (.tmp 53) (.tmp 57) 36 3 (.int .i64 0) 8 rfl Try.underlying36 info3 rfl (by decide) (by omega) v539 y538 (rd_L1 t525 x8_2) _ _ _ (fun k_ => some k_ ≠ (.slice Ao33 t533.length co33 : Value).ownBlock) (fun _ => False) rfl rfl ?aO ?aR (fun _ _ h => h) (fun _ h => h.elim) ?aF ?aB ?aS ?aL ?_; (case aR => repeat (first | exact (by repeat (first | (with_reducible exact HR541_0.out) | (with_reducible refine Kd.C_alloc ?_ _) | (with_reducible refine Kd.C_drewN ?_ _) | (with_reducible refine Kd.C_drew ?_) | exact HR541_0.out)) | (with_reducible refine Kd.C_alloc ?_ _) | (with_reducible refine Kd.C_drewN ?_ _) | (with_reducible refine Kd.C_drew ?_))); (case aB => exact (by exact rB HB)); (case aF => exact (fun k_ hk => Kd.fresh' (Kd.R_lt (by exact rR HO535)) k_ hk)); (case aO => exact (by exact xR (Kd.R_mono HO540.out (fun _ hk => hk.2)))); (case aS => exact (below_size (by exact rB HB))); (case aL => have := LMc29.out; omega); intro v543 w37 ho hb hg hat; rw [← Ny542.out] at ho; replace HO_6 := am (Kd.N_afterv (ok := (fun k_ => some k_ ≠ (.slice Ao33 t533.length co33 : Value).ownBlock ∧ k_ ≠ gb520)) (by exact xN (Kd.N_mono HO_6.out (fun _ hk => ⟨⟨hk.1.2, hk.1.1⟩, hk.2⟩))) hg hat); replace BK520 := am (blk_grown (g := gb520) (o := .cells #[.slice A0_0 l0_0.length c0_0] 28 (0, 0)) (by exact rX BK520) hg (Kd.R_ne HO540.out BK520.out (by decide))); replace HL532_0 := am (Kd.V_afterv (ok := (fun k_ => some k_ ≠ (.slice (some ad532) t525.length co31 : Value).ownBlock ∧ some k_ ≠ (.slice Ao33 t533.length co33 : Value).ownBlock ∧ k_ ≠ gb520)) (by exact xV (Kd.V_mono HL532_0.out (fun _ hk => ⟨⟨hk.1.1.2, ⟨hk.1.2, hk.1.1.1⟩⟩, hk.2⟩))) hg hat); replace HO535 := am (Kd.R_after (ok := (fun _ => True)) (by exact rR HO535) hg hat); replace HL541_0 := am (Kd.V_afterv (ok := (fun k_ => some k_ ≠ (.slice (some ad532) t525.length co31 : Value).ownBlock ∧ some k_ ≠ (.slice Ao33 t533.length co33 : Value).ownBlock ∧ k_ ≠ gb520)) (by exact xV (Kd.V_mono HL541_0.out (fun _ hk => ⟨⟨hk.2, ⟨hk.1.1.2, hk.1.1.1⟩⟩, hk.1.2⟩))) hg hat); replace HB := am (hb); have HO544 := am (ho); clear HO540; clear ho hb hg hat))
              go_ret2; exact ⟨_, by first | rfl | (simp [errW_none, errW_some] <;> rfl) | (simp [*, errW_none, errW_some] <;> rfl), by exact xR (Kd.R_mono HO544.out (fun _ hk => trivial)), by exact rB HB⟩
             ·rw [if_neg c29] at H; exact absurd H (by simp)
            ·replace c28 := Bool.eq_false_iff.mpr c28; subst c28; have H1 : (spec_BrokenWord.l0 kj17 t525 t528 (wrap64 (x8_2 + 1)) l0_0) = some (r1, r2) := by rw [if_neg (show ¬ (false = true) by decide)] at H; exact H
             clear H; have H := H1; clear H1; have H' := am H; clear H
             try go_wp2
             replace HO_6 := am (Kd.N_drew HO_6.out); replace BK520 := am (blk_drew BK520.out); replace HB := am (below_drew1 HB.out)
             obtain ⟨Ao39, co39, eo39⟩ := Kd.N_slice HO_6.out
             (first | subst eo39 | (injection eo39 with f1_ f2_ f3_; have f4_ := f1_.symm; have f5_ := f3_.symm; clear f1_ f2_ f3_; subst f4_; subst f5_))
             have p532 : 0 ≤ (x8_2 : Int) := of_decide_eq_true (by first | (with_reducible assumption) | assumption); have q532 : x8_2 < (t525.length : Int) := of_decide_eq_true (by first | (with_reducible assumption) | assumption); obtain ⟨ad532, A532_0, c532_0, e532, hx532_0, hl532_0, hi532_0⟩ := at_L1 (Kd.N_reads' HO_6.out).2.2 x8_2 p532 q532; cases e532; obtain ⟨ce532, hce532, hMe532, hcc532⟩ := Kd.N_get HO_6.out [] x8_2 p532 (by first | exact q532 | exact of_decide_eq_true (by first | (with_reducible assumption) | assumption) | (have e_ := (Kd.N_reads' HO_6.out).1; omega)); obtain ⟨ua532_0, uc532_0, rfl, ul532_0, ge532_0⟩ := Kd.FK_slice_open hMe532; have hv532_0 := hcc532 0 _ rfl; rw [Nat.add_zero, show ((Kd.slice 3 (Kd.int .i64))).sz = 1 from rfl, Nat.mul_one] at hv532_0; replace hv532_0 := Option.some.inj (hv532_0.symm.trans hx532_0); injection hv532_0 with hva_ hvn_ hvc_; rw [hva_] at ge532_0; rw [hvc_] at ul532_0; have HL532_0 := am (show Kd.V (Kd.int .i64) 3 _ w.heap.size _ _ (rd_L1 t525 x8_2) from Kd.V_mk ul532_0 ge532_0); clear hva_ hvn_ hvc_ ge532_0 ul532_0; clear hcc532 hce532; have HR532_0 := am hi532_0; have HC532_0 := am hl532_0; clear hi532_0 hl532_0; replace p532 := eq_true p532; replace q532 := eq_true q532; refine start_ (n := 11) (S := fun w' => w'.cell? ⟨gb520, 0, none⟩ = some (.slice A0_0 l0_0.length c0_0) ∧ w'.cell? (ad532.add (x8_2).toNat) = some (.slice A532_0 (rd_L1 t525 x8_2).length c532_0)) (ds := []) #[false, false, false, false, false, false, false, false, false, false, false] (by kernel_rfl) rfl rfl ⟨(blk_cell BK520.out 0).trans rfl, hx532_0⟩ (fun hHeld => ?_); refine with_tabW spec_BrokenWord.tab7 spec_BrokenWord.bits7 (fun HT_ HW_ => ?_); generalize wc.drew = w38 at HO_6 BK520 HB HL532_0 HR532_0 hx532_0 hHeld ⊢; refine pure_ (i := 1) (N := some 40) (v := ?_) (a' := ?_) (bA 11 2) rfl rfl (any_of HT_.out (by kernel_rfl)) (fun _ _ _ h => h) (Or.inl ⟨by rfl, ?_⟩) ?_ ?_; rotate_left; (intro w'; go_simp; (with_reducible rfl)); rotate_left; (simp only [Act.put, qa, qz, qs, i64_w, i32_w]; rfl); refine pure_ (i := 2) (N := some 41) (v := ?_) (a' := ?_) (bA 11 6) rfl rfl (any_of HT_.out (by kernel_rfl)) (fun _ _ _ h => h) (Or.inl ⟨by rfl, ?_⟩) ?_ ?_; rotate_left
             ·intro w'; go_simp; (with_reducible rfl)
             rotate_left; (simp only [Act.put, qa, qz, qs, i64_w, i32_w]; rfl); refine pure_ (i := 3) (N := some 42) (v := ?_) (a' := ?_) (bA 11 14) rfl rfl (any_of HT_.out (by kernel_rfl)) (fun _ _ _ h => h) (Or.inl ⟨by rfl, ?_⟩) ?_ ?_; rotate_left
             ·intro w'; go_simp; (with_reducible rfl)
             rotate_left; (simp only [Act.put, qa, qz, qs, i64_w, i32_w]; rfl); refine take_ (i := 0) (N := some 39) (v := ?_) (a' := ?_) (bA 11 15) rfl rfl (take_ofW HT_.out HW_.out (by kernel_rfl)) (fun _ _ _ h => h) (Or.inl ⟨by rfl, ?_⟩) hHeld ?_ ?_; rotate_left
             ·rintro w' ⟨s0, s1⟩; go_simp; (with_reducible rfl)
             rotate_left; (simp only [Act.put, qa, qz, qs, i64_w, i32_w]; rfl); refine take_ (i := 4) (N := some 43) (v := ?_) (a' := ?_) (bA 11 31) rfl rfl (take_ofW HT_.out HW_.out (by kernel_rfl)) (fun _ _ _ h => h) (Or.inl ⟨by rfl, ?_⟩) hHeld ?_ ?_; rotate_left
             ·rintro w' ⟨s0, s1⟩; go_simp; (with_reducible rfl)
             rotate_left; (simp only [Act.put, qa, qz, qs, i64_w, i32_w]; rfl); refine one_ (i := 5) (N := some 44) (bA 11 63) rfl rfl (one_of HT_.out (by kernel_rfl)) (by decide) (fun K hK => ?_); refine goes_ Try.func95 (by kernel_rfl) rfl #[.agg #[.slice A0_0 l0_0.length c0_0], .slice A532_0 (rd_L1 t525 x8_2).length c532_0] (by rfl) rfl rfl (by (try simp only [mT, mC, mN]); first | done | rfl) ?_; (with_reducible refine (spec_ApplyMorphism.calls kj17 _ _ l0_0 _ _ (rd_L1 t525 x8_2) t533 true _ ?side1 ?side2 ?side3 ?side4 A25.out).mono ?_); (case side1 => exact xC ((Kd.C_below HR0_0.out HB.out))); (case side2 => exact HC0_0.out); (case side3 => repeat (first | exact (by repeat (first | (with_reducible exact HR532_0.out) | (with_reducible refine Kd.C_alloc ?_ _) | (with_reducible refine Kd.C_drewN ?_ _) | (with_reducible refine Kd.C_drew ?_) | exact HR532_0.out)) | (with_reducible refine Kd.C_alloc ?_ _) | (with_reducible refine Kd.C_drewN ?_ _) | (with_reducible refine Kd.C_drew ?_))); (case side4 => exact HC532_0.out); rintro e w40 ⟨v534, rfl, ho0, hb⟩; have HS1_ := (hb.cell (World.block_lt_of_cell? _ _ (hHeld.2))).trans (hHeld.2); refine ⟨_, rfl, ?_⟩; replace HO_6 := am (Kd.N_elder' (by exact rN HO_6) (Kd.R_base ho0) hb); replace HL532_0 := am (Kd.V_elder' (by exact rV HL532_0) (Kd.R_base ho0) hb); have HO535 := am (Kd.R_lower ho0 (below_size (by exact rB HB))); replace BK520 := am (blk_below (g := gb520) (o := .cells #[.slice A0_0 l0_0.length c0_0] 28 (0, 0)) (by exact rX BK520) hb); replace HR532_0 := am (Kd.C_below (by repeat (first | (with_reducible exact HR532_0.out) | (with_reducible refine Kd.C_alloc ?_ _) | (with_reducible refine Kd.C_drewN ?_ _) | (with_reducible refine Kd.C_drew ?_) | exact HR532_0.out)) hb); replace HB := am (below_step (by exact rB HB) hb)
             (try clear hb); (try clear hb2); (try clear hk); (try clear hi); (try clear ho0); refine hK.out _ _ ⟨(blk_cell BK520.out 0).trans rfl, HS1_⟩ (fun hHeld => ?_); clear hK K; refine norm_ (a' := ?_) ?_ ?_; rotate_left; (show Act.put _ (some 44) _ = _; simp only [Act.put, qa, qz, qs, i64_w, i32_w]; rfl); refine pure_ (i := 6) (N := some 38) (v := ?_) (a' := ?_) (bA 11 127) rfl rfl (any_of HT_.out (by kernel_rfl)) (fun _ _ _ h => h) (Or.inl ⟨by rfl, ?_⟩) ?_ ?_; rotate_left
             ·intro w'; go_simp; (with_reducible rfl)
             rotate_left; (simp only [Act.put, qa, qz, qs, i64_w, i32_w]; rfl); refine pure_ (i := 7) (N := some 45) (v := ?_) (a' := ?_) (bA 11 255) rfl rfl (any_of HT_.out (by kernel_rfl)) (fun _ _ _ h => h) (Or.inl ⟨by rfl, ?_⟩) ?_ ?_; rotate_left
             ·intro w'; go_simp; (with_reducible rfl)
             rotate_left; (simp only [Act.put, qa, qz, qs, i64_w, i32_w]; rfl); refine pure_ (i := 8) (N := some 46) (v := ?_) (a' := ?_) (bA 11 511) rfl rfl (any_of HT_.out (by kernel_rfl)) (fun _ _ _ h => h) (Or.inl ⟨by rfl, ?_⟩) ?_ ?_; rotate_left
             ·intro w'; go_simp; (with_reducible rfl)
             rotate_left; (simp only [Act.put, qa, qz, qs, i64_w, i32_w]; rfl); refine pure_ (i := 9) (N := some 9) (v := ?_) (a' := ?_) (bA 11 1023) rfl rfl (any_of HT_.out (by kernel_rfl)) (fun _ _ _ h => h) (Or.inl ⟨by rfl, ?_⟩) ?_ ?_; rotate_left
             ·intro w'; go_simp; (with_reducible rfl)
             rotate_left; (simp only [Act.put, qa, qz, qs, i64_w, i32_w]; rfl); refine pure_ (i := 10) (N := some 10) (v := ?_) (a' := ?_) (bA 11 2047) rfl rfl (any_of HT_.out (by kernel_rfl)) (fun _ _ _ h => h) (Or.inl ⟨by rfl, ?_⟩) ?_ ?_; rotate_left
             ·intro w'; go_simp; (with_reducible rfl)
             rotate_left; (simp only [Act.put, qa, qz, qs, i64_w, i32_w]; rfl); refine done_ (done_of HT_.out (by kernel_rfl)) ?_; obtain ⟨Ao41, co41, eo41⟩ := Kd.R_slice HO535.out; subst eo41
             try go_wp2_with (first | (go_at_call 44; (with_reducible refine (spec_HasSquare.calls kj17 _ _ t533 false _ ?side1 ?side2 A27.out).mono ?_); (case side1 => exact xC ((Kd.R_reads' HO535.out).2.2)); (case side2 => exact (Kd.R_reads' HO535.out).2.1); rintro e w42 ⟨rfl, hb⟩; replace HO_6 := am (Kd.N_below (by exact rN HO_6) hb); replace HL532_0 := am (Kd.V_below (by exact rV HL532_0) hb); replace HO535 := am (Kd.R_below (by exact rR HO535) hb); replace BK520 := am (blk_below (g := gb520) (o := .cells #[.slice A0_0 l0_0.length c0_0] 28 (0, 0)) (by exact rX BK520) hb); replace HR532_0 := am (Kd.C_below (by repeat (first | (with_reducible exact HR532_0.out) | (with_reducible refine Kd.C_alloc ?_ _) | (with_reducible refine Kd.C_drewN ?_ _) | (with_reducible refine Kd.C_drew ?_) | exact HR532_0.out)) hb); replace HB := am (below_step (by exact rB HB) hb); clear hb))
             go_roundg kj17
             case measure => have := HJ2.out; have := HK2.out; have := HJ17.out; omega
             case rel => exact ⟨(wrap64 (x8_2 + 1)), (by first | rfl | (simp; done) | (simp [*]; done)), H', ⟨by have := HJ2.out; have := HK2.out; have := HJ17.out; omega⟩, ⟨by exact xN (Kd.N_mono HO_6.out (fun _ hk => hk.1))⟩, ⟨by exact rX BK520⟩, ⟨by exact rB HB⟩⟩
           ·replace c26 := Bool.eq_false_iff.mpr c26; subst c26; have H1 : ((some (([] : List Int) : List Int)).bind fun y545 => (if y545.length + (rd_L1 t525 x8_2).length < 17592186044416 then (some ((y545 ++ (rd_L1 t525 x8_2)), true)) else (none))) = some (r1, r2) := by rw [if_neg (show ¬ (false = true) by decide)] at H; exact H
            clear H; have H := H1; clear H1; obtain ⟨y545, hy545⟩ : ∃ y_ : List Int, y_ = (([] : List Int)) := ⟨_, rfl⟩; replace H : (if y545.length + (rd_L1 t525 x8_2).length < 17592186044416 then (some ((y545 ++ (rd_L1 t525 x8_2)), true)) else (none)) = some (r1, r2) := by rw [hy545]; first | exact H | exact (Option.bind_some _ _).symm.trans H
            have Ny545 := am hy545; clear hy545; by_cases c43 : y545.length + (rd_L1 t525 x8_2).length < 17592186044416
            ·rw [if_pos c43] at H; have LMc43 := am c43; clear c43; obtain ⟨y549, hy549⟩ : ∃ y_ : List Int, y_ = (y545 ++ (rd_L1 t525 x8_2)) := ⟨_, rfl⟩; replace H : (some (y549, true)) = some (r1, r2) := by rw [hy549]; first | exact H | exact (Option.bind_some _ _).symm.trans H
             have Ny549 := am hy549; clear hy549; simp only [Option.some.injEq, Prod.mk.injEq] at H; obtain ⟨rfl, rfl⟩ := H
             try go_wp2
             replace HO_6 := am (Kd.N_drew HO_6.out); replace BK520 := am (blk_drew BK520.out); replace HB := am (below_drew1 HB.out)
             obtain ⟨Ao45, co45, eo45⟩ := Kd.N_slice HO_6.out
             (first | subst eo45 | (injection eo45 with f1_ f2_ f3_; have f4_ := f1_.symm; have f5_ := f3_.symm; clear f1_ f2_ f3_; subst f4_; subst f5_))
             have p532 : 0 ≤ (x8_2 : Int) := of_decide_eq_true (by first | (with_reducible assumption) | assumption); have q532 : x8_2 < (t525.length : Int) := of_decide_eq_true (by first | (with_reducible assumption) | assumption); obtain ⟨ad532, A532_0, c532_0, e532, hx532_0, hl532_0, hi532_0⟩ := at_L1 (Kd.N_reads' HO_6.out).2.2 x8_2 p532 q532; cases e532; obtain ⟨ce532, hce532, hMe532, hcc532⟩ := Kd.N_get HO_6.out [] x8_2 p532 (by first | exact q532 | exact of_decide_eq_true (by first | (with_reducible assumption) | assumption) | (have e_ := (Kd.N_reads' HO_6.out).1; omega)); obtain ⟨ua532_0, uc532_0, rfl, ul532_0, ge532_0⟩ := Kd.FK_slice_open hMe532; have hv532_0 := hcc532 0 _ rfl; rw [Nat.add_zero, show ((Kd.slice 3 (Kd.int .i64))).sz = 1 from rfl, Nat.mul_one] at hv532_0; replace hv532_0 := Option.some.inj (hv532_0.symm.trans hx532_0); injection hv532_0 with hva_ hvn_ hvc_; rw [hva_] at ge532_0; rw [hvc_] at ul532_0; have HL532_0 := am (show Kd.V (Kd.int .i64) 3 _ w.heap.size _ _ (rd_L1 t525 x8_2) from Kd.V_mk ul532_0 ge532_0); clear hva_ hvn_ hvc_ ge532_0 ul532_0; clear hcc532 hce532; have HR532_0 := am hi532_0; have HC532_0 := am hl532_0; clear hi532_0 hl532_0; replace p532 := eq_true p532; replace q532 := eq_true q532; refine start_ (n := 11) (S := fun w' => w'.cell? ⟨gb520, 0, none⟩ = some (.slice A0_0 l0_0.length c0_0) ∧ w'.cell? (ad532.add (x8_2).toNat) = some (.slice A532_0 (rd_L1 t525 x8_2).length c532_0)) (ds := []) #[false, false, false, false, false, false, false, false, false, false, false] (by kernel_rfl) rfl rfl ⟨(blk_cell BK520.out 0).trans rfl, hx532_0⟩ (fun hHeld => ?_); refine with_tabW spec_BrokenWord.tab7 spec_BrokenWord.bits7 (fun HT_ HW_ => ?_); generalize wc.drew = w44 at HO_6 BK520 HB HL532_0 HR532_0 hx532_0 hHeld ⊢; refine pure_ (i := 1) (N := some 40) (v := ?_) (a' := ?_) (bA 11 2) rfl rfl (any_of HT_.out (by kernel_rfl)) (fun _ _ _ h => h) (Or.inl ⟨by rfl, ?_⟩) ?_ ?_; rotate_left; (intro w'; go_simp; (with_reducible rfl)); rotate_left; (simp only [Act.put, qa, qz, qs, i64_w, i32_w]; rfl); refine pure_ (i := 2) (N := some 41) (v := ?_) (a' := ?_) (bA 11 6) rfl rfl (any_of HT_.out (by kernel_rfl)) (fun _ _ _ h => h) (Or.inl ⟨by rfl, ?_⟩) ?_ ?_; rotate_left
             ·intro w'; go_simp; (with_reducible rfl)
             rotate_left; (simp only [Act.put, qa, qz, qs, i64_w, i32_w]; rfl); refine pure_ (i := 3) (N := some 42) (v := ?_) (a' := ?_) (bA 11 14) rfl rfl (any_of HT_.out (by kernel_rfl)) (fun _ _ _ h => h) (Or.inl ⟨by rfl, ?_⟩) ?_ ?_; rotate_left
             ·intro w'; go_simp; (with_reducible rfl)
             rotate_left; (simp only [Act.put, qa, qz, qs, i64_w, i32_w]; rfl); refine take_ (i := 0) (N := some 39) (v := ?_) (a' := ?_) (bA 11 15) rfl rfl (take_ofW HT_.out HW_.out (by kernel_rfl)) (fun _ _ _ h => h) (Or.inl ⟨by rfl, ?_⟩) hHeld ?_ ?_; rotate_left
             ·rintro w' ⟨s0, s1⟩; go_simp; (with_reducible rfl)
             rotate_left; (simp only [Act.put, qa, qz, qs, i64_w, i32_w]; rfl); refine take_ (i := 4) (N := some 43) (v := ?_) (a' := ?_) (bA 11 31) rfl rfl (take_ofW HT_.out HW_.out (by kernel_rfl)) (fun _ _ _ h => h) (Or.inl ⟨by rfl, ?_⟩) hHeld ?_ ?_; rotate_left
             ·rintro w' ⟨s0, s1⟩; go_simp; (with_reducible rfl)
             rotate_left; (simp only [Act.put, qa, qz, qs, i64_w, i32_w]; rfl); refine one_ (i := 5) (N := some 44) (bA 11 63) rfl rfl (one_of HT_.out (by kernel_rfl)) (by decide) (fun K hK => ?_); refine goes_ Try.func95 (by kernel_rfl) rfl #[.agg #[.slice A0_0 l0_0.length c0_0], .slice A532_0 (rd_L1 t525 x8_2).length c532_0] (by rfl) rfl rfl (by (try simp only [mT, mC, mN]); first | done | rfl) ?_; (with_reducible refine (spec_ApplyMorphism.calls kj17 _ _ l0_0 _ _ (rd_L1 t525 x8_2) t533 false _ ?side1 ?side2 ?side3 ?side4 A25.out).mono ?_); (case side1 => exact xC ((Kd.C_below HR0_0.out HB.out))); (case side2 => exact HC0_0.out); (case side3 => repeat (first | exact (by repeat (first | (with_reducible exact HR532_0.out) | (with_reducible refine Kd.C_alloc ?_ _) | (with_reducible refine Kd.C_drewN ?_ _) | (with_reducible refine Kd.C_drew ?_) | exact HR532_0.out)) | (with_reducible refine Kd.C_alloc ?_ _) | (with_reducible refine Kd.C_drewN ?_ _) | (with_reducible refine Kd.C_drew ?_))); (case side4 => exact HC532_0.out); rintro e w46 ⟨v534, rfl, ho0, hb⟩; have HS1_ := (hb.cell (World.block_lt_of_cell? _ _ (hHeld.2))).trans (hHeld.2); refine ⟨_, rfl, ?_⟩; replace HO_6 := am (Kd.N_elder' (by exact rN HO_6) (Kd.R_base ho0) hb); replace HL532_0 := am (Kd.V_elder' (by exact rV HL532_0) (Kd.R_base ho0) hb); have HO535 := am (Kd.R_lower ho0 (below_size (by exact rB HB))); replace BK520 := am (blk_below (g := gb520) (o := .cells #[.slice A0_0 l0_0.length c0_0] 28 (0, 0)) (by exact rX BK520) hb); replace HR532_0 := am (Kd.C_below (by repeat (first | (with_reducible exact HR532_0.out) | (with_reducible refine Kd.C_alloc ?_ _) | (with_reducible refine Kd.C_drewN ?_ _) | (with_reducible refine Kd.C_drew ?_) | exact HR532_0.out)) hb); replace HB := am (below_step (by exact rB HB) hb)
             (try clear hb); (try clear hb2); (try clear hk); (try clear hi); (try clear ho0); refine hK.out _ _ ⟨(blk_cell BK520.out 0).trans rfl, HS1_⟩ (fun hHeld => ?_); clear hK K; refine norm_ (a' := ?_) ?_ ?_; rotate_left; (show Act.put _ (some 44) _ = _; simp only [Act.put, qa, qz, qs, i64_w, i32_w]; rfl); refine pure_ (i := 6) (N := some 38) (v := ?_) (a' := ?_) (bA 11 127) rfl rfl (any_of HT_.out (by kernel_rfl)) (fun _ _ _ h => h) (Or.inl ⟨by rfl, ?_⟩) ?_ ?_; rotate_left
             ·intro w'; go_simp; (with_reducible rfl)
             rotate_left; (simp only [Act.put, qa, qz, qs, i64_w, i32_w]; rfl); refine pure_ (i := 7) (N := some 45) (v := ?_) (a' := ?_) (bA 11 255) rfl rfl (any_of HT_.out (by kernel_rfl)) (fun _ _ _ h => h) (Or.inl ⟨by rfl, ?_⟩) ?_ ?_; rotate_left
             ·intro w'; go_simp; (with_reducible rfl)
             rotate_left; (simp only [Act.put, qa, qz, qs, i64_w, i32_w]; rfl); refine pure_ (i := 8) (N := some 46) (v := ?_) (a' := ?_) (bA 11 511) rfl rfl (any_of HT_.out (by kernel_rfl)) (fun _ _ _ h => h) (Or.inl ⟨by rfl, ?_⟩) ?_ ?_; rotate_left
             ·intro w'; go_simp; (with_reducible rfl)
             rotate_left; (simp only [Act.put, qa, qz, qs, i64_w, i32_w]; rfl); refine pure_ (i := 9) (N := some 9) (v := ?_) (a' := ?_) (bA 11 1023) rfl rfl (any_of HT_.out (by kernel_rfl)) (fun _ _ _ h => h) (Or.inl ⟨by rfl, ?_⟩) ?_ ?_; rotate_left
             ·intro w'; go_simp; (with_reducible rfl)
             rotate_left; (simp only [Act.put, qa, qz, qs, i64_w, i32_w]; rfl); refine pure_ (i := 10) (N := some 10) (v := ?_) (a' := ?_) (bA 11 2047) rfl rfl (any_of HT_.out (by kernel_rfl)) (fun _ _ _ h => h) (Or.inl ⟨by rfl, ?_⟩) ?_ ?_; rotate_left
             ·intro w'; go_simp; (with_reducible rfl)
             rotate_left; (simp only [Act.put, qa, qz, qs, i64_w, i32_w]; rfl); refine done_ (done_of HT_.out (by kernel_rfl)) ?_
             try go_wp2_with (first | ((with_reducible refine gate_dst (N := 53) rfl ?_); (try (refine gate_guard (by rfl) ?_; dsimp only)); refine Kd.R_lit (Kd.int .i64) _ 3 ?hg (N := 53) ?hd (xs := ([] : List Int)) (inner := []) (ok := fun _ => True) (okp := fun _ => True) ?hr ?hp (fun _ hk => hk) trivial (Below.refl _ _) (Nat.le_refl _) (by simp) ?_; (case hd => rfl); (case hg => rfl); (case hr => first | (go_simp; done) | (go_simp; rfl)); (case hp => exact (Reps.none _ _)); intro v546 w47 ho48 hb hg_ hnew_; clear hg_ hnew_; (first | rw [← Ny545.out] at ho48 | (simp only [Int.reduceToNat] at ho48; rw [← Ny545.out] at ho48)); replace HO_6 := am (Kd.N_elder' (by exact rN HO_6) (Kd.R_base ho48) hb); replace HL532_0 := am (Kd.V_elder' (by exact rV HL532_0) (Kd.R_base ho48) hb); have HO547 := am (Kd.R_lower (Kd.R_new' ho48 (Kd.R_lt (by exact rR HO535))) (below_size (by exact rB HB))); replace HO535 := am (Kd.R_elder' (by exact rR HO535) (Kd.R_base ho48) hb); replace BK520 := am (blk_below (g := gb520) (o := .cells #[.slice A0_0 l0_0.length c0_0] 28 (0, 0)) (by exact rX BK520) hb); replace HR532_0 := am (Kd.C_below (by repeat (first | (with_reducible exact HR532_0.out) | (with_reducible refine Kd.C_alloc ?_ _) | (with_reducible refine Kd.C_drewN ?_ _) | (with_reducible refine Kd.C_drew ?_) | exact HR532_0.out)) hb); replace HB := am (below_step (by exact rB HB) hb); clear hb ho48; have p548 : 0 ≤ (x8_2 : Int) := of_decide_eq_true (by first | (with_reducible assumption) | assumption); have q548 : x8_2 < (t525.length : Int) := of_decide_eq_true (by first | (with_reducible assumption) | assumption); obtain ⟨ad548, A548_0, c548_0, e548, hx548_0, hl548_0, hi548_0⟩ := at_L1 (Kd.N_reads' HO_6.out).2.2 x8_2 p548 q548; obtain rfl : ad532 = ad548 := (by injection e548); obtain ⟨ce548, hce548, hMe548, hcc548⟩ := Kd.N_get HO_6.out [] x8_2 p548 (by first | exact q548 | exact of_decide_eq_true (by first | (with_reducible assumption) | assumption) | (have e_ := (Kd.N_reads' HO_6.out).1; omega)); obtain ⟨ua548_0, uc548_0, rfl, ul548_0, ge548_0⟩ := Kd.FK_slice_open hMe548; have hv548_0 := hcc548 0 _ rfl; rw [Nat.add_zero, show ((Kd.slice 3 (Kd.int .i64))).sz = 1 from rfl, Nat.mul_one] at hv548_0; replace hv548_0 := Option.some.inj (hv548_0.symm.trans hx548_0); injection hv548_0 with hva_ hvn_ hvc_; rw [hva_] at ge548_0; rw [hvc_] at ul548_0; have HL548_0 := am (show Kd.V (Kd.int .i64) 3 _ w.heap.size _ _ (rd_L1 t525 x8_2) from Kd.V_mk ul548_0 ge548_0); clear hva_ hvn_ hvc_ ge548_0 ul548_0; clear hcc548 hce548; have HR548_0 := am hi548_0; have HC548_0 := am hl548_0; clear hi548_0 hl548_0; replace p548 := eq_true p548; replace q548 := eq_true q548) | ((with_reducible refine gate_builtin (b := .append) (xs := #[.tmp 53, .tmp 57]) rfl ?_); (try (refine gate_guard (by rfl) ?_; dsimp only)); at_builtin; refine Kd.R_append_rows (Kd.int .i64) (w0 := w) w.heap.size rfl (.tmp 53) (.tmp 57) 36 3 (.int .i64 0) 8 rfl Try.underlying36 info3 rfl (by decide) (by omega) v546 y545 (rd_L1 t525 x8_2) _ _ _ (fun k_ => some k_ ≠ (v534 : Value).ownBlock) (fun _ => False) rfl rfl ?aO ?aR (fun _ _ h => h) (fun _ h => h.elim) ?aF ?aB ?aS ?aL ?_; (case aR => repeat (first | exact (by repeat (first | (with_reducible exact HR548_0.out) | (with_reducible refine Kd.C_alloc ?_ _) | (with_reducible refine Kd.C_drewN ?_ _) | (with_reducible refine Kd.C_drew ?_) | exact HR548_0.out)) | (with_reducible refine Kd.C_alloc ?_ _) | (with_reducible refine Kd.C_drewN ?_ _) | (with_reducible refine Kd.C_drew ?_))); (case aB => exact (by exact rB HB)); (case aF => exact (fun k_ hk => Kd.fresh' (Kd.R_lt (by exact rR HO535)) k_ hk)); (case aO => exact (by exact xR (Kd.R_mono HO547.out (fun _ hk => hk.2)))); (case aS => exact (below_size (by exact rB HB))); (case aL => have := LMc43.out; omega); intro v550 w49 ho hb hg hat; rw [← Ny549.out] at ho; replace HO_6 := am (Kd.N_afterv (ok := (fun k_ => some k_ ≠ (v534 : Value).ownBlock ∧ k_ ≠ gb520)) (by exact xN (Kd.N_mono HO_6.out (fun _ hk => ⟨⟨hk.1.2, hk.1.1⟩, hk.2⟩))) hg hat); replace BK520 := am (blk_grown (g := gb520) (o := .cells #[.slice A0_0 l0_0.length c0_0] 28 (0, 0)) (by exact rX BK520) hg (Kd.R_ne HO547.out BK520.out (by decide))); replace HL532_0 := am (Kd.V_afterv (ok := (fun k_ => some k_ ≠ (.slice (some ad532) t525.length co45 : Value).ownBlock ∧ some k_ ≠ (v534 : Value).ownBlock ∧ k_ ≠ gb520)) (by exact xV (Kd.V_mono HL532_0.out (fun _ hk => ⟨⟨hk.1.1.2, ⟨hk.1.2, hk.1.1.1⟩⟩, hk.2⟩))) hg hat); replace HO535 := am (Kd.R_after (ok := (fun _ => True)) (by exact rR HO535) hg hat); replace HL548_0 := am (Kd.V_afterv (ok := (fun k_ => some k_ ≠ (.slice (some ad532) t525.length co45 : Value).ownBlock ∧ some k_ ≠ (v534 : Value).ownBlock ∧ k_ ≠ gb520)) (by exact xV (Kd.V_mono HL548_0.out (fun _ hk => ⟨⟨hk.2, ⟨hk.1.1.2, hk.1.1.1⟩⟩, hk.1.2⟩))) hg hat); replace HB := am (hb); have HO551 := am (ho); clear HO547; clear ho hb hg hat))
             go_ret2; exact ⟨_, by first | rfl | (simp [errW_none, errW_some] <;> rfl) | (simp [*, errW_none, errW_some] <;> rfl), by exact xR (Kd.R_mono HO551.out (fun _ hk => trivial)), by exact rB HB⟩
            ·rw [if_neg c43] at H; exact absurd H (by simp)
          ·rw [if_neg c24] at H; exact absurd H (by simp)
         ·rw [if_neg c23] at H; exact absurd H (by simp)
        ·replace c22 := Bool.eq_false_iff.mpr c22; subst c22; have H1 : (some ((([] : List Int)), false)) = some (r1, r2) := by rw [if_neg (show ¬ (false = true) by decide)] at H; exact H
         clear H; have H := H1; clear H1; obtain ⟨y529, hy529⟩ : ∃ y_ : List Int, y_ = (([] : List Int)) := ⟨_, rfl⟩; replace H : (some (y529, false)) = some (r1, r2) := by rw [hy529]; first | exact H | exact (Option.bind_some _ _).symm.trans H
         have Ny529 := am hy529; clear hy529; simp only [Option.some.injEq, Prod.mk.injEq] at H; obtain ⟨rfl, rfl⟩ := H; go_wp2_with (first | ((with_reducible refine gate_dst (N := 59) rfl ?_); (try (refine gate_guard (by rfl) ?_; dsimp only)); refine Kd.R_lit (Kd.int .i64) _ 3 ?hg (N := 59) ?hd (xs := ([] : List Int)) (inner := []) (ok := fun _ => True) (okp := fun _ => True) ?hr ?hp (fun _ hk => hk) trivial (Below.refl _ _) (Nat.le_refl _) (by simp) ?_; (case hd => rfl); (case hg => rfl); (case hr => first | (go_simp; done) | (go_simp; rfl)); (case hp => exact (Reps.none _ _)); intro v530 w50 ho51 hb hg_ hnew_; clear hg_ hnew_; (first | rw [← Ny529.out] at ho51 | (simp only [Int.reduceToNat] at ho51; rw [← Ny529.out] at ho51)); replace HO_6 := am (Kd.N_elder' (by exact rN HO_6) (Kd.R_base ho51) hb); have HO531 := am (Kd.R_lower ho51 (below_size (by exact rB HB))); replace BK520 := am (blk_below (g := gb520) (o := .cells #[.slice A0_0 l0_0.length c0_0] 28 (0, 0)) (by exact rX BK520) hb); replace HB := am (below_step (by exact rB HB) hb); clear hb ho51)); go_ret2; exact ⟨_, by first | rfl | (simp [errW_none, errW_some] <;> rfl) | (simp [*, errW_none, errW_some] <;> rfl), by exact rR HO531, by exact rB HB⟩
def spec_KeepsSquareFree.f (k : Nat) (l0_0 : List (List Int)) (a1 : Int) : Option (Bool) := (spec_BrokenWord.f k l0_0 a1).bind fun bt553 => ((spec_IsMorphism.f k l0_0).bind fun t557 => (if t557 = true then (if (l0_0.length : Int) ≤ 4 then ((spec_l1In.f a1 0 5).bind fun t558 => (if t558 = true then (some (!bt553.2)) else (some false))) else (some false)) else (some false)))
theorem spec_KeepsSquareFree.mono : ∀ a0 a1 k, LeO (spec_KeepsSquareFree.f k a0 a1) (spec_KeepsSquareFree.f (k + 1) a0 a1) := by
 intro a0 a1 k; unfold spec_KeepsSquareFree.f
 repeat' first
   | (with_reducible exact spec_BrokenWord.mono _ _ _)
   | (with_reducible exact spec_IsMorphism.mono _ _)
   | (with_reducible exact LeO.refl _)
   | (with_reducible exact LeO.none _)
   | (with_reducible refine LeO.ite ?_ ?_)
   | (with_reducible refine LeO.bind ?_ (fun _ => ?_))
set_option maxHeartbeats 8000000 in
set_option maxRecDepth 100000 in
theorem spec_KeepsSquareFree.calls (k : Nat) (A0_0 : Option Addr) (c0_0 : Nat) (l0_0 : List (List Int)) (a1 : Int) (r : Bool) (w : World) (hr0_0 : Kd.C (Kd.slice 3 (Kd.int .i64)) w A0_0 l0_0.length l0_0) (hc0_0 : l0_0.length ≤ c0_0) (h : spec_KeepsSquareFree.f k l0_0 a1 = some r) :
  Calls Try.prog 35 #[.agg #[.slice A0_0 l0_0.length c0_0], .int .i64 a1] w fun e w' => e = .returned (.bool r) ∧ Below w.heap.size w w' := by
 have hu28 := Try.underlying28; have HR0_0 := am hr0_0; have HC0_0 := am hc0_0; clear hr0_0 hc0_0; have HB := am (Below.refl w.heap.size w); have H : ((spec_BrokenWord.f k l0_0 a1).bind fun bt553 => ((spec_IsMorphism.f k l0_0).bind fun t557 => (if t557 = true then (if (l0_0.length : Int) ≤ 4 then ((spec_l1In.f a1 0 5).bind fun t558 => (if t558 = true then (some (!bt553.2)) else (some false))) else (some false)) else (some false)))) = some r := h; clear h; replace H := Option.bind_eq_some_iff.mp H; obtain ⟨⟨t553, t556⟩, A30, H⟩ := H; replace H : ((spec_IsMorphism.f k l0_0).bind fun t557 => (if t557 = true then (if (l0_0.length : Int) ≤ 4 then ((spec_l1In.f a1 0 5).bind fun t558 => (if t558 = true then (some (!t556)) else (some false))) else (some false)) else (some false))) = some r := H; have A3 := am A30; clear A30; replace H := Option.bind_eq_some_iff.mp H; obtain ⟨t557, A40, H⟩ := H; replace H : (if t557 = true then (if (l0_0.length : Int) ≤ 4 then ((spec_l1In.f a1 0 5).bind fun t558 => (if t558 = true then (some (!t556)) else (some false))) else (some false)) else (some false)) = some r := H; have A4 := am A40; clear A40; by_cases c5 : t557 = true
 ·subst c5; have H1 : (if (l0_0.length : Int) ≤ 4 then ((spec_l1In.f a1 0 5).bind fun t558 => (if t558 = true then (some (!t556)) else (some false))) else (some false)) = some r := by rw [if_pos rfl] at H; exact H
  clear H; have H := H1; clear H1; by_cases c6 : (l0_0.length : Int) ≤ 4
  ·rw [if_pos c6] at H; have c6b0 : decide ((l0_0.length : Int) ≤ 4) = true := decide_eq_true c6; have c6b1 : decide (l0_0.length ≤ 4) = true := decide_eq_true (by omega); clear c6; replace H := Option.bind_eq_some_iff.mp H; obtain ⟨t558, A70, H⟩ := H; replace H : (if t558 = true then (some (!t556)) else (some false)) = some r := H; have A7 := am A70; clear A70; by_cases c8 : t558 = true
   ·subst c8; have H1 : (some (!t556)) = some r := by rw [if_pos rfl] at H; exact H
    clear H; have H := H1; clear H1; obtain rfl := Option.some.inj H; go_enter Try.func35, Try.ntmps35; go_wp2_with (first | ((with_reducible refine gate_dst (N := 2) rfl ?_); (try (refine gate_guard (by rfl) ?_; dsimp only)); refine box_event ?hg (N := 2) ?hd (cs := #[.slice A0_0 l0_0.length c0_0]) (t := 28) ?hr ?_; (case hd => rfl); (case hg => rfl); (case hr => first | (go_simp; done) | (go_simp; rfl)); intro gb552 hg w9 hbox hb; have BK552 := am (hbox); have GW552 := am ((by rw [hg]; exact (below_size (by exact rB HB)) : w.heap.size ≤ gb552)); have GE552 := am ((by rw [hg]; exact (below_size (by exact rB HB)) : w.heap.size ≤ gb552)); replace HB := am (below_step (by exact rB HB) hb); have qW552 := Ge.mk GW552.out; have qE552 := Ge.mk GE552.out; clear hb hbox hg; have hcz10_0 : w9.cell? ⟨gb552, 0, none⟩ = some (.slice A0_0 l0_0.length c0_0) := (blk_cell BK552.out 0).trans rfl; have hfz10_0 := blk_frozen BK552.out 0) | ((with_reducible refine gate_callee (f := 37) rfl ?_); refine goesL_ (some 10) rfl rfl Try.func37 (by kernel_rfl) rfl #[.agg #[.slice A0_0 l0_0.length c0_0], .int .i64 a1] rfl (by (try simp only [mT, mC, mN]); first | done | rfl) ?_; (with_reducible refine (spec_BrokenWord.calls k _ _ l0_0 a1 t553 t556 _ ?side1 ?side2 A3.out).mono ?_); (case side1 => exact xC ((Kd.C_below HR0_0.out HB.out))); (case side2 => exact HC0_0.out); rintro e w11 ⟨v554, rfl, ho0, hb⟩; refine ⟨_, rfl, ?_⟩; have HO555 := am (Kd.R_lower ho0 (below_size (by exact rB HB))); replace BK552 := am (blk_below (g := gb552) (o := .cells #[.slice A0_0 l0_0.length c0_0] 28 (0, 0)) (by exact rX BK552) hb); replace HB := am (below_step (by exact rB HB) hb); clear hb ho0; have hcz12_0 : w11.cell? ⟨gb552, 0, none⟩ = some (.slice A0_0 l0_0.length c0_0) := (blk_cell BK552.out 0).trans rfl; have hfz12_0 := blk_frozen BK552.out 0) | ((with_reducible refine gate_callee (f := 109) rfl ?_); refine goesL_ (some 14) rfl rfl Try.func109 (by kernel_rfl) rfl #[.agg #[.slice A0_0 l0_0.length c0_0]] rfl (by (try simp only [mT, mC, mN]); first | done | rfl) ?_; (with_reducible refine (spec_IsMorphism.calls k _ _ l0_0 true _ ?side1 ?side2 A4.out).mono ?_); (case side1 => exact xC ((Kd.C_below HR0_0.out HB.out))); (case side2 => exact HC0_0.out); rintro e w13 ⟨rfl, hb⟩; refine ⟨_, rfl, ?_⟩; replace HO555 := am (Kd.R_below (by exact rR HO555) hb); replace BK552 := am (blk_below (g := gb552) (o := .cells #[.slice A0_0 l0_0.length c0_0] 28 (0, 0)) (by exact rX BK552) hb); replace HB := am (below_step (by exact rB HB) hb); clear hb; have hcz14_0 : w13.cell? ⟨gb552, 0, none⟩ = some (.slice A0_0 l0_0.length c0_0) := (blk_cell BK552.out 0).trans rfl; have hfz14_0 := blk_frozen BK552.out 0) | (go_at_call 115; (with_reducible refine (spec_l1In.calls a1 0 5 true _ A7.out).mono ?_); rintro e w' ⟨rfl, ⟨nd, rfl⟩⟩)); go_ret; exact ⟨by first | rfl | (simp [errW_none, errW_some] <;> rfl) | (simp [*, errW_none, errW_some] <;> rfl), by exact rB HB⟩
   ·replace c8 := Bool.eq_false_iff.mpr c8; subst c8; have H1 : (some false) = some r := by rw [if_neg (show ¬ (false = true) by decide)] at H; exact H
    clear H; have H := H1; clear H1; obtain rfl := Option.some.inj H; go_enter Try.func35, Try.ntmps35; go_wp2_with (first | ((with_reducible refine gate_dst (N := 2) rfl ?_); (try (refine gate_guard (by rfl) ?_; dsimp only)); refine box_event ?hg (N := 2) ?hd (cs := #[.slice A0_0 l0_0.length c0_0]) (t := 28) ?hr ?_; (case hd => rfl); (case hg => rfl); (case hr => first | (go_simp; done) | (go_simp; rfl)); intro gb552 hg w15 hbox hb; have BK552 := am (hbox); have GW552 := am ((by rw [hg]; exact (below_size (by exact rB HB)) : w.heap.size ≤ gb552)); have GE552 := am ((by rw [hg]; exact (below_size (by exact rB HB)) : w.heap.size ≤ gb552)); replace HB := am (below_step (by exact rB HB) hb); have qW552 := Ge.mk GW552.out; have qE552 := Ge.mk GE552.out; clear hb hbox hg; have hcz16_0 : w15.cell? ⟨gb552, 0, none⟩ = some (.slice A0_0 l0_0.length c0_0) := (blk_cell BK552.out 0).trans rfl; have hfz16_0 := blk_frozen BK552.out 0) | ((with_reducible refine gate_callee (f := 37) rfl ?_); refine goesL_ (some 10) rfl rfl Try.func37 (by kernel_rfl) rfl #[.agg #[.slice A0_0 l0_0.length c0_0], .int .i64 a1] rfl (by (try simp only [mT, mC, mN]); first | done | rfl) ?_; (with_reducible refine (spec_BrokenWord.calls k _ _ l0_0 a1 t553 t556 _ ?side1 ?side2 A3.out).mono ?_); (case side1 => exact xC ((Kd.C_below HR0_0.out HB.out))); (case side2 => exact HC0_0.out); rintro e w17 ⟨v554, rfl, ho0, hb⟩; refine ⟨_, rfl, ?_⟩; have HO555 := am (Kd.R_lower ho0 (below_size (by exact rB HB))); replace BK552 := am (blk_below (g := gb552) (o := .cells #[.slice A0_0 l0_0.length c0_0] 28 (0, 0)) (by exact rX BK552) hb); replace HB := am (below_step (by exact rB HB) hb); clear hb ho0; have hcz18_0 : w17.cell? ⟨gb552, 0, none⟩ = some (.slice A0_0 l0_0.length c0_0) := (blk_cell BK552.out 0).trans rfl; have hfz18_0 := blk_frozen BK552.out 0) | ((with_reducible refine gate_callee (f := 109) rfl ?_); refine goesL_ (some 14) rfl rfl Try.func109 (by kernel_rfl) rfl #[.agg #[.slice A0_0 l0_0.length c0_0]] rfl (by (try simp only [mT, mC, mN]); first | done | rfl) ?_; (with_reducible refine (spec_IsMorphism.calls k _ _ l0_0 true _ ?side1 ?side2 A4.out).mono ?_); (case side1 => exact xC ((Kd.C_below HR0_0.out HB.out))); (case side2 => exact HC0_0.out); rintro e w19 ⟨rfl, hb⟩; refine ⟨_, rfl, ?_⟩; replace HO555 := am (Kd.R_below (by exact rR HO555) hb); replace BK552 := am (blk_below (g := gb552) (o := .cells #[.slice A0_0 l0_0.length c0_0] 28 (0, 0)) (by exact rX BK552) hb); replace HB := am (below_step (by exact rB HB) hb); clear hb; have hcz20_0 : w19.cell? ⟨gb552, 0, none⟩ = some (.slice A0_0 l0_0.length c0_0) := (blk_cell BK552.out 0).trans rfl; have hfz20_0 := blk_frozen BK552.out 0) | (go_at_call 115; (with_reducible refine (spec_l1In.calls a1 0 5 false _ A7.out).mono ?_); rintro e w' ⟨rfl, ⟨nd, rfl⟩⟩)); go_ret; exact ⟨by first | rfl | (simp [errW_none, errW_some] <;> rfl) | (simp [*, errW_none, errW_some] <;> rfl), by exact rB HB⟩
  ·rw [if_neg c6] at H; have c6b0 : decide ((l0_0.length : Int) ≤ 4) = false := decide_eq_false c6; have c6b1 : decide (l0_0.length ≤ 4) = false := decide_eq_false (by omega); clear c6; obtain rfl := Option.some.inj H; go_enter Try.func35, Try.ntmps35; go_wp2_with (first | ((with_reducible refine gate_dst (N := 2) rfl ?_); (try (refine gate_guard (by rfl) ?_; dsimp only)); refine box_event ?hg (N := 2) ?hd (cs := #[.slice A0_0 l0_0.length c0_0]) (t := 28) ?hr ?_; (case hd => rfl); (case hg => rfl); (case hr => first | (go_simp; done) | (go_simp; rfl)); intro gb552 hg w21 hbox hb; have BK552 := am (hbox); have GW552 := am ((by rw [hg]; exact (below_size (by exact rB HB)) : w.heap.size ≤ gb552)); have GE552 := am ((by rw [hg]; exact (below_size (by exact rB HB)) : w.heap.size ≤ gb552)); replace HB := am (below_step (by exact rB HB) hb); have qW552 := Ge.mk GW552.out; have qE552 := Ge.mk GE552.out; clear hb hbox hg; have hcz22_0 : w21.cell? ⟨gb552, 0, none⟩ = some (.slice A0_0 l0_0.length c0_0) := (blk_cell BK552.out 0).trans rfl; have hfz22_0 := blk_frozen BK552.out 0) | ((with_reducible refine gate_callee (f := 37) rfl ?_); refine goesL_ (some 10) rfl rfl Try.func37 (by kernel_rfl) rfl #[.agg #[.slice A0_0 l0_0.length c0_0], .int .i64 a1] rfl (by (try simp only [mT, mC, mN]); first | done | rfl) ?_; (with_reducible refine (spec_BrokenWord.calls k _ _ l0_0 a1 t553 t556 _ ?side1 ?side2 A3.out).mono ?_); (case side1 => exact xC ((Kd.C_below HR0_0.out HB.out))); (case side2 => exact HC0_0.out); rintro e w23 ⟨v554, rfl, ho0, hb⟩; refine ⟨_, rfl, ?_⟩; have HO555 := am (Kd.R_lower ho0 (below_size (by exact rB HB))); replace BK552 := am (blk_below (g := gb552) (o := .cells #[.slice A0_0 l0_0.length c0_0] 28 (0, 0)) (by exact rX BK552) hb); replace HB := am (below_step (by exact rB HB) hb); clear hb ho0; have hcz24_0 : w23.cell? ⟨gb552, 0, none⟩ = some (.slice A0_0 l0_0.length c0_0) := (blk_cell BK552.out 0).trans rfl; have hfz24_0 := blk_frozen BK552.out 0) | ((with_reducible refine gate_callee (f := 109) rfl ?_); refine goesL_ (some 14) rfl rfl Try.func109 (by kernel_rfl) rfl #[.agg #[.slice A0_0 l0_0.length c0_0]] rfl (by (try simp only [mT, mC, mN]); first | done | rfl) ?_; (with_reducible refine (spec_IsMorphism.calls k _ _ l0_0 true _ ?side1 ?side2 A4.out).mono ?_); (case side1 => exact xC ((Kd.C_below HR0_0.out HB.out))); (case side2 => exact HC0_0.out); rintro e w25 ⟨rfl, hb⟩; refine ⟨_, rfl, ?_⟩; replace HO555 := am (Kd.R_below (by exact rR HO555) hb); replace BK552 := am (blk_below (g := gb552) (o := .cells #[.slice A0_0 l0_0.length c0_0] 28 (0, 0)) (by exact rX BK552) hb); replace HB := am (below_step (by exact rB HB) hb); clear hb; have hcz26_0 : w25.cell? ⟨gb552, 0, none⟩ = some (.slice A0_0 l0_0.length c0_0) := (blk_cell BK552.out 0).trans rfl; have hfz26_0 := blk_frozen BK552.out 0)); go_ret; exact ⟨by first | rfl | (simp [errW_none, errW_some] <;> rfl) | (simp [*, errW_none, errW_some] <;> rfl), by exact rB HB⟩
 ·replace c5 := Bool.eq_false_iff.mpr c5; subst c5; have H1 : (some false) = some r := by rw [if_neg (show ¬ (false = true) by decide)] at H; exact H
  clear H; have H := H1; clear H1; obtain rfl := Option.some.inj H; go_enter Try.func35, Try.ntmps35; go_wp2_with (first | ((with_reducible refine gate_dst (N := 2) rfl ?_); (try (refine gate_guard (by rfl) ?_; dsimp only)); refine box_event ?hg (N := 2) ?hd (cs := #[.slice A0_0 l0_0.length c0_0]) (t := 28) ?hr ?_; (case hd => rfl); (case hg => rfl); (case hr => first | (go_simp; done) | (go_simp; rfl)); intro gb552 hg w27 hbox hb; have BK552 := am (hbox); have GW552 := am ((by rw [hg]; exact (below_size (by exact rB HB)) : w.heap.size ≤ gb552)); have GE552 := am ((by rw [hg]; exact (below_size (by exact rB HB)) : w.heap.size ≤ gb552)); replace HB := am (below_step (by exact rB HB) hb); have qW552 := Ge.mk GW552.out; have qE552 := Ge.mk GE552.out; clear hb hbox hg; have hcz28_0 : w27.cell? ⟨gb552, 0, none⟩ = some (.slice A0_0 l0_0.length c0_0) := (blk_cell BK552.out 0).trans rfl; have hfz28_0 := blk_frozen BK552.out 0) | ((with_reducible refine gate_callee (f := 37) rfl ?_); refine goesL_ (some 10) rfl rfl Try.func37 (by kernel_rfl) rfl #[.agg #[.slice A0_0 l0_0.length c0_0], .int .i64 a1] rfl (by (try simp only [mT, mC, mN]); first | done | rfl) ?_; (with_reducible refine (spec_BrokenWord.calls k _ _ l0_0 a1 t553 t556 _ ?side1 ?side2 A3.out).mono ?_); (case side1 => exact xC ((Kd.C_below HR0_0.out HB.out))); (case side2 => exact HC0_0.out); rintro e w29 ⟨v554, rfl, ho0, hb⟩; refine ⟨_, rfl, ?_⟩; have HO555 := am (Kd.R_lower ho0 (below_size (by exact rB HB))); replace BK552 := am (blk_below (g := gb552) (o := .cells #[.slice A0_0 l0_0.length c0_0] 28 (0, 0)) (by exact rX BK552) hb); replace HB := am (below_step (by exact rB HB) hb); clear hb ho0; have hcz30_0 : w29.cell? ⟨gb552, 0, none⟩ = some (.slice A0_0 l0_0.length c0_0) := (blk_cell BK552.out 0).trans rfl; have hfz30_0 := blk_frozen BK552.out 0) | ((with_reducible refine gate_callee (f := 109) rfl ?_); refine goesL_ (some 14) rfl rfl Try.func109 (by kernel_rfl) rfl #[.agg #[.slice A0_0 l0_0.length c0_0]] rfl (by (try simp only [mT, mC, mN]); first | done | rfl) ?_; (with_reducible refine (spec_IsMorphism.calls k _ _ l0_0 false _ ?side1 ?side2 A4.out).mono ?_); (case side1 => exact xC ((Kd.C_below HR0_0.out HB.out))); (case side2 => exact HC0_0.out); rintro e w31 ⟨rfl, hb⟩; refine ⟨_, rfl, ?_⟩; replace HO555 := am (Kd.R_below (by exact rR HO555) hb); replace BK552 := am (blk_below (g := gb552) (o := .cells #[.slice A0_0 l0_0.length c0_0] 28 (0, 0)) (by exact rX BK552) hb); replace HB := am (below_step (by exact rB HB) hb); clear hb)); go_ret; exact ⟨by first | rfl | (simp [errW_none, errW_some] <;> rfl) | (simp [*, errW_none, errW_some] <;> rfl), by exact rB HB⟩
def impl_isTried.f (k : Nat) (l0_0 : List (List Int)) (a1 : Int) : Option (Bool) := (impl_IsMorphism.f k l0_0).bind fun t562 => (if t562 = true then (if (l0_0.length : Int) ≤ 4 then (if a1 ≥ 0 then (some (decide (a1 ≤ 5))) else (some false)) else (some false)) else (some false))
theorem impl_isTried.mono : ∀ a0 a1 k, LeO (impl_isTried.f k a0 a1) (impl_isTried.f (k + 1) a0 a1) := by
 intro a0 a1 k; unfold impl_isTried.f
 repeat' first
   | (with_reducible exact impl_IsMorphism.mono _ _)
   | (with_reducible exact LeO.refl _)
   | (with_reducible exact LeO.none _)
   | (with_reducible refine LeO.ite ?_ ?_)
   | (with_reducible refine LeO.bind ?_ (fun _ => ?_))
set_option maxHeartbeats 8000000 in
set_option maxRecDepth 100000 in
theorem impl_isTried.calls (k : Nat) (A0_0 : Option Addr) (c0_0 : Nat) (l0_0 : List (List Int)) (a1 : Int) (r : Bool) (w : World) (hr0_0 : Kd.C (Kd.slice 3 (Kd.int .i64)) w A0_0 l0_0.length l0_0) (hc0_0 : l0_0.length ≤ c0_0) (h : impl_isTried.f k l0_0 a1 = some r) :
  Calls Try.prog 120 #[.agg #[.slice A0_0 l0_0.length c0_0], .int .i64 a1] w fun e w' => e = .returned (.bool r) ∧ Below w.heap.size w w' := by
 have hu28 := Try.underlying28; have HR0_0 := am hr0_0; have HC0_0 := am hc0_0; clear hr0_0 hc0_0; have HB := am (Below.refl w.heap.size w); have H : ((impl_IsMorphism.f k l0_0).bind fun t562 => (if t562 = true then (if (l0_0.length : Int) ≤ 4 then (if a1 ≥ 0 then (some (decide (a1 ≤ 5))) else (some false)) else (some false)) else (some false))) = some r := h; clear h; replace H := Option.bind_eq_some_iff.mp H; obtain ⟨t562, A30, H⟩ := H; replace H : (if t562 = true then (if (l0_0.length : Int) ≤ 4 then (if a1 ≥ 0 then (some (decide (a1 ≤ 5))) else (some false)) else (some false)) else (some false)) = some r := H; have A3 := am A30; clear A30; by_cases c4 : t562 = true
 ·subst c4; have H1 : (if (l0_0.length : Int) ≤ 4 then (if a1 ≥ 0 then (some (decide (a1 ≤ 5))) else (some false)) else (some false)) = some r := by rw [if_pos rfl] at H; exact H
  clear H; have H := H1; clear H1; by_cases c5 : (l0_0.length : Int) ≤ 4
  ·rw [if_pos c5] at H; have c5b0 : decide ((l0_0.length : Int) ≤ 4) = true := decide_eq_true c5; have c5b1 : decide (l0_0.length ≤ 4) = true := decide_eq_true (by omega); clear c5; by_cases c6 : a1 ≥ 0
   ·rw [if_pos c6] at H; have c6b0 : decide (0 ≤ a1) = true := decide_eq_true c6; clear c6; obtain rfl := Option.some.inj H; go_enter Try.func120, Try.ntmps120; go_wp2_with (first | ((with_reducible refine gate_dst (N := 2) rfl ?_); (try (refine gate_guard (by rfl) ?_; dsimp only)); refine box_event ?hg (N := 2) ?hd (cs := #[.slice A0_0 l0_0.length c0_0]) (t := 28) ?hr ?_; (case hd => rfl); (case hg => rfl); (case hr => first | (go_simp; done) | (go_simp; rfl)); intro gb561 hg w7 hbox hb; have BK561 := am (hbox); have GW561 := am ((by rw [hg]; exact (below_size (by exact rB HB)) : w.heap.size ≤ gb561)); have GE561 := am ((by rw [hg]; exact (below_size (by exact rB HB)) : w.heap.size ≤ gb561)); replace HB := am (below_step (by exact rB HB) hb); have qW561 := Ge.mk GW561.out; have qE561 := Ge.mk GE561.out; clear hb hbox hg; have hcz8_0 : w7.cell? ⟨gb561, 0, none⟩ = some (.slice A0_0 l0_0.length c0_0) := (blk_cell BK561.out 0).trans rfl; have hfz8_0 := blk_frozen BK561.out 0) | ((with_reducible refine gate_callee (f := 108) rfl ?_); refine goesL_ (some 6) rfl rfl Try.func108 (by kernel_rfl) rfl #[.agg #[.slice A0_0 l0_0.length c0_0]] rfl (by (try simp only [mT, mC, mN]); first | done | rfl) ?_; (with_reducible refine (impl_IsMorphism.calls k _ _ l0_0 true _ ?side1 ?side2 A3.out).mono ?_); (case side1 => exact xC ((Kd.C_below HR0_0.out HB.out))); (case side2 => exact HC0_0.out); rintro e w9 ⟨rfl, hb⟩; refine ⟨_, rfl, ?_⟩; replace BK561 := am (blk_below (g := gb561) (o := .cells #[.slice A0_0 l0_0.length c0_0] 28 (0, 0)) (by exact rX BK561) hb); replace HB := am (below_step (by exact rB HB) hb); clear hb; have hcz10_0 : w9.cell? ⟨gb561, 0, none⟩ = some (.slice A0_0 l0_0.length c0_0) := (blk_cell BK561.out 0).trans rfl; have hfz10_0 := blk_frozen BK561.out 0)); go_ret; exact ⟨by first | rfl | (simp [errW_none, errW_some] <;> rfl) | (simp [*, errW_none, errW_some] <;> rfl), by exact rB HB⟩
   ·rw [if_neg c6] at H; have c6b0 : decide (0 ≤ a1) = false := decide_eq_false c6; clear c6; obtain rfl := Option.some.inj H; go_enter Try.func120, Try.ntmps120; go_wp2_with (first | ((with_reducible refine gate_dst (N := 2) rfl ?_); (try (refine gate_guard (by rfl) ?_; dsimp only)); refine box_event ?hg (N := 2) ?hd (cs := #[.slice A0_0 l0_0.length c0_0]) (t := 28) ?hr ?_; (case hd => rfl); (case hg => rfl); (case hr => first | (go_simp; done) | (go_simp; rfl)); intro gb561 hg w11 hbox hb; have BK561 := am (hbox); have GW561 := am ((by rw [hg]; exact (below_size (by exact rB HB)) : w.heap.size ≤ gb561)); have GE561 := am ((by rw [hg]; exact (below_size (by exact rB HB)) : w.heap.size ≤ gb561)); replace HB := am (below_step (by exact rB HB) hb); have qW561 := Ge.mk GW561.out; have qE561 := Ge.mk GE561.out; clear hb hbox hg; have hcz12_0 : w11.cell? ⟨gb561, 0, none⟩ = some (.slice A0_0 l0_0.length c0_0) := (blk_cell BK561.out 0).trans rfl; have hfz12_0 := blk_frozen BK561.out 0) | ((with_reducible refine gate_callee (f := 108) rfl ?_); refine goesL_ (some 6) rfl rfl Try.func108 (by kernel_rfl) rfl #[.agg #[.slice A0_0 l0_0.length c0_0]] rfl (by (try simp only [mT, mC, mN]); first | done | rfl) ?_; (with_reducible refine (impl_IsMorphism.calls k _ _ l0_0 true _ ?side1 ?side2 A3.out).mono ?_); (case side1 => exact xC ((Kd.C_below HR0_0.out HB.out))); (case side2 => exact HC0_0.out); rintro e w13 ⟨rfl, hb⟩; refine ⟨_, rfl, ?_⟩; replace BK561 := am (blk_below (g := gb561) (o := .cells #[.slice A0_0 l0_0.length c0_0] 28 (0, 0)) (by exact rX BK561) hb); replace HB := am (below_step (by exact rB HB) hb); clear hb; have hcz14_0 : w13.cell? ⟨gb561, 0, none⟩ = some (.slice A0_0 l0_0.length c0_0) := (blk_cell BK561.out 0).trans rfl; have hfz14_0 := blk_frozen BK561.out 0)); go_ret; exact ⟨by first | rfl | (simp [errW_none, errW_some] <;> rfl) | (simp [*, errW_none, errW_some] <;> rfl), by exact rB HB⟩
  ·rw [if_neg c5] at H; have c5b0 : decide ((l0_0.length : Int) ≤ 4) = false := decide_eq_false c5; have c5b1 : decide (l0_0.length ≤ 4) = false := decide_eq_false (by omega); clear c5; obtain rfl := Option.some.inj H; go_enter Try.func120, Try.ntmps120; go_wp2_with (first | ((with_reducible refine gate_dst (N := 2) rfl ?_); (try (refine gate_guard (by rfl) ?_; dsimp only)); refine box_event ?hg (N := 2) ?hd (cs := #[.slice A0_0 l0_0.length c0_0]) (t := 28) ?hr ?_; (case hd => rfl); (case hg => rfl); (case hr => first | (go_simp; done) | (go_simp; rfl)); intro gb561 hg w15 hbox hb; have BK561 := am (hbox); have GW561 := am ((by rw [hg]; exact (below_size (by exact rB HB)) : w.heap.size ≤ gb561)); have GE561 := am ((by rw [hg]; exact (below_size (by exact rB HB)) : w.heap.size ≤ gb561)); replace HB := am (below_step (by exact rB HB) hb); have qW561 := Ge.mk GW561.out; have qE561 := Ge.mk GE561.out; clear hb hbox hg; have hcz16_0 : w15.cell? ⟨gb561, 0, none⟩ = some (.slice A0_0 l0_0.length c0_0) := (blk_cell BK561.out 0).trans rfl; have hfz16_0 := blk_frozen BK561.out 0) | ((with_reducible refine gate_callee (f := 108) rfl ?_); refine goesL_ (some 6) rfl rfl Try.func108 (by kernel_rfl) rfl #[.agg #[.slice A0_0 l0_0.length c0_0]] rfl (by (try simp only [mT, mC, mN]); first | done | rfl) ?_; (with_reducible refine (impl_IsMorphism.calls k _ _ l0_0 true _ ?side1 ?side2 A3.out).mono ?_); (case side1 => exact xC ((Kd.C_below HR0_0.out HB.out))); (case side2 => exact HC0_0.out); rintro e w17 ⟨rfl, hb⟩; refine ⟨_, rfl, ?_⟩; replace BK561 := am (blk_below (g := gb561) (o := .cells #[.slice A0_0 l0_0.length c0_0] 28 (0, 0)) (by exact rX BK561) hb); replace HB := am (below_step (by exact rB HB) hb); clear hb; have hcz18_0 : w17.cell? ⟨gb561, 0, none⟩ = some (.slice A0_0 l0_0.length c0_0) := (blk_cell BK561.out 0).trans rfl; have hfz18_0 := blk_frozen BK561.out 0)); go_ret; exact ⟨by first | rfl | (simp [errW_none, errW_some] <;> rfl) | (simp [*, errW_none, errW_some] <;> rfl), by exact rB HB⟩
 ·replace c4 := Bool.eq_false_iff.mpr c4; subst c4; have H1 : (some false) = some r := by rw [if_neg (show ¬ (false = true) by decide)] at H; exact H
  clear H; have H := H1; clear H1; obtain rfl := Option.some.inj H; go_enter Try.func120, Try.ntmps120; go_wp2_with (first | ((with_reducible refine gate_dst (N := 2) rfl ?_); (try (refine gate_guard (by rfl) ?_; dsimp only)); refine box_event ?hg (N := 2) ?hd (cs := #[.slice A0_0 l0_0.length c0_0]) (t := 28) ?hr ?_; (case hd => rfl); (case hg => rfl); (case hr => first | (go_simp; done) | (go_simp; rfl)); intro gb561 hg w19 hbox hb; have BK561 := am (hbox); have GW561 := am ((by rw [hg]; exact (below_size (by exact rB HB)) : w.heap.size ≤ gb561)); have GE561 := am ((by rw [hg]; exact (below_size (by exact rB HB)) : w.heap.size ≤ gb561)); replace HB := am (below_step (by exact rB HB) hb); have qW561 := Ge.mk GW561.out; have qE561 := Ge.mk GE561.out; clear hb hbox hg; have hcz20_0 : w19.cell? ⟨gb561, 0, none⟩ = some (.slice A0_0 l0_0.length c0_0) := (blk_cell BK561.out 0).trans rfl; have hfz20_0 := blk_frozen BK561.out 0) | ((with_reducible refine gate_callee (f := 108) rfl ?_); refine goesL_ (some 6) rfl rfl Try.func108 (by kernel_rfl) rfl #[.agg #[.slice A0_0 l0_0.length c0_0]] rfl (by (try simp only [mT, mC, mN]); first | done | rfl) ?_; (with_reducible refine (impl_IsMorphism.calls k _ _ l0_0 false _ ?side1 ?side2 A3.out).mono ?_); (case side1 => exact xC ((Kd.C_below HR0_0.out HB.out))); (case side2 => exact HC0_0.out); rintro e w21 ⟨rfl, hb⟩; refine ⟨_, rfl, ?_⟩; replace BK561 := am (blk_below (g := gb561) (o := .cells #[.slice A0_0 l0_0.length c0_0] 28 (0, 0)) (by exact rX BK561) hb); replace HB := am (below_step (by exact rB HB) hb); clear hb)); go_ret; exact ⟨by first | rfl | (simp [errW_none, errW_some] <;> rfl) | (simp [*, errW_none, errW_some] <;> rfl), by exact rB HB⟩
end Go.Proofs.Ytooamcjgejajeaa.M
/- The program's list of words that pass a test, for one test: in the form of the printed walks. No condition. -/
namespace Go.Proofs.Ytooamcjgejajeaa.M
open Go.RowKit Go.Proofs.YtooamcjgejajeaaW.PrintWords Go.Proofs.YtooamcjgejajeaaW.PrintLast Go.Proofs.YtooamcjgejajeaaW.PrintMore Go.Proofs.Ytooamcjgejajeaa.K
set_option linter.unusedVariables false
noncomputable def impl_freeWords_of121.f (k : Nat) (a0 : Int) (a1 : Int) : Option ((List (List Int))) := if (0 ≤ a0 ∧ a0 ≤ 4) ∧ 0 ≤ a1 ∧ a1 ≤ 10 then some (fw a0.toNat (tst false) a1.toNat) else none
theorem impl_freeWords_of121.mono : ∀ a0 a1 k, LeO (impl_freeWords_of121.f k a0 a1) (impl_freeWords_of121.f (k + 1) a0 a1) := fun a0 a1 k => LeO.refl _
theorem impl_freeWords_of121.ev (m n : Nat) (hm : m ≤ 4) (hn : n ≤ 10) : Ev (fun k => impl_freeWords_of121.f k (m : Int) (n : Int)) (fw m (tst false) n) := by
  unfold impl_freeWords_of121.f; exact Ev.if_pos (by omega) (Ev.same (Ev.some _) (by simp))
theorem impl_freeWords_of121.calls (k : Nat) (a0 : Int) (a1 : Int) (r : List (List Int)) (w : World) (h : impl_freeWords_of121.f k a0 a1 = some r) :
    Calls Try.prog 118 #[.int .i64 a0, .int .i64 a1, .func (.func 121) #[] #[]] w fun e w' => ∃ v0_ : Value, e = .returned (v0_) ∧ Kd.N (Kd.slice 3 (Kd.int .i64)) 36 w' w.heap.size (fun k_ => (w.heap.size ≤ k_)) v0_ r ∧ Below w.heap.size w w' := by
  unfold impl_freeWords_of121.f at h; split at h
  · rename_i q; obtain ⟨m, rfl⟩ : ∃ m : Nat, a0 = (m : Int) := ⟨a0.toNat, by omega⟩; obtain ⟨n, rfl⟩ : ∃ n : Nat, a1 = (n : Int) := ⟨a1.toNat, by omega⟩; rw [Int.toNat_natCast, Int.toNat_natCast] at h; obtain rfl := Option.some.inj h; refine (freeSQ m n w (by omega) (by omega)).mono ?_; rintro e w1 ⟨v, rfl, hS, hB⟩; exact ⟨v, rfl, Kd.S_N (Kd.S_mono (Kd.S_bound hS) (fun _ hk => hk.2.1)), hB⟩
  · exact absurd h (by simp)
end Go.Proofs.Ytooamcjgejajeaa.M
namespace Go.Proofs.Ytooamcjgejajeaa.M
noncomputable section
open Go.RowKit Go.Proofs.Ytooamcjgejajeaa.KW Go.Proofs.YtooamcjgejajeaaW.PrintWords Go.Proofs.YtooamcjgejajeaaW.PrintLast Go.Proofs.YtooamcjgejajeaaW.PrintMore
attribute [local go_sem] max2_int min2_int max_two min_two max_three min_three max_four min_four
set_option linter.unusedVariables false
set_option linter.unusedSimpArgs false
def impl_BrokenWord.l0 : Nat → List (List Int) → Int → Int → List (List Int) → Option (List Int × Bool)
 | 0, _, _, _, _ => none
 | k + 1, x19, x20, x21, x588000 => if x21 < x20 then (if 0 ≤ x21 then (if x21 < (x19.length : Int) then ((impl_ApplyMorphism.f k x588000 (rd_L1 x19 x21)).bind fun bt599 => (if bt599.2 = true then ((impl_HasSquare.f k bt599.1).bind fun t603 => (if t603 = true then (some (rd_L1 x19 x21, true)) else (impl_BrokenWord.l0 k x19 x20 (wrap64 (x21 + 1)) x588000))) else (some (rd_L1 x19 x21, true)))) else (none)) else (none)) else (some ((([] : List Int)), false))
def impl_BrokenWord.f (k : Nat) (l0_0 : List (List Int)) (a1 : Int) : Option (List Int × Bool) := (impl_isTried.f k l0_0 a1).bind fun t588 => (if t588 = true then ((impl_freeWords_of121.f k (l0_0.length : Int) a1).bind fun t592 => (impl_BrokenWord.l0 k t592 (t592.length : Int) 0 l0_0)) else (some ((([] : List Int)), false)))
theorem impl_BrokenWord.mono_l : ∀ k, (∀ y0 y1 y2 y3, LeO (impl_BrokenWord.l0 k y0 y1 y2 y3) (impl_BrokenWord.l0 (k + 1) y0 y1 y2 y3))
 | 0 => fun _ _ _ _ r h => by simp [impl_BrokenWord.l0] at h
 | k + 1 => by
  have ih0 := impl_BrokenWord.mono_l k
  ·intro y0 y1 y2 y3; unfold impl_BrokenWord.l0
   repeat' first
   | (with_reducible exact ih0 _ _ _ _)
   | (with_reducible exact impl_ApplyMorphism.mono _ _ _)
   | (with_reducible exact impl_HasSquare.mono _ _)
   | (with_reducible exact impl_freeWords_of121.mono _ _ _)
   | (with_reducible exact impl_isTried.mono _ _ _)
   | (with_reducible exact LeO.refl _)
   | (with_reducible exact LeO.none _)
   | (with_reducible refine LeO.ite ?_ ?_)
   | (with_reducible refine LeO.bind ?_ (fun _ => ?_))
theorem impl_BrokenWord.mono : ∀ a0 a1 k, LeO (impl_BrokenWord.f k a0 a1) (impl_BrokenWord.f (k + 1) a0 a1) := by
 intro a0 a1 k; have ih0 := impl_BrokenWord.mono_l k; unfold impl_BrokenWord.f
 repeat' first
   | (with_reducible exact ih0 _ _ _ _)
   | (with_reducible exact impl_ApplyMorphism.mono _ _ _)
   | (with_reducible exact impl_HasSquare.mono _ _)
   | (with_reducible exact impl_freeWords_of121.mono _ _ _)
   | (with_reducible exact impl_isTried.mono _ _ _)
   | (with_reducible exact LeO.refl _)
   | (with_reducible exact LeO.none _)
   | (with_reducible refine LeO.ite ?_ ?_)
   | (with_reducible refine LeO.bind ?_ (fun _ => ?_))
set_option maxHeartbeats 8000000 in
set_option maxRecDepth 100000 in
theorem impl_BrokenWord.calls (k : Nat) (A0_0 : Option Addr) (c0_0 : Nat) (l0_0 : List (List Int)) (a1 : Int) (r1 : List Int) (r2 : Bool) (w : World) (hr0_0 : Kd.C (Kd.slice 3 (Kd.int .i64)) w A0_0 l0_0.length l0_0) (hc0_0 : l0_0.length ≤ c0_0) (h : impl_BrokenWord.f k l0_0 a1 = some (r1, r2)) :
  Calls Try.prog 38 #[.agg #[.slice A0_0 l0_0.length c0_0], .int .i64 a1] w fun e w' => ∃ v0_ : Value, e = .returned (.tuple #[v0_, .bool r2]) ∧ Kd.V (Kd.int .i64) 3 w' w.heap.size (fun k_ => (w.heap.size ≤ k_)) v0_ r1 ∧ Below w.heap.size w w' := by
 have hu28 := Try.underlying28; have HR0_0 := am hr0_0; have HC0_0 := am hc0_0; clear hr0_0 hc0_0; have HB := am (Below.refl w.heap.size w); have H : ((impl_isTried.f k l0_0 a1).bind fun t588 => (if t588 = true then ((impl_freeWords_of121.f k (l0_0.length : Int) a1).bind fun t592 => (impl_BrokenWord.l0 k t592 (t592.length : Int) 0 l0_0)) else (some ((([] : List Int)), false)))) = some (r1, r2) := h; clear h; replace H := Option.bind_eq_some_iff.mp H; obtain ⟨t588, A30, H⟩ := H; replace H : (if t588 = true then ((impl_freeWords_of121.f k (l0_0.length : Int) a1).bind fun t592 => (impl_BrokenWord.l0 k t592 (t592.length : Int) 0 l0_0)) else (some ((([] : List Int)), false))) = some (r1, r2) := H; have A3 := am A30; clear A30; by_cases c4 : t588 = true
 ·subst c4; have H1 : ((impl_freeWords_of121.f k (l0_0.length : Int) a1).bind fun t592 => (impl_BrokenWord.l0 k t592 (t592.length : Int) 0 l0_0)) = some (r1, r2) := by rw [if_pos rfl] at H; exact H
  clear H; have H := H1; clear H1; replace H := Option.bind_eq_some_iff.mp H; obtain ⟨t592, A50, H⟩ := H; replace H : (impl_BrokenWord.l0 k t592 (t592.length : Int) 0 l0_0) = some (r1, r2) := H; have A5 := am A50; clear A50; have H' := am H; clear H; go_enter Try.func38, Try.ntmps38; go_wp2_with (first | ((with_reducible refine gate_dst (N := 2) rfl ?_); refine box_event ?hg (N := 2) ?hd (cs := #[.slice A0_0 l0_0.length c0_0]) (t := 28) ?hr ?_; (case hd => rfl); (case hg => rfl); (case hr => first | (go_simp; done) | (go_simp; rfl)); intro gb587 hg w6 hbox hb; have BK587 := am (hbox); have GW587 := am ((by rw [hg]; exact (below_size (by exact rB HB)) : w.heap.size ≤ gb587)); have GE587 := am ((by rw [hg]; exact (below_size (by exact rB HB)) : w.heap.size ≤ gb587)); replace HB := am (below_step (by exact rB HB) hb); have qW587 := Ge.mk GW587.out; have qE587 := Ge.mk GE587.out; clear hb hbox hg; have hcz7_0 : w6.cell? ⟨gb587, 0, none⟩ = some (.slice A0_0 l0_0.length c0_0) := (blk_cell BK587.out 0).trans rfl; have hfz7_0 := blk_frozen BK587.out 0) | ((with_reducible refine gate_callee (f := 120) rfl ?_); refine goesL_ (some 12) rfl rfl Try.func120 (by kernel_rfl) rfl #[.agg #[.slice A0_0 l0_0.length c0_0], .int .i64 a1] rfl (by (try simp only [mT, mC, mN]); first | done | rfl) ?_; (with_reducible refine (impl_isTried.calls k _ _ l0_0 a1 true _ ?side1 ?side2 A3.out).mono ?_); (case side1 => exact xC ((Kd.C_below HR0_0.out HB.out))); (case side2 => exact HC0_0.out); rintro e w8 ⟨rfl, hb⟩; refine ⟨_, rfl, ?_⟩; replace BK587 := am (blk_below (g := gb587) (o := .cells #[.slice A0_0 l0_0.length c0_0] 28 (0, 0)) (by exact rX BK587) hb); replace HB := am (below_step (by exact rB HB) hb); clear hb; have hcz9_0 : w8.cell? ⟨gb587, 0, none⟩ = some (.slice A0_0 l0_0.length c0_0) := (blk_cell BK587.out 0).trans rfl; have hfz9_0 := blk_frozen BK587.out 0) | ((with_reducible refine gate_callee (f := 118) rfl ?_); refine goesL_ (some 19) rfl rfl Try.func118 (by kernel_rfl) rfl #[.int .i64 (l0_0.length : Int), .int .i64 a1, .func (.func 121) #[] #[]] rfl (by (try simp only [mT, mC, mN]); first | done | rfl) ?_; (with_reducible refine (impl_freeWords_of121.calls k (l0_0.length : Int) a1 t592 _ A5.out).mono ?_); rintro e w10 ⟨v593, rfl, ho0, hb⟩; refine ⟨_, rfl, ?_⟩; have HO594 := am (Kd.N_lower (Kd.N_mono (ok' := fun k_ => (w.heap.size ≤ k_) ∧ k_ ≠ gb587) ho0 (fun k_ hk_ => ⟨(Nat.le_trans (below_size (by exact rB HB)) hk_), (Kd.freshB (g := gb587) (o := .cells #[.slice A0_0 l0_0.length c0_0] 28 (0, 0)) (by exact rX BK587) k_ hk_)⟩)) (below_size (by exact rB HB))); replace BK587 := am (blk_below (g := gb587) (o := .cells #[.slice A0_0 l0_0.length c0_0] 28 (0, 0)) (by exact rX BK587) hb); replace HB := am (below_step (by exact rB HB) hb); clear hb ho0; obtain ⟨Ao11, co11, eo11⟩ := Kd.N_slice HO594.out; subst eo11)); go_loopg [21] k (fun kq v21 w' => ∃ (x21_1 : Int), v21 = .int .i64 x21_1 ∧ Aside0 (impl_BrokenWord.l0 kq t592 (t592.length : Int) x21_1 l0_0 = some (r1, r2)) ∧ Aside0 (kq ≤ k) ∧ Aside0 (Kd.N (Kd.slice 3 (Kd.int .i64)) 36 w' w.heap.size (fun k_ => (w.heap.size ≤ k_) ∧ k_ ≠ gb587) (.slice Ao11 t592.length co11) t592) ∧ Aside0 (w'.heap[gb587]? = some (.cells #[(.slice A0_0 l0_0.length c0_0)] 28 (0, 0))) ∧ Aside0 (Below w.heap.size w w'))
  case atStart => exact ⟨(0), (by first | rfl | (simp; done) | (simp [*]; done)), H', ⟨Nat.le_refl _⟩, ⟨by exact rN HO594⟩, ⟨by exact rX BK587⟩, ⟨by exact rB HB⟩⟩
  case round =>
   clear H'
   try clear c1
   try clear p2
   try clear c3
   try clear c4
   try clear c9
   try clear hcz7_0
   try clear hcz9_0
   try clear hfz7_0
   try clear hfz9_0
   obtain ⟨x21_1, rfl, HA, HK1, HO_19, BK587, HB⟩ := hrel; cases gk with
   | zero => exact absurd HA.out (by simp [impl_BrokenWord.l0])
   | succ k1 =>
    have H := HA.out; clear HA; simp only [impl_BrokenWord.l0] at H; by_cases c12 : x21_1 < (t592.length : Int)
    ·rw [if_pos c12] at H; have c12b0 : decide (x21_1 < (t592.length : Int)) = true := decide_eq_true c12; clear c12; by_cases c13 : 0 ≤ x21_1
     ·rw [if_pos c13] at H; have c13b0 : decide (0 ≤ x21_1) = true := decide_eq_true c13; clear c13; by_cases c14 : x21_1 < (t592.length : Int)
      ·rw [if_pos c14] at H; have c14b0 : decide (x21_1 < (t592.length : Int)) = true := decide_eq_true c14; clear c14; replace H := Option.bind_eq_some_iff.mp H; obtain ⟨⟨t599, t602⟩, A150, H⟩ := H; replace H : (if t602 = true then ((impl_HasSquare.f k1 t599).bind fun t603 => (if t603 = true then (some (rd_L1 t592 x21_1, true)) else (impl_BrokenWord.l0 k1 t592 (t592.length : Int) (wrap64 (x21_1 + 1)) l0_0))) else (some (rd_L1 t592 x21_1, true))) = some (r1, r2) := H; have A15 := am A150; clear A150; by_cases c16 : t602 = true
       ·subst c16; have H1 : ((impl_HasSquare.f k1 t599).bind fun t603 => (if t603 = true then (some (rd_L1 t592 x21_1, true)) else (impl_BrokenWord.l0 k1 t592 (t592.length : Int) (wrap64 (x21_1 + 1)) l0_0))) = some (r1, r2) := by rw [if_pos rfl] at H; exact H
        clear H; have H := H1; clear H1; replace H := Option.bind_eq_some_iff.mp H; obtain ⟨t603, A170, H⟩ := H; replace H : (if t603 = true then (some (rd_L1 t592 x21_1, true)) else (impl_BrokenWord.l0 k1 t592 (t592.length : Int) (wrap64 (x21_1 + 1)) l0_0)) = some (r1, r2) := H; have A17 := am A170; clear A170; by_cases c18 : t603 = true
        ·subst c18; have H1 : (some (rd_L1 t592 x21_1, true)) = some (r1, r2) := by rw [if_pos rfl] at H; exact H
         clear H; have H := H1; clear H1; simp only [Option.some.injEq, Prod.mk.injEq] at H; obtain ⟨rfl, rfl⟩ := H; have p598 : 0 ≤ (x21_1 : Int) := of_decide_eq_true (by first | (with_reducible assumption) | assumption); have q598 : x21_1 < (t592.length : Int) := of_decide_eq_true (by first | (with_reducible assumption) | assumption); obtain ⟨ad598, A598_0, c598_0, e598, hx598_0, hl598_0, hi598_0⟩ := at_L1 (Kd.N_reads' HO_19.out).2.2 x21_1 p598 q598; cases e598; obtain ⟨ce598, hce598, hMe598, hcc598⟩ := Kd.N_get HO_19.out [] x21_1 p598 (by first | exact q598 | exact of_decide_eq_true (by first | (with_reducible assumption) | assumption) | (have e_ := (Kd.N_reads' HO_19.out).1; omega)); obtain ⟨ua598_0, uc598_0, rfl, ul598_0, ge598_0⟩ := Kd.FK_slice_open hMe598; have hv598_0 := hcc598 0 _ rfl; rw [Nat.add_zero, show ((Kd.slice 3 (Kd.int .i64))).sz = 1 from rfl, Nat.mul_one] at hv598_0; replace hv598_0 := Option.some.inj (hv598_0.symm.trans hx598_0); injection hv598_0 with hva_ hvn_ hvc_; rw [hva_] at ge598_0; rw [hvc_] at ul598_0; have HL598_0 := am (show Kd.V (Kd.int .i64) 3 _ w.heap.size _ _ (rd_L1 t592 x21_1) from Kd.V_mk ul598_0 ge598_0); clear hva_ hvn_ hvc_ ge598_0 ul598_0; clear hcc598 hce598; have HR598_0 := am hi598_0; have HC598_0 := am hl598_0; clear hi598_0 hl598_0; replace p598 := eq_true p598; replace q598 := eq_true q598; have hcz19_0 : wr.cell? ⟨gb587, 0, none⟩ = some (.slice A0_0 l0_0.length c0_0) := (blk_cell BK587.out 0).trans rfl; have hfz19_0 := blk_frozen BK587.out 0; go_wp2_with (first | ((with_reducible refine gate_callee (f := 100) rfl ?_); refine goesL_ (some 28) rfl rfl Try.func100 (by kernel_rfl) rfl #[.agg #[.slice A0_0 l0_0.length c0_0], .slice A598_0 (rd_L1 t592 x21_1).length c598_0] rfl (by (try simp only [mT, mC, mN]); first | done | rfl) ?_; (with_reducible refine (impl_ApplyMorphism.calls k1 _ _ l0_0 _ _ (rd_L1 t592 x21_1) t599 true _ ?side1 ?side2 ?side3 ?side4 A15.out).mono ?_); (case side1 => exact xC ((Kd.C_below HR0_0.out HB.out))); (case side2 => exact HC0_0.out); (case side3 => repeat (first | exact (by repeat (first | (with_reducible exact HR598_0.out) | (with_reducible refine Kd.C_alloc ?_ _) | (with_reducible refine Kd.C_drewN ?_ _) | (with_reducible refine Kd.C_drew ?_) | exact HR598_0.out)) | (with_reducible refine Kd.C_alloc ?_ _) | (with_reducible refine Kd.C_drewN ?_ _) | (with_reducible refine Kd.C_drew ?_))); (case side4 => exact HC598_0.out); rintro e w20 ⟨v600, rfl, ho0, hb⟩; refine ⟨_, rfl, ?_⟩; replace HO_19 := am (Kd.N_elder' (by exact rN HO_19) (Kd.R_base ho0) hb); replace HL598_0 := am (Kd.V_elder' (by exact rV HL598_0) (Kd.R_base ho0) hb); have HO601 := am (Kd.R_lower (Kd.R_newM (M := fun k_ => (w.heap.size ≤ k_)) ho0 (below_size (by exact rB HB)) (fun k_ h_ => h_)) (below_size (by exact rB HB))); replace BK587 := am (blk_below (g := gb587) (o := .cells #[.slice A0_0 l0_0.length c0_0] 28 (0, 0)) (by exact rX BK587) hb); replace HR598_0 := am (Kd.C_below (by repeat (first | (with_reducible exact HR598_0.out) | (with_reducible refine Kd.C_alloc ?_ _) | (with_reducible refine Kd.C_drewN ?_ _) | (with_reducible refine Kd.C_drew ?_) | exact HR598_0.out)) hb); replace HB := am (below_step (by exact rB HB) hb); clear hb ho0; obtain ⟨Ao21, co21, eo21⟩ := Kd.R_slice HO601.out; subst eo21) | (go_at_call 53; (with_reducible refine (impl_HasSquare.calls k1 _ _ t599 true _ ?side1 ?side2 A17.out).mono ?_); (case side1 => exact xC ((Kd.R_reads' HO601.out).2.2)); (case side2 => exact (Kd.R_reads' HO601.out).2.1); rintro e w22 ⟨rfl, hb⟩; replace HO_19 := am (Kd.N_below (by exact rN HO_19) hb); replace HL598_0 := am (Kd.V_below (by exact rV HL598_0) hb); replace HO601 := am (Kd.R_below (by exact rR HO601) hb); replace BK587 := am (blk_below (g := gb587) (o := .cells #[.slice A0_0 l0_0.length c0_0] 28 (0, 0)) (by exact rX BK587) hb); replace HR598_0 := am (Kd.C_below (by repeat (first | (with_reducible exact HR598_0.out) | (with_reducible refine Kd.C_alloc ?_ _) | (with_reducible refine Kd.C_drewN ?_ _) | (with_reducible refine Kd.C_drew ?_) | exact HR598_0.out)) hb); replace HB := am (below_step (by exact rB HB) hb); clear hb)); go_ret2; exact ⟨_, by first | rfl | (simp [errW_none, errW_some] <;> rfl) | (simp [*, errW_none, errW_some] <;> rfl), by exact xV (Kd.V_mono HL598_0.out (fun _ hk => hk.1.1.1)), by exact rB HB⟩
        ·replace c18 := Bool.eq_false_iff.mpr c18; subst c18; have H1 : (impl_BrokenWord.l0 k1 t592 (t592.length : Int) (wrap64 (x21_1 + 1)) l0_0) = some (r1, r2) := by rw [if_neg (show ¬ (false = true) by decide)] at H; exact H
         clear H; have H := H1; clear H1; have H' := am H; clear H; have p598 : 0 ≤ (x21_1 : Int) := of_decide_eq_true (by first | (with_reducible assumption) | assumption); have q598 : x21_1 < (t592.length : Int) := of_decide_eq_true (by first | (with_reducible assumption) | assumption); obtain ⟨ad598, A598_0, c598_0, e598, hx598_0, hl598_0, hi598_0⟩ := at_L1 (Kd.N_reads' HO_19.out).2.2 x21_1 p598 q598; cases e598; obtain ⟨ce598, hce598, hMe598, hcc598⟩ := Kd.N_get HO_19.out [] x21_1 p598 (by first | exact q598 | exact of_decide_eq_true (by first | (with_reducible assumption) | assumption) | (have e_ := (Kd.N_reads' HO_19.out).1; omega)); obtain ⟨ua598_0, uc598_0, rfl, ul598_0, ge598_0⟩ := Kd.FK_slice_open hMe598; have hv598_0 := hcc598 0 _ rfl; rw [Nat.add_zero, show ((Kd.slice 3 (Kd.int .i64))).sz = 1 from rfl, Nat.mul_one] at hv598_0; replace hv598_0 := Option.some.inj (hv598_0.symm.trans hx598_0); injection hv598_0 with hva_ hvn_ hvc_; rw [hva_] at ge598_0; rw [hvc_] at ul598_0; have HL598_0 := am (show Kd.V (Kd.int .i64) 3 _ w.heap.size _ _ (rd_L1 t592 x21_1) from Kd.V_mk ul598_0 ge598_0); clear hva_ hvn_ hvc_ ge598_0 ul598_0; clear hcc598 hce598; have HR598_0 := am hi598_0; have HC598_0 := am hl598_0; clear hi598_0 hl598_0; replace p598 := eq_true p598; replace q598 := eq_true q598; have hcz23_0 : wr.cell? ⟨gb587, 0, none⟩ = some (.slice A0_0 l0_0.length c0_0) := (blk_cell BK587.out 0).trans rfl; have hfz23_0 := blk_frozen BK587.out 0; go_wp2_with (first | ((with_reducible refine gate_callee (f := 100) rfl ?_); refine goesL_ (some 28) rfl rfl Try.func100 (by kernel_rfl) rfl #[.agg #[.slice A0_0 l0_0.length c0_0], .slice A598_0 (rd_L1 t592 x21_1).length c598_0] rfl (by (try simp only [mT, mC, mN]); first | done | rfl) ?_; (with_reducible refine (impl_ApplyMorphism.calls k1 _ _ l0_0 _ _ (rd_L1 t592 x21_1) t599 true _ ?side1 ?side2 ?side3 ?side4 A15.out).mono ?_); (case side1 => exact xC ((Kd.C_below HR0_0.out HB.out))); (case side2 => exact HC0_0.out); (case side3 => repeat (first | exact (by repeat (first | (with_reducible exact HR598_0.out) | (with_reducible refine Kd.C_alloc ?_ _) | (with_reducible refine Kd.C_drewN ?_ _) | (with_reducible refine Kd.C_drew ?_) | exact HR598_0.out)) | (with_reducible refine Kd.C_alloc ?_ _) | (with_reducible refine Kd.C_drewN ?_ _) | (with_reducible refine Kd.C_drew ?_))); (case side4 => exact HC598_0.out); rintro e w24 ⟨v600, rfl, ho0, hb⟩; refine ⟨_, rfl, ?_⟩; replace HO_19 := am (Kd.N_elder' (by exact rN HO_19) (Kd.R_base ho0) hb); replace HL598_0 := am (Kd.V_elder' (by exact rV HL598_0) (Kd.R_base ho0) hb); have HO601 := am (Kd.R_lower (Kd.R_newM (M := fun k_ => (w.heap.size ≤ k_)) ho0 (below_size (by exact rB HB)) (fun k_ h_ => h_)) (below_size (by exact rB HB))); replace BK587 := am (blk_below (g := gb587) (o := .cells #[.slice A0_0 l0_0.length c0_0] 28 (0, 0)) (by exact rX BK587) hb); replace HR598_0 := am (Kd.C_below (by repeat (first | (with_reducible exact HR598_0.out) | (with_reducible refine Kd.C_alloc ?_ _) | (with_reducible refine Kd.C_drewN ?_ _) | (with_reducible refine Kd.C_drew ?_) | exact HR598_0.out)) hb); replace HB := am (below_step (by exact rB HB) hb); clear hb ho0; obtain ⟨Ao25, co25, eo25⟩ := Kd.R_slice HO601.out; subst eo25) | (go_at_call 53; (with_reducible refine (impl_HasSquare.calls k1 _ _ t599 false _ ?side1 ?side2 A17.out).mono ?_); (case side1 => exact xC ((Kd.R_reads' HO601.out).2.2)); (case side2 => exact (Kd.R_reads' HO601.out).2.1); rintro e w26 ⟨rfl, hb⟩; replace HO_19 := am (Kd.N_below (by exact rN HO_19) hb); replace HL598_0 := am (Kd.V_below (by exact rV HL598_0) hb); replace HO601 := am (Kd.R_below (by exact rR HO601) hb); replace BK587 := am (blk_below (g := gb587) (o := .cells #[.slice A0_0 l0_0.length c0_0] 28 (0, 0)) (by exact rX BK587) hb); replace HR598_0 := am (Kd.C_below (by repeat (first | (with_reducible exact HR598_0.out) | (with_reducible refine Kd.C_alloc ?_ _) | (with_reducible refine Kd.C_drewN ?_ _) | (with_reducible refine Kd.C_drew ?_) | exact HR598_0.out)) hb); replace HB := am (below_step (by exact rB HB) hb); clear hb)); go_roundg k1
         case measure => have := HK1.out; omega
         case rel => exact ⟨(wrap64 (x21_1 + 1)), (by first | rfl | (simp; done) | (simp [*]; done)), H', ⟨by have := HK1.out; omega⟩, ⟨by exact xN (Kd.N_mono HO_19.out (fun _ hk => ⟨hk.1.1, hk.1.2⟩))⟩, ⟨by exact rX BK587⟩, ⟨by exact rB HB⟩⟩
       ·replace c16 := Bool.eq_false_iff.mpr c16; subst c16; have H1 : (some (rd_L1 t592 x21_1, true)) = some (r1, r2) := by rw [if_neg (show ¬ (false = true) by decide)] at H; exact H
        clear H; have H := H1; clear H1; simp only [Option.some.injEq, Prod.mk.injEq] at H; obtain ⟨rfl, rfl⟩ := H; have p598 : 0 ≤ (x21_1 : Int) := of_decide_eq_true (by first | (with_reducible assumption) | assumption); have q598 : x21_1 < (t592.length : Int) := of_decide_eq_true (by first | (with_reducible assumption) | assumption); obtain ⟨ad598, A598_0, c598_0, e598, hx598_0, hl598_0, hi598_0⟩ := at_L1 (Kd.N_reads' HO_19.out).2.2 x21_1 p598 q598; cases e598; obtain ⟨ce598, hce598, hMe598, hcc598⟩ := Kd.N_get HO_19.out [] x21_1 p598 (by first | exact q598 | exact of_decide_eq_true (by first | (with_reducible assumption) | assumption) | (have e_ := (Kd.N_reads' HO_19.out).1; omega)); obtain ⟨ua598_0, uc598_0, rfl, ul598_0, ge598_0⟩ := Kd.FK_slice_open hMe598; have hv598_0 := hcc598 0 _ rfl; rw [Nat.add_zero, show ((Kd.slice 3 (Kd.int .i64))).sz = 1 from rfl, Nat.mul_one] at hv598_0; replace hv598_0 := Option.some.inj (hv598_0.symm.trans hx598_0); injection hv598_0 with hva_ hvn_ hvc_; rw [hva_] at ge598_0; rw [hvc_] at ul598_0; have HL598_0 := am (show Kd.V (Kd.int .i64) 3 _ w.heap.size _ _ (rd_L1 t592 x21_1) from Kd.V_mk ul598_0 ge598_0); clear hva_ hvn_ hvc_ ge598_0 ul598_0; clear hcc598 hce598; have HR598_0 := am hi598_0; have HC598_0 := am hl598_0; clear hi598_0 hl598_0; replace p598 := eq_true p598; replace q598 := eq_true q598; have hcz27_0 : wr.cell? ⟨gb587, 0, none⟩ = some (.slice A0_0 l0_0.length c0_0) := (blk_cell BK587.out 0).trans rfl; have hfz27_0 := blk_frozen BK587.out 0; go_wp2_with (first | ((with_reducible refine gate_callee (f := 100) rfl ?_); refine goesL_ (some 28) rfl rfl Try.func100 (by kernel_rfl) rfl #[.agg #[.slice A0_0 l0_0.length c0_0], .slice A598_0 (rd_L1 t592 x21_1).length c598_0] rfl (by (try simp only [mT, mC, mN]); first | done | rfl) ?_; (with_reducible refine (impl_ApplyMorphism.calls k1 _ _ l0_0 _ _ (rd_L1 t592 x21_1) t599 false _ ?side1 ?side2 ?side3 ?side4 A15.out).mono ?_); (case side1 => exact xC ((Kd.C_below HR0_0.out HB.out))); (case side2 => exact HC0_0.out); (case side3 => repeat (first | exact (by repeat (first | (with_reducible exact HR598_0.out) | (with_reducible refine Kd.C_alloc ?_ _) | (with_reducible refine Kd.C_drewN ?_ _) | (with_reducible refine Kd.C_drew ?_) | exact HR598_0.out)) | (with_reducible refine Kd.C_alloc ?_ _) | (with_reducible refine Kd.C_drewN ?_ _) | (with_reducible refine Kd.C_drew ?_))); (case side4 => exact HC598_0.out); rintro e w28 ⟨v600, rfl, ho0, hb⟩; refine ⟨_, rfl, ?_⟩; replace HO_19 := am (Kd.N_elder' (by exact rN HO_19) (Kd.R_base ho0) hb); replace HL598_0 := am (Kd.V_elder' (by exact rV HL598_0) (Kd.R_base ho0) hb); have HO601 := am (Kd.R_lower (Kd.R_newM (M := fun k_ => (w.heap.size ≤ k_)) ho0 (below_size (by exact rB HB)) (fun k_ h_ => h_)) (below_size (by exact rB HB))); replace BK587 := am (blk_below (g := gb587) (o := .cells #[.slice A0_0 l0_0.length c0_0] 28 (0, 0)) (by exact rX BK587) hb); replace HR598_0 := am (Kd.C_below (by repeat (first | (with_reducible exact HR598_0.out) | (with_reducible refine Kd.C_alloc ?_ _) | (with_reducible refine Kd.C_drewN ?_ _) | (with_reducible refine Kd.C_drew ?_) | exact HR598_0.out)) hb); replace HB := am (below_step (by exact rB HB) hb); clear hb ho0)); go_ret2; exact ⟨_, by first | rfl | (simp [errW_none, errW_some] <;> rfl) | (simp [*, errW_none, errW_some] <;> rfl), by exact xV (Kd.V_mono HL598_0.out (fun _ hk => hk.1.1.1)), by exact rB HB⟩
      ·rw [if_neg c14] at H; exact absurd H (by simp)
     ·rw [if_neg c13] at H; exact absurd H (by simp)
    ·rw [if_neg c12] at H; have c12b0 : decide (x21_1 < (t592.length : Int)) = false := decide_eq_false c12; clear c12; obtain ⟨y595, hy595⟩ : ∃ y_ : List Int, y_ = (([] : List Int)) := ⟨_, rfl⟩; replace H : (some (y595, false)) = some (r1, r2) := by rw [hy595]; first | exact H | exact (Option.bind_some _ _).symm.trans H
     have Ny595 := am hy595; clear hy595; simp only [Option.some.injEq, Prod.mk.injEq] at H; obtain ⟨rfl, rfl⟩ := H; go_wp2_with (first | ((with_reducible refine gate_dst (N := 39) rfl ?_); refine Kd.R_lit (Kd.int .i64) _ 3 ?hg (N := 39) ?hd (xs := ([] : List Int)) (inner := []) (ok := fun _ => True) (okp := fun _ => True) ?hr ?hp (fun _ hk => hk) trivial (Below.refl _ _) (Nat.le_refl _) (by simp) ?_; (case hd => rfl); (case hg => rfl); (case hr => first | (go_simp; done) | (go_simp; rfl)); (case hp => exact (Reps.none _ _)); intro v596 w29 ho30 hb hg_ hnew_; clear hg_ hnew_; (first | rw [← Ny595.out] at ho30 | (simp only [Int.reduceToNat] at ho30; rw [← Ny595.out] at ho30)); replace HO_19 := am (Kd.N_elder' (by exact rN HO_19) (Kd.R_base ho30) hb); have HO597 := am (Kd.R_lower (Kd.R_newM (M := fun k_ => (w.heap.size ≤ k_)) ho30 (below_size (by exact rB HB)) (fun k_ h_ => h_)) (below_size (by exact rB HB))); replace BK587 := am (blk_below (g := gb587) (o := .cells #[.slice A0_0 l0_0.length c0_0] 28 (0, 0)) (by exact rX BK587) hb); replace HB := am (below_step (by exact rB HB) hb); clear hb ho30)); go_ret2; exact ⟨_, by first | rfl | (simp [errW_none, errW_some] <;> rfl) | (simp [*, errW_none, errW_some] <;> rfl), Kd.R_V (by exact xR (Kd.R_mono HO597.out (fun _ hk => hk.1))), by exact rB HB⟩
 ·replace c4 := Bool.eq_false_iff.mpr c4; subst c4; have H1 : (some ((([] : List Int)), false)) = some (r1, r2) := by rw [if_neg (show ¬ (false = true) by decide)] at H; exact H
  clear H; have H := H1; clear H1; obtain ⟨y589, hy589⟩ : ∃ y_ : List Int, y_ = (([] : List Int)) := ⟨_, rfl⟩; replace H : (some (y589, false)) = some (r1, r2) := by rw [hy589]; first | exact H | exact (Option.bind_some _ _).symm.trans H
  have Ny589 := am hy589; clear hy589; simp only [Option.some.injEq, Prod.mk.injEq] at H; obtain ⟨rfl, rfl⟩ := H; go_enter Try.func38, Try.ntmps38; go_wp2_with (first | ((with_reducible refine gate_dst (N := 2) rfl ?_); refine box_event ?hg (N := 2) ?hd (cs := #[.slice A0_0 l0_0.length c0_0]) (t := 28) ?hr ?_; (case hd => rfl); (case hg => rfl); (case hr => first | (go_simp; done) | (go_simp; rfl)); intro gb587 hg w31 hbox hb; have BK587 := am (hbox); have GW587 := am ((by rw [hg]; exact (below_size (by exact rB HB)) : w.heap.size ≤ gb587)); have GE587 := am ((by rw [hg]; exact (below_size (by exact rB HB)) : w.heap.size ≤ gb587)); replace HB := am (below_step (by exact rB HB) hb); have qW587 := Ge.mk GW587.out; have qE587 := Ge.mk GE587.out; clear hb hbox hg; have hcz32_0 : w31.cell? ⟨gb587, 0, none⟩ = some (.slice A0_0 l0_0.length c0_0) := (blk_cell BK587.out 0).trans rfl; have hfz32_0 := blk_frozen BK587.out 0) | ((with_reducible refine gate_callee (f := 120) rfl ?_); refine goesL_ (some 12) rfl rfl Try.func120 (by kernel_rfl) rfl #[.agg #[.slice A0_0 l0_0.length c0_0], .int .i64 a1] rfl (by (try simp only [mT, mC, mN]); first | done | rfl) ?_; (with_reducible refine (impl_isTried.calls k _ _ l0_0 a1 false _ ?side1 ?side2 A3.out).mono ?_); (case side1 => exact xC ((Kd.C_below HR0_0.out HB.out))); (case side2 => exact HC0_0.out); rintro e w33 ⟨rfl, hb⟩; refine ⟨_, rfl, ?_⟩; replace BK587 := am (blk_below (g := gb587) (o := .cells #[.slice A0_0 l0_0.length c0_0] 28 (0, 0)) (by exact rX BK587) hb); replace HB := am (below_step (by exact rB HB) hb); clear hb) | ((with_reducible refine gate_dst (N := 14) rfl ?_); refine Kd.R_lit (Kd.int .i64) _ 3 ?hg (N := 14) ?hd (xs := ([] : List Int)) (inner := []) (ok := fun _ => True) (okp := fun _ => True) ?hr ?hp (fun _ hk => hk) trivial (Below.refl _ _) (Nat.le_refl _) (by simp) ?_; (case hd => rfl); (case hg => rfl); (case hr => first | (go_simp; done) | (go_simp; rfl)); (case hp => exact (Reps.none _ _)); intro v590 w34 ho35 hb hg_ hnew_; clear hg_ hnew_; (first | rw [← Ny589.out] at ho35 | (simp only [Int.reduceToNat] at ho35; rw [← Ny589.out] at ho35)); have HO591 := am (Kd.R_lower (Kd.R_newM (M := fun k_ => (w.heap.size ≤ k_)) ho35 (below_size (by exact rB HB)) (fun k_ h_ => h_)) (below_size (by exact rB HB))); replace BK587 := am (blk_below (g := gb587) (o := .cells #[.slice A0_0 l0_0.length c0_0] 28 (0, 0)) (by exact rX BK587) hb); replace HB := am (below_step (by exact rB HB) hb); clear hb ho35)); go_ret2; exact ⟨_, by first | rfl | (simp [errW_none, errW_some] <;> rfl) | (simp [*, errW_none, errW_some] <;> rfl), Kd.R_V (by exact xR (Kd.R_mono HO591.out (fun _ hk => hk.1))), by exact rB HB⟩
def impl_KeepsSquareFree.f (k : Nat) (l0_0 : List (List Int)) (a1 : Int) : Option (Bool) := (impl_BrokenWord.f k l0_0 a1).bind fun bt605 => ((impl_isTried.f k l0_0 a1).bind fun t609 => (if t609 = true then (some (!bt605.2)) else (some false)))
theorem impl_KeepsSquareFree.mono : ∀ a0 a1 k, LeO (impl_KeepsSquareFree.f k a0 a1) (impl_KeepsSquareFree.f (k + 1) a0 a1) := by
 intro a0 a1 k; unfold impl_KeepsSquareFree.f
 repeat' first
   | (with_reducible exact impl_BrokenWord.mono _ _ _)
   | (with_reducible exact impl_isTried.mono _ _ _)
   | (with_reducible exact LeO.refl _)
   | (with_reducible exact LeO.none _)
   | (with_reducible refine LeO.ite ?_ ?_)
   | (with_reducible refine LeO.bind ?_ (fun _ => ?_))
set_option maxHeartbeats 8000000 in
set_option maxRecDepth 100000 in
theorem impl_KeepsSquareFree.calls (k : Nat) (A0_0 : Option Addr) (c0_0 : Nat) (l0_0 : List (List Int)) (a1 : Int) (r : Bool) (w : World) (hr0_0 : Kd.C (Kd.slice 3 (Kd.int .i64)) w A0_0 l0_0.length l0_0) (hc0_0 : l0_0.length ≤ c0_0) (h : impl_KeepsSquareFree.f k l0_0 a1 = some r) :
  Calls Try.prog 36 #[.agg #[.slice A0_0 l0_0.length c0_0], .int .i64 a1] w fun e w' => e = .returned (.bool r) ∧ Below w.heap.size w w' := by
 have hu28 := Try.underlying28; have HR0_0 := am hr0_0; have HC0_0 := am hc0_0; clear hr0_0 hc0_0; have HB := am (Below.refl w.heap.size w); have H : ((impl_BrokenWord.f k l0_0 a1).bind fun bt605 => ((impl_isTried.f k l0_0 a1).bind fun t609 => (if t609 = true then (some (!bt605.2)) else (some false)))) = some r := h; clear h; replace H := Option.bind_eq_some_iff.mp H; obtain ⟨⟨t605, t608⟩, A30, H⟩ := H; replace H : ((impl_isTried.f k l0_0 a1).bind fun t609 => (if t609 = true then (some (!t608)) else (some false))) = some r := H; have A3 := am A30; clear A30; replace H := Option.bind_eq_some_iff.mp H; obtain ⟨t609, A40, H⟩ := H; replace H : (if t609 = true then (some (!t608)) else (some false)) = some r := H; have A4 := am A40; clear A40; by_cases c5 : t609 = true
 ·subst c5; have H1 : (some (!t608)) = some r := by rw [if_pos rfl] at H; exact H
  clear H; have H := H1; clear H1; obtain rfl := Option.some.inj H; go_enter Try.func36, Try.ntmps36; go_wp2_with (first | ((with_reducible refine gate_dst (N := 2) rfl ?_); refine box_event ?hg (N := 2) ?hd (cs := #[.slice A0_0 l0_0.length c0_0]) (t := 28) ?hr ?_; (case hd => rfl); (case hg => rfl); (case hr => first | (go_simp; done) | (go_simp; rfl)); intro gb604 hg w6 hbox hb; have BK604 := am (hbox); have GW604 := am ((by rw [hg]; exact (below_size (by exact rB HB)) : w.heap.size ≤ gb604)); have GE604 := am ((by rw [hg]; exact (below_size (by exact rB HB)) : w.heap.size ≤ gb604)); replace HB := am (below_step (by exact rB HB) hb); have qW604 := Ge.mk GW604.out; have qE604 := Ge.mk GE604.out; clear hb hbox hg; have hcz7_0 : w6.cell? ⟨gb604, 0, none⟩ = some (.slice A0_0 l0_0.length c0_0) := (blk_cell BK604.out 0).trans rfl; have hfz7_0 := blk_frozen BK604.out 0) | ((with_reducible refine gate_callee (f := 38) rfl ?_); refine goesL_ (some 10) rfl rfl Try.func38 (by kernel_rfl) rfl #[.agg #[.slice A0_0 l0_0.length c0_0], .int .i64 a1] rfl (by (try simp only [mT, mC, mN]); first | done | rfl) ?_; (with_reducible refine (impl_BrokenWord.calls k _ _ l0_0 a1 t605 t608 _ ?side1 ?side2 A3.out).mono ?_); (case side1 => exact xC ((Kd.C_below HR0_0.out HB.out))); (case side2 => exact HC0_0.out); rintro e w8 ⟨v606, rfl, ho0, hb⟩; refine ⟨_, rfl, ?_⟩; have HO607 := am (Kd.V_lower (Kd.V_mono (ok' := fun k_ => k_ ≠ gb604) ho0 (fun k_ hk_ => (Kd.freshB (g := gb604) (o := .cells #[.slice A0_0 l0_0.length c0_0] 28 (0, 0)) (by exact rX BK604) k_ hk_))) (below_size (by exact rB HB))); replace BK604 := am (blk_below (g := gb604) (o := .cells #[.slice A0_0 l0_0.length c0_0] 28 (0, 0)) (by exact rX BK604) hb); replace HB := am (below_step (by exact rB HB) hb); clear hb ho0; have hcz9_0 : w8.cell? ⟨gb604, 0, none⟩ = some (.slice A0_0 l0_0.length c0_0) := (blk_cell BK604.out 0).trans rfl; have hfz9_0 := blk_frozen BK604.out 0) | ((with_reducible refine gate_callee (f := 120) rfl ?_); refine goesL_ (some 15) rfl rfl Try.func120 (by kernel_rfl) rfl #[.agg #[.slice A0_0 l0_0.length c0_0], .int .i64 a1] rfl (by (try simp only [mT, mC, mN]); first | done | rfl) ?_; (with_reducible refine (impl_isTried.calls k _ _ l0_0 a1 true _ ?side1 ?side2 A4.out).mono ?_); (case side1 => exact xC ((Kd.C_below HR0_0.out HB.out))); (case side2 => exact HC0_0.out); rintro e w10 ⟨rfl, hb⟩; refine ⟨_, rfl, ?_⟩; replace HO607 := am (Kd.V_below (by exact rV HO607) hb); replace BK604 := am (blk_below (g := gb604) (o := .cells #[.slice A0_0 l0_0.length c0_0] 28 (0, 0)) (by exact rX BK604) hb); replace HB := am (below_step (by exact rB HB) hb); clear hb)); go_ret; exact ⟨by first | rfl | (simp [errW_none, errW_some] <;> rfl) | (simp [*, errW_none, errW_some] <;> rfl), by exact rB HB⟩
 ·replace c5 := Bool.eq_false_iff.mpr c5; subst c5; have H1 : (some false) = some r := by rw [if_neg (show ¬ (false = true) by decide)] at H; exact H
  clear H; have H := H1; clear H1; obtain rfl := Option.some.inj H; go_enter Try.func36, Try.ntmps36; go_wp2_with (first | ((with_reducible refine gate_dst (N := 2) rfl ?_); refine box_event ?hg (N := 2) ?hd (cs := #[.slice A0_0 l0_0.length c0_0]) (t := 28) ?hr ?_; (case hd => rfl); (case hg => rfl); (case hr => first | (go_simp; done) | (go_simp; rfl)); intro gb604 hg w11 hbox hb; have BK604 := am (hbox); have GW604 := am ((by rw [hg]; exact (below_size (by exact rB HB)) : w.heap.size ≤ gb604)); have GE604 := am ((by rw [hg]; exact (below_size (by exact rB HB)) : w.heap.size ≤ gb604)); replace HB := am (below_step (by exact rB HB) hb); have qW604 := Ge.mk GW604.out; have qE604 := Ge.mk GE604.out; clear hb hbox hg; have hcz12_0 : w11.cell? ⟨gb604, 0, none⟩ = some (.slice A0_0 l0_0.length c0_0) := (blk_cell BK604.out 0).trans rfl; have hfz12_0 := blk_frozen BK604.out 0) | ((with_reducible refine gate_callee (f := 38) rfl ?_); refine goesL_ (some 10) rfl rfl Try.func38 (by kernel_rfl) rfl #[.agg #[.slice A0_0 l0_0.length c0_0], .int .i64 a1] rfl (by (try simp only [mT, mC, mN]); first | done | rfl) ?_; (with_reducible refine (impl_BrokenWord.calls k _ _ l0_0 a1 t605 t608 _ ?side1 ?side2 A3.out).mono ?_); (case side1 => exact xC ((Kd.C_below HR0_0.out HB.out))); (case side2 => exact HC0_0.out); rintro e w13 ⟨v606, rfl, ho0, hb⟩; refine ⟨_, rfl, ?_⟩; have HO607 := am (Kd.V_lower (Kd.V_mono (ok' := fun k_ => k_ ≠ gb604) ho0 (fun k_ hk_ => (Kd.freshB (g := gb604) (o := .cells #[.slice A0_0 l0_0.length c0_0] 28 (0, 0)) (by exact rX BK604) k_ hk_))) (below_size (by exact rB HB))); replace BK604 := am (blk_below (g := gb604) (o := .cells #[.slice A0_0 l0_0.length c0_0] 28 (0, 0)) (by exact rX BK604) hb); replace HB := am (below_step (by exact rB HB) hb); clear hb ho0; have hcz14_0 : w13.cell? ⟨gb604, 0, none⟩ = some (.slice A0_0 l0_0.length c0_0) := (blk_cell BK604.out 0).trans rfl; have hfz14_0 := blk_frozen BK604.out 0) | ((with_reducible refine gate_callee (f := 120) rfl ?_); refine goesL_ (some 15) rfl rfl Try.func120 (by kernel_rfl) rfl #[.agg #[.slice A0_0 l0_0.length c0_0], .int .i64 a1] rfl (by (try simp only [mT, mC, mN]); first | done | rfl) ?_; (with_reducible refine (impl_isTried.calls k _ _ l0_0 a1 false _ ?side1 ?side2 A4.out).mono ?_); (case side1 => exact xC ((Kd.C_below HR0_0.out HB.out))); (case side2 => exact HC0_0.out); rintro e w15 ⟨rfl, hb⟩; refine ⟨_, rfl, ?_⟩; replace HO607 := am (Kd.V_below (by exact rV HO607) hb); replace BK604 := am (blk_below (g := gb604) (o := .cells #[.slice A0_0 l0_0.length c0_0] 28 (0, 0)) (by exact rX BK604) hb); replace HB := am (below_step (by exact rB HB) hb); clear hb)); go_ret; exact ⟨by first | rfl | (simp [errW_none, errW_some] <;> rfl) | (simp [*, errW_none, errW_some] <;> rfl), by exact rB HB⟩
end
end Go.Proofs.Ytooamcjgejajeaa.M
namespace Go.Proofs.Ytooamcjgejajeaa.M
open Go.RowKit Go.Proofs.Ytooamcjgejajeaa.KW Go.Proofs.YtooamcjgejajeaaW.PrintWords Go.Proofs.YtooamcjgejajeaaW.PrintLast Go.Proofs.YtooamcjgejajeaaW.PrintMore
attribute [local go_sem] max2_int min2_int max_two min_two max_three min_three max_four min_four
set_option linter.unusedVariables false
set_option linter.unusedSimpArgs false
def spec_IsUniform.l0 : Nat → Int → Int → List (List Int) → Option (Bool)
 | 0, _, _, _ => none
 | k + 1, x1, x5, x648000 => if x5 < (x648000.length : Int) then (if 0 ≤ x5 then (if ((rd_L1 x648000 x5).length : Int) = x1 then (spec_IsUniform.l0 k x1 (wrap64 (x5 + 1)) x648000) else (some false)) else (none)) else ((spec_IsMorphism.f k x648000).bind fun t649 => (some t649))
def spec_IsUniform.f (k : Nat) (l0_0 : List (List Int)) (a1 : Int) : Option (Bool) := spec_IsUniform.l0 k a1 0 l0_0
theorem spec_IsUniform.mono_l : ∀ k, (∀ y0 y1 y2, LeO (spec_IsUniform.l0 k y0 y1 y2) (spec_IsUniform.l0 (k + 1) y0 y1 y2))
 | 0 => fun _ _ _ r h => by simp [spec_IsUniform.l0] at h
 | k + 1 => by
  have ih0 := spec_IsUniform.mono_l k
  ·intro y0 y1 y2; unfold spec_IsUniform.l0
   repeat' first
   | (with_reducible exact ih0 _ _ _)
   | (with_reducible exact spec_IsMorphism.mono _ _)
   | (with_reducible exact LeO.refl _)
   | (with_reducible exact LeO.none _)
   | (with_reducible refine LeO.ite ?_ ?_)
   | (with_reducible refine LeO.bind ?_ (fun _ => ?_))
theorem spec_IsUniform.mono : ∀ a0 a1 k, LeO (spec_IsUniform.f k a0 a1) (spec_IsUniform.f (k + 1) a0 a1) := by
 intro a0 a1 k; have ih0 := spec_IsUniform.mono_l k; unfold spec_IsUniform.f
 repeat' first
   | (with_reducible exact ih0 _ _ _)
   | (with_reducible exact spec_IsMorphism.mono _ _)
   | (with_reducible exact LeO.refl _)
   | (with_reducible exact LeO.none _)
   | (with_reducible refine LeO.ite ?_ ?_)
   | (with_reducible refine LeO.bind ?_ (fun _ => ?_))
set_option maxHeartbeats 8000000 in
set_option maxRecDepth 100000 in
theorem spec_IsUniform.calls (k : Nat) (A0_0 : Option Addr) (c0_0 : Nat) (l0_0 : List (List Int)) (a1 : Int) (r : Bool) (w : World) (hr0_0 : Kd.C (Kd.slice 3 (Kd.int .i64)) w A0_0 l0_0.length l0_0) (hc0_0 : l0_0.length ≤ c0_0) (h : spec_IsUniform.f k l0_0 a1 = some r) :
  Calls Try.prog 107 #[.agg #[.slice A0_0 l0_0.length c0_0], .int .i64 a1] w fun e w' => e = .returned (.bool r) ∧ Below w.heap.size w w' := by
 have hu28 := Try.underlying28; have HR0_0 := am hr0_0; have HC0_0 := am hc0_0; clear hr0_0 hc0_0; have HB := am (Below.refl w.heap.size w); have H : (spec_IsUniform.l0 k a1 0 l0_0) = some r := h; clear h; have H' := am H; clear H; go_enter Try.func107, Try.ntmps107; go_wp2_with (first | ((with_reducible refine gate_dst (N := 2) rfl ?_); refine box_event ?hg (N := 2) ?hd (cs := #[.slice A0_0 l0_0.length c0_0]) (t := 28) ?hr ?_; (case hd => rfl); (case hg => rfl); (case hr => first | (go_simp; done) | (go_simp; rfl)); intro gb647 hg w3 hbox hb; have BK647 := am (hbox); have GW647 := am ((by rw [hg]; exact (below_size (by exact rB HB)) : w.heap.size ≤ gb647)); have GE647 := am ((by rw [hg]; exact (below_size (by exact rB HB)) : w.heap.size ≤ gb647)); replace HB := am (below_step (by exact rB HB) hb); have qW647 := Ge.mk GW647.out; have qE647 := Ge.mk GE647.out; clear hb hbox hg)); go_loopg [5] k (fun kq v5 w' => ∃ (x5_1 : Int), v5 = .int .i64 x5_1 ∧ Aside0 (spec_IsUniform.l0 kq a1 x5_1 l0_0 = some r) ∧ Aside0 (kq ≤ k) ∧ Aside0 (w'.heap[gb647]? = some (.cells #[(.slice A0_0 l0_0.length c0_0)] 28 (0, 0))) ∧ Aside0 (Below w.heap.size w w'))
 case atStart => exact ⟨(0), (by first | rfl | (simp; done) | (simp [*]; done)), H', ⟨Nat.le_refl _⟩, ⟨by exact rX BK647⟩, ⟨by exact rB HB⟩⟩
 case round =>
  clear H'
  try clear c1
  try clear p2
  obtain ⟨x5_1, rfl, HA, HK1, BK647, HB⟩ := hrel; cases gk with
  | zero => exact absurd HA.out (by simp [spec_IsUniform.l0])
  | succ k1 =>
   have H := HA.out; clear HA; simp only [spec_IsUniform.l0] at H; by_cases c4 : x5_1 < (l0_0.length : Int)
   ·rw [if_pos c4] at H; have c4b0 : decide (x5_1 < (l0_0.length : Int)) = true := decide_eq_true c4; clear c4; by_cases c5 : 0 ≤ x5_1
    ·rw [if_pos c5] at H; have c5b0 : decide (0 ≤ x5_1) = true := decide_eq_true c5; clear c5; by_cases c6 : ((rd_L1 l0_0 x5_1).length : Int) = a1
     ·rw [if_pos c6] at H; have c6b0 : (((rd_L1 l0_0 x5_1).length : Int) == a1) = true := beq_iff_eq.mpr c6; have c6b1 : (((rd_L1 l0_0 x5_1).length : Int) != a1) = false := bne_eq_false_iff_eq.mpr c6; clear c6; have H' := am H; clear H; have hcz7_0 : wr.cell? ⟨gb647, 0, none⟩ = some (.slice A0_0 l0_0.length c0_0) := (blk_cell BK647.out 0).trans rfl; have hfz7_0 := blk_frozen BK647.out 0; have p648 : 0 ≤ (x5_1 : Int) := of_decide_eq_true (by first | (with_reducible assumption) | assumption); have q648 : x5_1 < (l0_0.length : Int) := of_decide_eq_true (by first | (with_reducible assumption) | assumption); obtain ⟨ad648, A648_0, c648_0, e648, hx648_0, hl648_0, hi648_0⟩ := at_L1 HR0_0.out x5_1 p648 q648; cases e648; replace hx648_0 := (HB.out.cell (World.block_lt_of_cell? w _ hx648_0)).trans hx648_0; have HR648_0 := am hi648_0; have HC648_0 := am hl648_0; clear hi648_0 hl648_0; replace p648 := eq_true p648; replace q648 := eq_true q648; go_wp2; go_roundg k1
      case measure => have := HK1.out; omega
      case rel => exact ⟨(wrap64 (x5_1 + 1)), (by first | rfl | (simp; done) | (simp [*]; done)), H', ⟨by have := HK1.out; omega⟩, ⟨by exact rX BK647⟩, ⟨by exact rB HB⟩⟩
     ·rw [if_neg c6] at H; have c6b0 : (((rd_L1 l0_0 x5_1).length : Int) == a1) = false := beq_eq_false_iff_ne.mpr c6; have c6b1 : (((rd_L1 l0_0 x5_1).length : Int) != a1) = true := bne_iff_ne.mpr c6; obtain rfl := Option.some.inj H; have hcz8_0 : wr.cell? ⟨gb647, 0, none⟩ = some (.slice A0_0 l0_0.length c0_0) := (blk_cell BK647.out 0).trans rfl; have hfz8_0 := blk_frozen BK647.out 0; have p648 : 0 ≤ (x5_1 : Int) := of_decide_eq_true (by first | (with_reducible assumption) | assumption); have q648 : x5_1 < (l0_0.length : Int) := of_decide_eq_true (by first | (with_reducible assumption) | assumption); obtain ⟨ad648, A648_0, c648_0, e648, hx648_0, hl648_0, hi648_0⟩ := at_L1 HR0_0.out x5_1 p648 q648; cases e648; replace hx648_0 := (HB.out.cell (World.block_lt_of_cell? w _ hx648_0)).trans hx648_0; have HR648_0 := am hi648_0; have HC648_0 := am hl648_0; clear hi648_0 hl648_0; replace p648 := eq_true p648; replace q648 := eq_true q648; go_wp2; go_ret; exact ⟨by first | rfl | (simp [errW_none, errW_some] <;> rfl) | (simp [*, errW_none, errW_some] <;> rfl), by exact rB HB⟩
    ·rw [if_neg c5] at H; exact absurd H (by simp)
   ·rw [if_neg c4] at H; have c4b0 : decide (x5_1 < (l0_0.length : Int)) = false := decide_eq_false c4; clear c4; replace H := Option.bind_eq_some_iff.mp H; obtain ⟨t649, A90, H⟩ := H; replace H : (some t649) = some r := H; have A9 := am A90; clear A90; obtain rfl := Option.some.inj H; have hcz10_0 : wr.cell? ⟨gb647, 0, none⟩ = some (.slice A0_0 l0_0.length c0_0) := (blk_cell BK647.out 0).trans rfl; have hfz10_0 := blk_frozen BK647.out 0; go_wp2_with (first | ((with_reducible refine gate_callee (f := 109) rfl ?_); refine goesL_ (some 22) rfl rfl Try.func109 (by kernel_rfl) rfl #[.agg #[.slice A0_0 l0_0.length c0_0]] rfl (by (try simp only [mT, mC, mN]); first | done | rfl) ?_; (with_reducible refine (spec_IsMorphism.calls k1 _ _ l0_0 t649 _ ?side1 ?side2 A9.out).mono ?_); (case side1 => exact xC ((Kd.C_below HR0_0.out HB.out))); (case side2 => exact HC0_0.out); rintro e w11 ⟨rfl, hb⟩; refine ⟨_, rfl, ?_⟩; replace BK647 := am (blk_below (g := gb647) (o := .cells #[.slice A0_0 l0_0.length c0_0] 28 (0, 0)) (by exact rX BK647) hb); replace HB := am (below_step (by exact rB HB) hb); clear hb)); go_ret; exact ⟨by first | rfl | (simp [errW_none, errW_some] <;> rfl) | (simp [*, errW_none, errW_some] <;> rfl), by exact rB HB⟩
end Go.Proofs.Ytooamcjgejajeaa.M
