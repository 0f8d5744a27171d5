/- Texts of the claim on FnAvoidance, joined (part 5 of 6): walks of the functions, what they come to, and in the last part the row. No condition of mine. -/
import Derived.Test.YthkkpdgadfhijaaBFnAvoidance0
import Derived.Test.YthkkpdgadfhijaaBFnAvoidance1
import Derived.Test.YthkkpdgadfhijaaBFnAvoidance4
import Derived.Test.YthkkpdgadfhijaaBFnAvoidance3
import Derived.Test.YthkkpdgadfhijaaBFnAvoidance2
import Derived.Laws.BitsLemmas
/- Walks for this claim, written by a program of mine over the kit's print. No condition of mine. -/
namespace Go.Proofs.Ythkkpdgadfhijaa.M
open Go.RowKit Go.Proofs.Ythkkpdgadfhijaa.KW Go.Proofs.YthkkpdgadfhijaaW.PrintWords Go.Proofs.YthkkpdgadfhijaaW.PrintLast Go.Proofs.YthkkpdgadfhijaaW.PrintMore
attribute [local go_sem] max2_int min2_int max_two min_two max_three min_three max_four min_four   -- for this text's walks alone
set_option linter.unusedVariables false
set_option linter.unusedSimpArgs false

/-! ### spec_l7Word: function 116 -/
def spec_l7Word.l0 : Nat → Int → List Int → Int → List Int → Int → Int → Option (List Int × Int × Int)
 | 0, _, _, _, _, _, _ => none
 | k + 1, x1, x5, x6, x1000, x1001, x1002 => if x6 > 0 then ((spec_l1Below.f x1000 x1001 x1002 x1).bind fun bt1295 => (if x5.length < 17592186044416 then (spec_l7Word.l0 k x1 (x5 ++ [bt1295.1]) (wrap64 (x6 - 1)) x1000 bt1295.2.1 bt1295.2.2) else (none))) else (some (x5, x1001, x1002))
def spec_l7Word.f (k : Nat) (s0_0 : List Int) (s0_1 : Int) (s0_2 : Int) (a1 : Int) : Option (List Int × Int × Int) := (spec_l1Below.f s0_0 s0_1 s0_2 12).bind fun bt1292 => (spec_l7Word.l0 k a1 (([] : List Int)) bt1292.1 s0_0 bt1292.2.1 bt1292.2.2)
theorem spec_l7Word.mono_l : ∀ k, (∀ y0 y1 y2 y3 y4 y5, LeO (spec_l7Word.l0 k y0 y1 y2 y3 y4 y5) (spec_l7Word.l0 (k + 1) y0 y1 y2 y3 y4 y5))
 | 0 => fun _ _ _ _ _ _ r h => by simp [spec_l7Word.l0] at h
 | k + 1 => by
  have ih0 := spec_l7Word.mono_l k
  ·intro y0 y1 y2 y3 y4 y5
   unfold spec_l7Word.l0
   repeat' first
   | (with_reducible exact ih0 _ _ _ _ _ _)
   | (with_reducible exact LeO.refl _)
   | (with_reducible exact LeO.none _)
   | (with_reducible refine LeO.ite ?_ ?_)
   | (with_reducible refine LeO.bind ?_ (fun _ => ?_))
   | exact ih0 _ _ _ _ _ _
   | exact LeO.none _
   | refine LeO.ite ?_ ?_
   | refine LeO.bind ?_ (fun _ => ?_)
theorem spec_l7Word.mono : ∀ a0 a1 a2 a3 k, LeO (spec_l7Word.f k a0 a1 a2 a3) (spec_l7Word.f (k + 1) a0 a1 a2 a3) := by
 intro a0 a1 a2 a3 k
 have ih0 := spec_l7Word.mono_l k
 unfold spec_l7Word.f
 repeat' first
   | (with_reducible exact ih0 _ _ _ _ _ _)
   | (with_reducible exact LeO.refl _)
   | (with_reducible exact LeO.none _)
   | (with_reducible refine LeO.ite ?_ ?_)
   | (with_reducible refine LeO.bind ?_ (fun _ => ?_))
   | exact ih0 _ _ _ _ _ _
   | exact LeO.none _
   | refine LeO.ite ?_ ?_
   | refine LeO.bind ?_ (fun _ => ?_)
set_option maxHeartbeats 8000000 in
set_option maxRecDepth 100000 in
theorem spec_l7Word.calls (k : Nat) (g : Nat) (s0_0 : List Int) (s0_1 : Int) (s0_2 : Int) (a1 : Int) (r1 : List Int) (r2 : Int) (r3 : Int) (w0 w : World) (hI : IsS125 w0 w g s0_0 s0_1 s0_2) (hB : Below w0.heap.size w0 w) (h : spec_l7Word.f k s0_0 s0_1 s0_2 a1 = some (r1, r2, r3)) :
  Calls Try.prog 116 #[.pointer (some ⟨g, 0, none⟩), .int .i64 a1] w fun e w' => ∃ v0_ : Value, e = .returned (v0_) ∧ Kd.R (Kd.int .i64) 3 w' w.heap.size (fun _ => True) v0_ r1 ∧ IsS125 w0 w' g s0_0 r2 r3 ∧ Below w0.heap.size w0 w' ∧ KeepBut w w' g none := by
 have HI0 := Aside0.mk hI
 have HK := Aside0.mk (KeepBut.refl w g none)
 have HL := Aside0.mk hB.size
 clear hI
 have HW0 := Aside0.mk hB.size
 have HB := Aside0.mk hB
 clear hB
 have H : ((spec_l1Below.f s0_0 s0_1 s0_2 12).bind fun bt1292 => (spec_l7Word.l0 k a1 (([] : List Int)) bt1292.1 s0_0 bt1292.2.1 bt1292.2.2)) = some (r1, r2, r3) := h
 clear h
 obtain ⟨y1289, hy1289⟩ : ∃ y_ : List Int, y_ = (([] : List Int)) := ⟨_, rfl⟩
 replace H : ((spec_l1Below.f s0_0 s0_1 s0_2 12).bind fun bt1292 => (spec_l7Word.l0 k a1 y1289 bt1292.1 s0_0 bt1292.2.1 bt1292.2.2)) = some (r1, r2, r3) := by first | (rw [hy1289]; with_reducible exact H) | (have H2_ := (Option.bind_some _ _).symm.trans H; rw [hy1289]; with_reducible exact H2_) | (have H2_ := (Option.bind_some _ _).symm.trans H; with_reducible exact H2_) | with_reducible exact H | (rw [hy1289]; exact H) | exact H
 have Ny1289 := Aside0.mk hy1289
 clear hy1289
 replace H := Option.bind_eq_some_iff.mp H
 obtain ⟨⟨t1292, t1293, t1294⟩, A30, H⟩ := H
 replace H : (spec_l7Word.l0 k a1 y1289 t1292 s0_0 t1293 t1294) = some (r1, r2, r3) := H
 have A3 := Aside0.mk A30
 clear A30
 have H' := Aside0.mk H
 clear H
 go_enter Try.func116, Try.ntmps116
 go_wp2_with (first | ((with_reducible refine gate_dst (N := 7) rfl ?_); refine Kd.R_lit (Kd.int .i64) _ 3 ?hg (N := 7) ?hd (xs := ([] : List Int)) (inner := []) (ok := fun _ => True) (okp := fun _ => True) ?hr ?hp (fun _ hk => hk) trivial (Below.refl _ _) (Nat.le_refl _) (by simp) ?_; (case hd => rfl); (case hg => rfl); (case hr => first | (go_simp; done) | (go_simp; rfl)); (case hp => exact (Reps.none _ _)); intro v1290 w4 ho5 hb hg_ hnew_; clear hg_ hnew_; (first | rw [← Ny1289.out] at ho5 | (simp only [Int.reduceToNat] at ho5; rw [← Ny1289.out] at ho5)); have n0_ := Aside0.mk (Kd.R_lower ho5 (keep_size (w := w) (g := g) (row := none) (by repeat (first | (with_reducible first | exact HK.out | apply KeepBut.set_ | apply keep_drewN | apply keep_drew | apply keep_alloc) | exact HK.out)))); have n1_ := Aside0.mk (IsS125.below (by repeat (first | (with_reducible first | exact HI0.out | apply IsS125.alloc | apply IsS125.drewN | apply IsS125.drew | apply IsS125.set_1 | apply IsS125.set_2) | exact HI0.out)) hb); have n2_ := Aside0.mk (KeepBut.trans (by repeat (first | (with_reducible first | exact HK.out | apply KeepBut.set_ | apply keep_drewN | apply keep_drew | apply keep_alloc) | exact HK.out)) (KeepBut.of_below hb g none) (.inl rfl)); have n3_ := Aside0.mk (below_step (by repeat (first | (with_reducible first | exact HB.out | apply below_alloc | apply pw_below_drewN | apply below_drew1 | refine below_set ?_ (IsS125.ge HI0.out)) | exact HB.out)) hb); clear HI0; clear HK; clear HB; have HO1291 := n0_; have HI0 := n1_; have HK := n2_; have HB := n3_; clear n0_ n1_ n2_ n3_; clear hb ho5) | ((with_reducible refine gate_callee (f := 88) rfl ?_); refine goesL_ (some 9) rfl rfl Try.func88 (by kernel_rfl) rfl #[.pointer (some ⟨g, 0, none⟩), .int .i64 12] rfl (by (try simp only [List.map_toArray, List.map_cons, List.map_nil]); first | done | rfl | (simp only [List.length_drop, List.length_take]; rfl)) ?_; (with_reducible refine (spec_l1Below.calls g s0_0 s0_1 s0_2 12 t1292 t1293 t1294 w0 _ ?side1 ?side2 A3.out).mono ?_); (case side1 => repeat (first | (with_reducible first | exact HI0.out | apply IsS125.alloc | apply IsS125.drewN | apply IsS125.drew | apply IsS125.set_1 | apply IsS125.set_2) | exact HI0.out)); (case side2 => repeat (first | (with_reducible first | exact HB.out | apply below_alloc | apply pw_below_drewN | apply below_drew1 | refine below_set ?_ (IsS125.ge HI0.out)) | exact HB.out)); rintro e w6 ⟨rfl, hi, hb, hk⟩; refine ⟨_, rfl, ?_⟩; have n0_ := Aside0.mk (Kd.R_mono (Kd.R_keep (IsS125.apart (show IsS125 w0 _ g s0_0 s0_1 s0_2 from by repeat (first | (with_reducible first | exact HI0.out | apply IsS125.alloc | apply IsS125.drewN | apply IsS125.drew | apply IsS125.set_1 | apply IsS125.set_2) | exact HI0.out)) (by (with_reducible repeat (first | apply Kd.R_alloc | apply Kd.R_drewN | apply Kd.R_drew)); exact HO1291.out) (by decide)) hk (fun _ h => h.2)) (fun _ h => h.1)); have n1_ := Aside0.mk (KeepBut.trans (by repeat (first | (with_reducible first | exact HK.out | apply KeepBut.set_ | apply keep_drewN | apply keep_drew | apply keep_alloc) | exact HK.out)) hk (.inl rfl)); have n2_ := Aside0.mk (hb); have n3_ := Aside0.mk (hi); clear HO1291; clear HK; clear HB; clear HI0; have HO1291 := n0_; have HK := n1_; have HB := n2_; have HI0 := n3_; clear n0_ n1_ n2_ n3_; (try clear hb); (try clear hb2); (try clear hk); (try clear hi)))
 go_loopg [5, 6] k (fun kq v5 v6 w' => ∃ (x5_1 : List Int) (x6_1 : Int) (x1001_1 : Int) (x1002_1 : Int), v6 = .int .i64 x6_1 ∧ Aside0 (spec_l7Word.l0 kq a1 x5_1 x6_1 s0_0 x1001_1 x1002_1 = some (r1, r2, r3)) ∧ Aside0 (kq ≤ k) ∧ Aside0 (Kd.R (Kd.int .i64) 3 w' w.heap.size (fun _ => True) v5 x5_1) ∧ Aside0 (IsS125 w0 w' g s0_0 x1001_1 x1002_1) ∧ Aside0 (KeepBut w w' g none) ∧ Aside0 (Below w0.heap.size w0 w'))
 case atStart => exact ⟨(y1289), (t1292), (t1293), (t1294), (by first | rfl | (simp; done) | (simp [*]; done)), H', ⟨Nat.le_refl _⟩, ⟨by (with_reducible repeat (first | apply Kd.R_alloc | apply Kd.R_drewN | apply Kd.R_drew)); exact HO1291.out⟩, ⟨by repeat (first | (with_reducible first | exact HI0.out | apply IsS125.alloc | apply IsS125.drewN | apply IsS125.drew | apply IsS125.set_1 | apply IsS125.set_2) | exact HI0.out)⟩, ⟨by repeat (first | (with_reducible first | exact HK.out | apply KeepBut.set_ | apply keep_drewN | apply keep_drew | apply keep_alloc) | exact HK.out)⟩, ⟨by repeat (first | (with_reducible first | exact HB.out | apply below_alloc | apply pw_below_drewN | apply below_drew1 | refine below_set ?_ (IsS125.ge HI0.out)) | exact HB.out)⟩⟩
 case round =>
  clear H'
  try clear c1
  try clear p2
  obtain ⟨x5_1, x6_1, x1001_1, x1002_1, rfl, HA, HK1, HO_5, HI0, HK, HB⟩ := hrel
  cases gk with
  | zero => exact absurd HA.out (by simp [spec_l7Word.l0])
  | succ k1 =>
   have H := HA.out
   clear HA
   simp only [spec_l7Word.l0] at H
   by_cases c7 : x6_1 > 0
   ·rw [if_pos c7] at H
    have c7b0 : decide (0 < x6_1) = true := decide_eq_true c7
    clear c7
    replace H := Option.bind_eq_some_iff.mp H
    obtain ⟨⟨t1295, t1296, t1297⟩, A80, H⟩ := H
    replace H : (if x5_1.length < 17592186044416 then (spec_l7Word.l0 k1 a1 (x5_1 ++ [t1295]) (wrap64 (x6_1 - 1)) s0_0 t1296 t1297) else (none)) = some (r1, r2, r3) := H
    have A8 := Aside0.mk A80
    clear A80
    by_cases c9 : x5_1.length < 17592186044416
    ·rw [if_pos c9] at H
     have LMc9 := Aside0.mk c9
     clear c9
     obtain ⟨y1298, hy1298⟩ : ∃ y_ : List Int, y_ = (x5_1 ++ [t1295]) := ⟨_, rfl⟩
     replace H : (spec_l7Word.l0 k1 a1 y1298 (wrap64 (x6_1 - 1)) s0_0 t1296 t1297) = some (r1, r2, r3) := by first | (rw [hy1298]; with_reducible exact H) | (have H2_ := (Option.bind_some _ _).symm.trans H; rw [hy1298]; with_reducible exact H2_) | (have H2_ := (Option.bind_some _ _).symm.trans H; with_reducible exact H2_) | with_reducible exact H | (rw [hy1298]; exact H) | exact H
     have Ny1298 := Aside0.mk hy1298
     clear hy1298
     have H' := Aside0.mk H
     clear H
     go_wp2_with (first | ((with_reducible refine gate_callee (f := 88) rfl ?_); refine goesL_ (some 17) rfl rfl Try.func88 (by kernel_rfl) rfl #[.pointer (some ⟨g, 0, none⟩), .int .i64 a1] rfl (by (try simp only [List.map_toArray, List.map_cons, List.map_nil]); first | done | rfl | (simp only [List.length_drop, List.length_take]; rfl)) ?_; (with_reducible refine (spec_l1Below.calls g s0_0 x1001_1 x1002_1 a1 t1295 t1296 t1297 w0 _ ?side1 ?side2 A8.out).mono ?_); (case side1 => repeat (first | (with_reducible first | exact HI0.out | apply IsS125.alloc | apply IsS125.drewN | apply IsS125.drew | apply IsS125.set_1 | apply IsS125.set_2) | exact HI0.out)); (case side2 => repeat (first | (with_reducible first | exact HB.out | apply below_alloc | apply pw_below_drewN | apply below_drew1 | refine below_set ?_ (IsS125.ge HI0.out)) | exact HB.out)); rintro e w10 ⟨rfl, hi, hb, hk⟩; refine ⟨_, rfl, ?_⟩; have n0_ := Aside0.mk (Kd.R_mono (Kd.R_keep (IsS125.apart (show IsS125 w0 _ g s0_0 x1001_1 x1002_1 from by repeat (first | (with_reducible first | exact HI0.out | apply IsS125.alloc | apply IsS125.drewN | apply IsS125.drew | apply IsS125.set_1 | apply IsS125.set_2) | exact HI0.out)) (by (with_reducible repeat (first | apply Kd.R_alloc | apply Kd.R_drewN | apply Kd.R_drew)); exact HO_5.out) (by decide)) hk (fun _ h => h.2)) (fun _ h => h.1)); have n1_ := Aside0.mk (KeepBut.trans (by repeat (first | (with_reducible first | exact HK.out | apply KeepBut.set_ | apply keep_drewN | apply keep_drew | apply keep_alloc) | exact HK.out)) hk (.inl rfl)); have n2_ := Aside0.mk (hb); have n3_ := Aside0.mk (hi); clear HO_5; clear HK; clear HB; clear HI0; have HO_5 := n0_; have HK := n1_; have HB := n2_; have HI0 := n3_; clear n0_ n1_ n2_ n3_; (try clear hb); (try clear hb2); (try clear hk); (try clear hi)) | ((with_reducible refine gate_builtin (b := .append) (xs := #[.tmp 14, .tmp 18]) rfl ?_); at_builtin; refine Kd.R_append (Kd.int .i64) w.heap.size rfl (.tmp 14) (.tmp 18) 22 3 (.int .i64 0) 8 rfl Try.underlying22 info3 rfl (by decide) (by omega) u5 x5_1 t1295 [.int .i64 t1295] (fun _ => True) (fun _ => False) rfl rfl ?aP (fun _ hk => hk.elim) ?aF ?aO (Below.refl _ _) ?aS ?aL ?_; (case aP => exact rfl); (case aF => exact (fun _ _ => trivial)); (case aO => exact (by (with_reducible repeat (first | apply Kd.R_alloc | apply Kd.R_drewN | apply Kd.R_drew)); exact HO_5.out)); (case aS => exact (keep_size (w := w) (g := g) (row := none) (by repeat (first | (with_reducible first | exact HK.out | apply KeepBut.set_ | apply keep_drewN | apply keep_drew | apply keep_alloc) | exact HK.out)))); (case aL => have := LMc9.out; omega); intro v1299 w11 ho hb hg hat; rw [← Ny1298.out] at ho; have n0_ := Aside0.mk (IsS125.grown (by repeat (first | (with_reducible first | exact HI0.out | apply IsS125.alloc | apply IsS125.drewN | apply IsS125.drew | apply IsS125.set_1 | apply IsS125.set_2) | exact HI0.out)) hg (IsS125.own_ne HI0.out HO_5.out (by decide))); have n1_ := Aside0.mk (below_weaken (by repeat (first | (with_reducible first | exact HB.out | apply below_alloc | apply pw_below_drewN | apply below_drew1 | refine below_set ?_ (IsS125.ge HI0.out)) | exact HB.out)) HL.out hb); have n2_ := Aside0.mk (KeepBut.trans (by repeat (first | (with_reducible first | exact HK.out | apply KeepBut.set_ | apply keep_drewN | apply keep_drew | apply keep_alloc) | exact HK.out)) (KeepBut.of_grown hg g) (Kd.R_base2 HO_5.out)); have n3_ := Aside0.mk (ho); clear HI0; clear HB; clear HK; clear HO_5; have HI0 := n0_; have HB := n1_; have HK := n2_; have HO1300 := n3_; clear n0_ n1_ n2_ n3_; clear ho hb hg hat))
     go_roundg k1
     case measure => have := HK1.out; omega
     case rel => exact ⟨(y1298), (wrap64 (x6_1 - 1)), (t1296), (t1297), (by first | rfl | (simp; done) | (simp [*]; done)), H', ⟨by have := HK1.out; omega⟩, ⟨by (with_reducible repeat (first | apply Kd.R_alloc | apply Kd.R_drewN | apply Kd.R_drew)); exact HO1300.out⟩, ⟨by repeat (first | (with_reducible first | exact HI0.out | apply IsS125.alloc | apply IsS125.drewN | apply IsS125.drew | apply IsS125.set_1 | apply IsS125.set_2) | exact HI0.out)⟩, ⟨by repeat (first | (with_reducible first | exact HK.out | apply KeepBut.set_ | apply keep_drewN | apply keep_drew | apply keep_alloc) | exact HK.out)⟩, ⟨by repeat (first | (with_reducible first | exact HB.out | apply below_alloc | apply pw_below_drewN | apply below_drew1 | refine below_set ?_ (IsS125.ge HI0.out)) | exact HB.out)⟩⟩
    ·rw [if_neg c9] at H
     exact absurd H (by simp)
   ·rw [if_neg c7] at H
    have c7b0 : decide (0 < x6_1) = false := decide_eq_false c7
    clear c7
    simp only [Option.some.injEq, Prod.mk.injEq] at H
    obtain ⟨rfl, rfl, rfl⟩ := H
    go_wp2
    go_ret
    exact ⟨_, by first | rfl | (simp [errW_none, errW_some] <;> rfl) | (simp [*, errW_none, errW_some] <;> rfl), by (with_reducible repeat (first | apply Kd.R_alloc | apply Kd.R_drewN | apply Kd.R_drew)); exact HO_5.out, by repeat (first | (with_reducible first | exact HI0.out | apply IsS125.alloc | apply IsS125.drewN | apply IsS125.drew | apply IsS125.set_1 | apply IsS125.set_2) | exact HI0.out), by repeat (first | (with_reducible first | exact HB.out | apply below_alloc | apply pw_below_drewN | apply below_drew1 | refine below_set ?_ (IsS125.ge HI0.out)) | exact HB.out), by repeat (first | (with_reducible first | exact HK.out | apply KeepBut.set_ | apply keep_drewN | apply keep_drew | apply keep_alloc) | exact HK.out)⟩

end Go.Proofs.Ythkkpdgadfhijaa.M
/- Walks for this claim, written by a program of mine over the kit's print. No condition of mine. -/
namespace Go.Proofs.Ythkkpdgadfhijaa.M
open Go.RowKit Go.Proofs.Ythkkpdgadfhijaa.KW Go.Proofs.YthkkpdgadfhijaaW.PrintWords Go.Proofs.YthkkpdgadfhijaaW.PrintLast Go.Proofs.YthkkpdgadfhijaaW.PrintMore
attribute [local go_sem] max2_int min2_int max_two min_two max_three min_three max_four min_four   -- for this text's walks alone
set_option linter.unusedVariables false
set_option linter.unusedSimpArgs false

/-! ### spec_DrawExtensionsOf: function 58 -/
def spec_DrawExtensionsOf.f (k : Nat) (l0 : List Int) : Option (List Int × Int × List Int) := (spec_l1New.f k l0).bind fun bt1301 => ((spec_l1Below.f bt1301.1 bt1301.2.1 bt1301.2.2 3).bind fun bt1305 => ((spec_l7Word.f k bt1301.1 bt1305.2.1 bt1305.2.2 (wrap64 (1 + bt1305.1))).bind fun bt1308 => ((spec_l28Pattern.f bt1301.1 bt1308.2.1 bt1308.2.2).bind fun bt1313 => (some (bt1308.1, wrap64 (1 + bt1305.1), bt1313.1)))))
theorem spec_DrawExtensionsOf.mono : ∀ a0 k, LeO (spec_DrawExtensionsOf.f k a0) (spec_DrawExtensionsOf.f (k + 1) a0) := by
 intro a0 k
 unfold spec_DrawExtensionsOf.f
 repeat' first
   | (with_reducible exact spec_l1New.mono _ _)
   | (with_reducible exact spec_l7Word.mono _ _ _ _ _)
   | (with_reducible exact LeO.refl _)
   | (with_reducible exact LeO.none _)
   | (with_reducible refine LeO.ite ?_ ?_)
   | (with_reducible refine LeO.bind ?_ (fun _ => ?_))
   | exact spec_l1New.mono _ _
   | exact spec_l7Word.mono _ _ _ _ _
   | exact LeO.none _
   | refine LeO.ite ?_ ?_
   | refine LeO.bind ?_ (fun _ => ?_)
set_option maxHeartbeats 8000000 in
set_option maxRecDepth 100000 in
theorem spec_DrawExtensionsOf.calls (k : Nat) (A0 : Option Addr) (c0 : Nat) (l0 : List Int) (r1 : List Int) (r2 : Int) (r3 : List Int) (w : World) (hr0 : Kd.C (Kd.int .u8) w A0 l0.length l0) (hc0 : l0.length ≤ c0) (h : spec_DrawExtensionsOf.f k l0 = some (r1, r2, r3)) :
  Calls Try.prog 58 #[.slice A0 l0.length c0] w fun e w' => ∃ v0_ v2_ : Value, e = .returned (.tuple #[v0_, .int .i64 r2, v2_]) ∧ Kd.R (Kd.int .i64) 3 w' w.heap.size (fun k_ => some k_ ≠ (v2_ : Value).ownBlock) v0_ r1 ∧ Kd.R (Kd.int .i64) 3 w' w.heap.size (fun k_ => some k_ ≠ (v0_ : Value).ownBlock) v2_ r3 ∧ Below w.heap.size w w' := by
 have HR0 := Aside0.mk hr0
 have HC0 := Aside0.mk hc0
 clear hr0 hc0
 have HB := Aside0.mk (Below.refl w.heap.size w)
 have H : ((spec_l1New.f k l0).bind fun bt1301 => ((spec_l1Below.f bt1301.1 bt1301.2.1 bt1301.2.2 3).bind fun bt1305 => ((spec_l7Word.f k bt1301.1 bt1305.2.1 bt1305.2.2 (wrap64 (1 + bt1305.1))).bind fun bt1308 => ((spec_l28Pattern.f bt1301.1 bt1308.2.1 bt1308.2.2).bind fun bt1313 => (some (bt1308.1, wrap64 (1 + bt1305.1), bt1313.1)))))) = some (r1, r2, r3) := h
 clear h
 replace H := Option.bind_eq_some_iff.mp H
 obtain ⟨⟨t1301, t1302, t1303⟩, A20, H⟩ := H
 replace H : ((spec_l1Below.f t1301 t1302 t1303 3).bind fun bt1305 => ((spec_l7Word.f k t1301 bt1305.2.1 bt1305.2.2 (wrap64 (1 + bt1305.1))).bind fun bt1308 => ((spec_l28Pattern.f t1301 bt1308.2.1 bt1308.2.2).bind fun bt1313 => (some (bt1308.1, wrap64 (1 + bt1305.1), bt1313.1))))) = some (r1, r2, r3) := H
 have A2 := Aside0.mk A20
 clear A20
 replace H := Option.bind_eq_some_iff.mp H
 obtain ⟨⟨t1305, t1306, t1307⟩, A30, H⟩ := H
 replace H : ((spec_l7Word.f k t1301 t1306 t1307 (wrap64 (1 + t1305))).bind fun bt1308 => ((spec_l28Pattern.f t1301 bt1308.2.1 bt1308.2.2).bind fun bt1313 => (some (bt1308.1, wrap64 (1 + t1305), bt1313.1)))) = some (r1, r2, r3) := H
 have A3 := Aside0.mk A30
 clear A30
 replace H := Option.bind_eq_some_iff.mp H
 obtain ⟨⟨t1308, t1311, t1312⟩, A40, H⟩ := H
 replace H : ((spec_l28Pattern.f t1301 t1311 t1312).bind fun bt1313 => (some (t1308, wrap64 (1 + t1305), bt1313.1))) = some (r1, r2, r3) := H
 have A4 := Aside0.mk A40
 clear A40
 replace H := Option.bind_eq_some_iff.mp H
 obtain ⟨⟨t1313, t1316, t1317⟩, A50, H⟩ := H
 replace H : (some (t1308, wrap64 (1 + t1305), t1313)) = some (r1, r2, r3) := H
 have A5 := Aside0.mk A50
 clear A50
 simp only [Option.some.injEq, Prod.mk.injEq] at H
 obtain ⟨rfl, rfl, rfl⟩ := H
 go_enter Try.func58, Try.ntmps58
 go_wp2_with (first | ((with_reducible refine gate_callee (f := 87) rfl ?_); refine goesL_ (some 9) rfl rfl Try.func87 (by kernel_rfl) rfl #[.slice A0 l0.length c0] rfl (by (try simp only [List.map_toArray, List.map_cons, List.map_nil]); first | done | rfl | (simp only [List.length_drop, List.length_take]; rfl)) ?_; (with_reducible refine (spec_l1New.calls k _ _ l0 t1301 t1302 t1303 w _ ?side1 ?side2 ?side3 A2.out).mono ?_); (case side1 => repeat (first | (with_reducible first | exact HB.out | apply below_alloc | apply pw_below_drewN | apply below_drew1) | exact HB.out)); (case side2 => exact HR0.out); (case side3 => exact HC0.out); rintro e w6 ⟨g1304, rfl, hi, hb, hb2⟩; refine ⟨_, rfl, ?_⟩; have n0_ := Aside0.mk (hb); have n1_ := Aside0.mk (hi); clear HB; have HB := n0_; have HI1304 := n1_; clear n0_ n1_; (try clear hb); (try clear hb2); (try clear hk); (try clear hi)) | ((with_reducible refine gate_callee (f := 88) rfl ?_); refine goesL_ (some 11) rfl rfl Try.func88 (by kernel_rfl) rfl #[.pointer (some ⟨g1304, 0, none⟩), .int .i64 3] rfl (by (try simp only [List.map_toArray, List.map_cons, List.map_nil]); first | done | rfl | (simp only [List.length_drop, List.length_take]; rfl)) ?_; (with_reducible refine (spec_l1Below.calls g1304 t1301 t1302 t1303 3 t1305 t1306 t1307 w _ ?side1 ?side2 A3.out).mono ?_); (case side1 => repeat (first | (with_reducible first | exact HI1304.out | apply IsS125.alloc | apply IsS125.drewN | apply IsS125.drew | apply IsS125.set_1 | apply IsS125.set_2) | exact HI1304.out)); (case side2 => repeat (first | (with_reducible first | exact HB.out | apply below_alloc | apply pw_below_drewN | apply below_drew1 | refine below_set ?_ (IsS125.ge HI1304.out)) | exact HB.out)); rintro e w7 ⟨rfl, hi, hb, hk⟩; refine ⟨_, rfl, ?_⟩; have n0_ := Aside0.mk (hb); have n1_ := Aside0.mk (hi); clear HB; clear HI1304; have HB := n0_; have HI1304 := n1_; clear n0_ n1_; (try clear hb); (try clear hb2); (try clear hk); (try clear hi)) | ((with_reducible refine gate_callee (f := 116) rfl ?_); refine goesL_ (some 15) rfl rfl Try.func116 (by kernel_rfl) rfl #[.pointer (some ⟨g1304, 0, none⟩), .int .i64 (wrap64 (1 + t1305))] rfl (by (try simp only [List.map_toArray, List.map_cons, List.map_nil]); first | done | rfl | (simp only [List.length_drop, List.length_take]; rfl)) ?_; (with_reducible refine (spec_l7Word.calls k g1304 t1301 t1306 t1307 (wrap64 (1 + t1305)) t1308 t1311 t1312 w _ ?side1 ?side2 A4.out).mono ?_); (case side1 => repeat (first | (with_reducible first | exact HI1304.out | apply IsS125.alloc | apply IsS125.drewN | apply IsS125.drew | apply IsS125.set_1 | apply IsS125.set_2) | exact HI1304.out)); (case side2 => repeat (first | (with_reducible first | exact HB.out | apply below_alloc | apply pw_below_drewN | apply below_drew1 | refine below_set ?_ (IsS125.ge HI1304.out)) | exact HB.out)); rintro e w8 ⟨v1309, rfl, ho0, hi, hb, hk⟩; refine ⟨_, rfl, ?_⟩; have n0_ := Aside0.mk (Kd.R_lower ho0 (below_size (by repeat (first | (with_reducible first | exact HB.out | apply below_alloc | apply pw_below_drewN | apply below_drew1 | refine below_set ?_ (IsS125.ge HI1304.out)) | exact HB.out)))); have n1_ := Aside0.mk (hb); have n2_ := Aside0.mk (hi); clear HB; clear HI1304; have HO1310 := n0_; have HB := n1_; have HI1304 := n2_; clear n0_ n1_ n2_; (try clear hb); (try clear hb2); (try clear hk); (try clear hi); (try clear ho0)) | ((with_reducible refine gate_callee (f := 117) rfl ?_); refine goesL_ (some 19) rfl rfl Try.func117 (by kernel_rfl) rfl #[.pointer (some ⟨g1304, 0, none⟩)] rfl (by (try simp only [List.map_toArray, List.map_cons, List.map_nil]); first | done | rfl | (simp only [List.length_drop, List.length_take]; rfl)) ?_; (with_reducible refine (spec_l28Pattern.calls g1304 t1301 t1311 t1312 t1313 t1316 t1317 w _ ?side1 ?side2 A5.out).mono ?_); (case side1 => repeat (first | (with_reducible first | exact HI1304.out | apply IsS125.alloc | apply IsS125.drewN | apply IsS125.drew | apply IsS125.set_1 | apply IsS125.set_2) | exact HI1304.out)); (case side2 => repeat (first | (with_reducible first | exact HB.out | apply below_alloc | apply pw_below_drewN | apply below_drew1 | refine below_set ?_ (IsS125.ge HI1304.out)) | exact HB.out)); rintro e w9 ⟨v1314, rfl, ho0, hi, hb, hk⟩; refine ⟨_, rfl, ?_⟩; have n0_ := Aside0.mk (Kd.R_mono (Kd.R_told (Kd.R_oldK (IsS125.apart (show IsS125 w _ g1304 t1301 t1311 t1312 from by repeat (first | (with_reducible first | exact HI1304.out | apply IsS125.alloc | apply IsS125.drewN | apply IsS125.drew | apply IsS125.set_1 | apply IsS125.set_2) | exact HI1304.out)) (by (with_reducible repeat (first | apply Kd.R_alloc | apply Kd.R_drewN | apply Kd.R_drew)); exact HO1310.out) (by decide)) hk) (Kd.R_base ho0)) (fun _ h_ => h_.1)); have n1_ := Aside0.mk (Kd.R_lower (Kd.R_new' ho0 (Kd.R_lt (by (with_reducible repeat (first | apply Kd.R_alloc | apply Kd.R_drewN | apply Kd.R_drew)); exact HO1310.out))) (below_size (by repeat (first | (with_reducible first | exact HB.out | apply below_alloc | apply pw_below_drewN | apply below_drew1 | refine below_set ?_ (IsS125.ge HI1304.out)) | exact HB.out)))); have n2_ := Aside0.mk (hb); have n3_ := Aside0.mk (hi); clear HO1310; clear HB; clear HI1304; have HO1310 := n0_; have HO1315 := n1_; have HB := n2_; have HI1304 := n3_; clear n0_ n1_ n2_ n3_; (try clear hb); (try clear hb2); (try clear hk); (try clear hi); (try clear ho0)))
 go_ret3
 exact ⟨_, _, by first | rfl | (simp [errW_none, errW_some] <;> rfl) | (simp [*, errW_none, errW_some] <;> rfl), by (with_reducible repeat (first | apply Kd.R_alloc | apply Kd.R_drewN | apply Kd.R_drew)); exact Kd.R_mono HO1310.out (fun _ hk => hk.2), by (with_reducible repeat (first | apply Kd.R_alloc | apply Kd.R_drewN | apply Kd.R_drew)); exact Kd.R_mono HO1315.out (fun _ hk => hk.2), by repeat (first | (with_reducible first | exact HB.out | apply below_alloc | apply pw_below_drewN | apply below_drew1 | refine below_set ?_ (IsS125.ge HI1304.out)) | exact HB.out)⟩

end Go.Proofs.Ythkkpdgadfhijaa.M
/- Walks for this claim, written by a program of mine over the kit's print. No condition of mine. -/
namespace Go.Proofs.Ythkkpdgadfhijaa.M
noncomputable section
open Go.RowKit Go.Proofs.Ythkkpdgadfhijaa.KW Go.Proofs.YthkkpdgadfhijaaW.PrintWords Go.Proofs.YthkkpdgadfhijaaW.PrintLast Go.Proofs.YthkkpdgadfhijaaW.PrintMore
attribute [local go_sem] max2_int min2_int max_two min_two max_three min_three max_four min_four   -- for this text's walks alone
set_option linter.unusedVariables false
set_option linter.unusedSimpArgs false

/-! ### laws_FnAvoidance: function 11 -/
mutual
def laws_FnAvoidance.j0 : Nat → List Int → Int → List Int → Int → Bool → List Int → Bool → List Int → Bool → Option (Bool)
 | 0, _, _, _, _, _, _, _, _, _ => none
 | k + 1, x0, x3, x4, x5, x7, x8, x11, x12, x93 => if x93 = true then (some false) else (if x7 = true then (if (x8.length : Int) > x5 then (laws_FnAvoidance.j1 k x0 x3 x4 x5 x11 true) else ((impl_AvoidsPattern.f k x8 x4).bind fun t1345 => (if t1345 = true then ((spec_IsWord.f k x8 x3).bind fun t1346 => (if t1346 = true then (if x11 = true then (if (x12.length : Int) = x5 then ((laws_sameInts.f k x12 x8).bind fun t1347 => (laws_FnAvoidance.j1 k x0 x3 x4 x5 x11 (!t1347))) else (laws_FnAvoidance.j1 k x0 x3 x4 x5 x11 true)) else (laws_FnAvoidance.j1 k x0 x3 x4 x5 x11 false)) else (laws_FnAvoidance.j1 k x0 x3 x4 x5 x11 true))) else (laws_FnAvoidance.j1 k x0 x3 x4 x5 x11 true)))) else (if x11 = true then (if (x12.length : Int) = x5 then ((laws_sameInts.f k x12 x8).bind fun t1348 => (laws_FnAvoidance.j1 k x0 x3 x4 x5 x11 (!t1348))) else (laws_FnAvoidance.j1 k x0 x3 x4 x5 x11 true)) else (laws_FnAvoidance.j1 k x0 x3 x4 x5 x11 false)))
def laws_FnAvoidance.j1 : Nat → List Int → Int → List Int → Int → Bool → Bool → Option (Bool)
 | 0, _, _, _, _, _, _ => none
 | k + 1, x0, x3, x4, x5, x11, x127 => if x127 = true then (some false) else ((impl_CountAvoiding.f k x3 x4 x5).bind fun t1349 => ((spec_CountAvoiding.f k x3 x4 x5).bind fun t1350 => (if t1349 = t1350 then (if t1349 = 0 then (if x11 = true then (laws_FnAvoidance.j2 k x0 x3 x4 x5 t1349 true) else (laws_FnAvoidance.j2 k x0 x3 x4 x5 t1349 false)) else (if x11 = true then (if t1349 ≥ 0 then (laws_FnAvoidance.j2 k x0 x3 x4 x5 t1349 (decide (t1349 < 1))) else (laws_FnAvoidance.j2 k x0 x3 x4 x5 t1349 false)) else (laws_FnAvoidance.j2 k x0 x3 x4 x5 t1349 false))) else (laws_FnAvoidance.j2 k x0 x3 x4 x5 t1349 true))))
def laws_FnAvoidance.j2 : Nat → List Int → Int → List Int → Int → Int → Bool → Option (Bool)
 | 0, _, _, _, _, _, _ => none
 | k + 1, x0, x3, x4, x5, x14, x155 => if x155 = true then (some false) else (if x14 > 0 then ((laws_sameInts.f k x4 (([0, 0] : List Int))).bind fun t1354 => (if t1354 = true then (if x3 ≤ 3 then ((impl_CountSquareFree.f k x3 x5).bind fun t1355 => (laws_FnAvoidance.j3 k x0 (x14 != t1355))) else (laws_FnAvoidance.j3 k x0 false)) else (laws_FnAvoidance.j3 k x0 false))) else (laws_FnAvoidance.j3 k x0 false))
def laws_FnAvoidance.j3 : Nat → List Int → Bool → Option (Bool)
 | 0, _, _ => none
 | k + 1, x0, x173 => if x173 = true then (some false) else ((spec_DrawExtensionsOf.f k x0).bind fun bt1356 => ((impl_ExtensionsOf.f k bt1356.1 bt1356.2.1 bt1356.2.2).bind fun t1363 => ((spec_ExtensionsOf.f k bt1356.1 bt1356.2.1 bt1356.2.2).bind fun t1366 => ((laws_sameInts.f k t1363 t1366).bind fun t1369 => (some t1369)))))
end
def laws_FnAvoidance.f (k : Nat) (l0 : List Int) : Option (Bool) := (laws_big.f l0).bind fun t1318 => (if t1318 = true then (some true) else ((spec_DrawLongestAvoiding.f k l0).bind fun bt1319 => ((impl_LongestAvoiding.f k bt1319.1 bt1319.2.1 bt1319.2.2).bind fun bt1324 => ((spec_LongestAvoiding.f k bt1319.1 bt1319.2.1 bt1319.2.2).bind fun bt1328 => ((impl_LeastAvoiding.f k bt1319.1 bt1319.2.1 bt1319.2.2).bind fun bt1332 => ((spec_LeastAvoiding.f k bt1319.1 bt1319.2.1 bt1319.2.2).bind fun bt1336 => (if (bt1324.2 != bt1328.2) = true then (laws_FnAvoidance.j0 k l0 bt1319.1 bt1319.2.1 bt1319.2.2 bt1324.2 bt1328.1 bt1332.2 bt1336.1 true) else ((laws_sameInts.f k bt1324.1 bt1328.1).bind fun t1340 => (if t1340 = true then (if (bt1332.2 != bt1336.2) = true then (laws_FnAvoidance.j0 k l0 bt1319.1 bt1319.2.1 bt1319.2.2 bt1324.2 bt1328.1 bt1332.2 bt1336.1 true) else ((laws_sameInts.f k bt1332.1 bt1336.1).bind fun t1341 => (if t1341 = true then ((impl_IsUnavoidable.f k bt1319.1 bt1319.2.1 bt1319.2.2).bind fun t1342 => ((spec_IsUnavoidable.f k bt1319.1 bt1319.2.1 bt1319.2.2).bind fun t1343 => (if (t1342 != t1343) = true then (laws_FnAvoidance.j0 k l0 bt1319.1 bt1319.2.1 bt1319.2.2 bt1324.2 bt1328.1 bt1332.2 bt1336.1 true) else ((impl_IsUnavoidable.f k bt1319.1 bt1319.2.1 bt1319.2.2).bind fun t1344 => (if t1344 = true then (laws_FnAvoidance.j0 k l0 bt1319.1 bt1319.2.1 bt1319.2.2 bt1324.2 bt1328.1 bt1332.2 bt1336.1 bt1332.2) else (laws_FnAvoidance.j0 k l0 bt1319.1 bt1319.2.1 bt1319.2.2 bt1324.2 bt1328.1 bt1332.2 bt1336.1 false)))))) else (laws_FnAvoidance.j0 k l0 bt1319.1 bt1319.2.1 bt1319.2.2 bt1324.2 bt1328.1 bt1332.2 bt1336.1 true)))) else (laws_FnAvoidance.j0 k l0 bt1319.1 bt1319.2.1 bt1319.2.2 bt1324.2 bt1328.1 bt1332.2 bt1336.1 true))))))))))
theorem laws_FnAvoidance.mono_l : ∀ k, (∀ y0 y1 y2 y3 y4 y5 y6 y7 y8, LeO (laws_FnAvoidance.j0 k y0 y1 y2 y3 y4 y5 y6 y7 y8) (laws_FnAvoidance.j0 (k + 1) y0 y1 y2 y3 y4 y5 y6 y7 y8)) ∧ (∀ y0 y1 y2 y3 y4 y5, LeO (laws_FnAvoidance.j1 k y0 y1 y2 y3 y4 y5) (laws_FnAvoidance.j1 (k + 1) y0 y1 y2 y3 y4 y5)) ∧ (∀ y0 y1 y2 y3 y4 y5, LeO (laws_FnAvoidance.j2 k y0 y1 y2 y3 y4 y5) (laws_FnAvoidance.j2 (k + 1) y0 y1 y2 y3 y4 y5)) ∧ (∀ y0 y1, LeO (laws_FnAvoidance.j3 k y0 y1) (laws_FnAvoidance.j3 (k + 1) y0 y1))
 | 0 => ⟨fun _ _ _ _ _ _ _ _ _ r h => by simp [laws_FnAvoidance.j0] at h, fun _ _ _ _ _ _ r h => by simp [laws_FnAvoidance.j1] at h, fun _ _ _ _ _ _ r h => by simp [laws_FnAvoidance.j2] at h, fun _ _ r h => by simp [laws_FnAvoidance.j3] at h⟩
 | k + 1 => by
  obtain ⟨ih0, ih1, ih2, ih3⟩ := laws_FnAvoidance.mono_l k
  refine ⟨?_, ?_, ?_, ?_⟩
  ·intro y0 y1 y2 y3 y4 y5 y6 y7 y8
   unfold laws_FnAvoidance.j0
   repeat' first
   | (with_reducible exact ih0 _ _ _ _ _ _ _ _ _)
   | (with_reducible exact ih1 _ _ _ _ _ _)
   | (with_reducible exact ih2 _ _ _ _ _ _)
   | (with_reducible exact ih3 _ _)
   | (with_reducible exact impl_AvoidsPattern.mono _ _ _)
   | (with_reducible exact impl_CountAvoiding.mono _ _ _ _)
   | (with_reducible exact impl_CountSquareFree.mono _ _ _)
   | (with_reducible exact impl_ExtensionsOf.mono _ _ _ _)
   | (with_reducible exact impl_IsUnavoidable.mono _ _ _ _)
   | (with_reducible exact impl_LeastAvoiding.mono _ _ _ _)
   | (with_reducible exact impl_LongestAvoiding.mono _ _ _ _)
   | (with_reducible exact laws_sameInts.mono _ _ _)
   | (with_reducible exact spec_CountAvoiding.mono _ _ _ _)
   | (with_reducible exact spec_DrawExtensionsOf.mono _ _)
   | (with_reducible exact spec_DrawLongestAvoiding.mono _ _)
   | (with_reducible exact spec_ExtensionsOf.mono _ _ _ _)
   | (with_reducible exact spec_IsUnavoidable.mono _ _ _ _)
   | (with_reducible exact spec_IsWord.mono _ _ _)
   | (with_reducible exact spec_LeastAvoiding.mono _ _ _ _)
   | (with_reducible exact spec_LongestAvoiding.mono _ _ _ _)
   | (with_reducible exact LeO.refl _)
   | (with_reducible exact LeO.none _)
   | (with_reducible refine LeO.ite ?_ ?_)
   | (with_reducible refine LeO.bind ?_ (fun _ => ?_))
   | exact ih0 _ _ _ _ _ _ _ _ _
   | exact ih1 _ _ _ _ _ _
   | exact ih2 _ _ _ _ _ _
   | exact ih3 _ _
   | exact impl_AvoidsPattern.mono _ _ _
   | exact impl_CountAvoiding.mono _ _ _ _
   | exact impl_CountSquareFree.mono _ _ _
   | exact impl_ExtensionsOf.mono _ _ _ _
   | exact impl_IsUnavoidable.mono _ _ _ _
   | exact impl_LeastAvoiding.mono _ _ _ _
   | exact impl_LongestAvoiding.mono _ _ _ _
   | exact laws_sameInts.mono _ _ _
   | exact spec_CountAvoiding.mono _ _ _ _
   | exact spec_DrawExtensionsOf.mono _ _
   | exact spec_DrawLongestAvoiding.mono _ _
   | exact spec_ExtensionsOf.mono _ _ _ _
   | exact spec_IsUnavoidable.mono _ _ _ _
   | exact spec_IsWord.mono _ _ _
   | exact spec_LeastAvoiding.mono _ _ _ _
   | exact spec_LongestAvoiding.mono _ _ _ _
   | exact LeO.none _
   | refine LeO.ite ?_ ?_
   | refine LeO.bind ?_ (fun _ => ?_)
  ·intro y0 y1 y2 y3 y4 y5
   unfold laws_FnAvoidance.j1
   repeat' first
   | (with_reducible exact ih0 _ _ _ _ _ _ _ _ _)
   | (with_reducible exact ih1 _ _ _ _ _ _)
   | (with_reducible exact ih2 _ _ _ _ _ _)
   | (with_reducible exact ih3 _ _)
   | (with_reducible exact impl_AvoidsPattern.mono _ _ _)
   | (with_reducible exact impl_CountAvoiding.mono _ _ _ _)
   | (with_reducible exact impl_CountSquareFree.mono _ _ _)
   | (with_reducible exact impl_ExtensionsOf.mono _ _ _ _)
   | (with_reducible exact impl_IsUnavoidable.mono _ _ _ _)
   | (with_reducible exact impl_LeastAvoiding.mono _ _ _ _)
   | (with_reducible exact impl_LongestAvoiding.mono _ _ _ _)
   | (with_reducible exact laws_sameInts.mono _ _ _)
   | (with_reducible exact spec_CountAvoiding.mono _ _ _ _)
   | (with_reducible exact spec_DrawExtensionsOf.mono _ _)
   | (with_reducible exact spec_DrawLongestAvoiding.mono _ _)
   | (with_reducible exact spec_ExtensionsOf.mono _ _ _ _)
   | (with_reducible exact spec_IsUnavoidable.mono _ _ _ _)
   | (with_reducible exact spec_IsWord.mono _ _ _)
   | (with_reducible exact spec_LeastAvoiding.mono _ _ _ _)
   | (with_reducible exact spec_LongestAvoiding.mono _ _ _ _)
   | (with_reducible exact LeO.refl _)
   | (with_reducible exact LeO.none _)
   | (with_reducible refine LeO.ite ?_ ?_)
   | (with_reducible refine LeO.bind ?_ (fun _ => ?_))
   | exact ih0 _ _ _ _ _ _ _ _ _
   | exact ih1 _ _ _ _ _ _
   | exact ih2 _ _ _ _ _ _
   | exact ih3 _ _
   | exact impl_AvoidsPattern.mono _ _ _
   | exact impl_CountAvoiding.mono _ _ _ _
   | exact impl_CountSquareFree.mono _ _ _
   | exact impl_ExtensionsOf.mono _ _ _ _
   | exact impl_IsUnavoidable.mono _ _ _ _
   | exact impl_LeastAvoiding.mono _ _ _ _
   | exact impl_LongestAvoiding.mono _ _ _ _
   | exact laws_sameInts.mono _ _ _
   | exact spec_CountAvoiding.mono _ _ _ _
   | exact spec_DrawExtensionsOf.mono _ _
   | exact spec_DrawLongestAvoiding.mono _ _
   | exact spec_ExtensionsOf.mono _ _ _ _
   | exact spec_IsUnavoidable.mono _ _ _ _
   | exact spec_IsWord.mono _ _ _
   | exact spec_LeastAvoiding.mono _ _ _ _
   | exact spec_LongestAvoiding.mono _ _ _ _
   | exact LeO.none _
   | refine LeO.ite ?_ ?_
   | refine LeO.bind ?_ (fun _ => ?_)
  ·intro y0 y1 y2 y3 y4 y5
   unfold laws_FnAvoidance.j2
   repeat' first
   | (with_reducible exact ih0 _ _ _ _ _ _ _ _ _)
   | (with_reducible exact ih1 _ _ _ _ _ _)
   | (with_reducible exact ih2 _ _ _ _ _ _)
   | (with_reducible exact ih3 _ _)
   | (with_reducible exact impl_AvoidsPattern.mono _ _ _)
   | (with_reducible exact impl_CountAvoiding.mono _ _ _ _)
   | (with_reducible exact impl_CountSquareFree.mono _ _ _)
   | (with_reducible exact impl_ExtensionsOf.mono _ _ _ _)
   | (with_reducible exact impl_IsUnavoidable.mono _ _ _ _)
   | (with_reducible exact impl_LeastAvoiding.mono _ _ _ _)
   | (with_reducible exact impl_LongestAvoiding.mono _ _ _ _)
   | (with_reducible exact laws_sameInts.mono _ _ _)
   | (with_reducible exact spec_CountAvoiding.mono _ _ _ _)
   | (with_reducible exact spec_DrawExtensionsOf.mono _ _)
   | (with_reducible exact spec_DrawLongestAvoiding.mono _ _)
   | (with_reducible exact spec_ExtensionsOf.mono _ _ _ _)
   | (with_reducible exact spec_IsUnavoidable.mono _ _ _ _)
   | (with_reducible exact spec_IsWord.mono _ _ _)
   | (with_reducible exact spec_LeastAvoiding.mono _ _ _ _)
   | (with_reducible exact spec_LongestAvoiding.mono _ _ _ _)
   | (with_reducible exact LeO.refl _)
   | (with_reducible exact LeO.none _)
   | (with_reducible refine LeO.ite ?_ ?_)
   | (with_reducible refine LeO.bind ?_ (fun _ => ?_))
   | exact ih0 _ _ _ _ _ _ _ _ _
   | exact ih1 _ _ _ _ _ _
   | exact ih2 _ _ _ _ _ _
   | exact ih3 _ _
   | exact impl_AvoidsPattern.mono _ _ _
   | exact impl_CountAvoiding.mono _ _ _ _
   | exact impl_CountSquareFree.mono _ _ _
   | exact impl_ExtensionsOf.mono _ _ _ _
   | exact impl_IsUnavoidable.mono _ _ _ _
   | exact impl_LeastAvoiding.mono _ _ _ _
   | exact impl_LongestAvoiding.mono _ _ _ _
   | exact laws_sameInts.mono _ _ _
   | exact spec_CountAvoiding.mono _ _ _ _
   | exact spec_DrawExtensionsOf.mono _ _
   | exact spec_DrawLongestAvoiding.mono _ _
   | exact spec_ExtensionsOf.mono _ _ _ _
   | exact spec_IsUnavoidable.mono _ _ _ _
   | exact spec_IsWord.mono _ _ _
   | exact spec_LeastAvoiding.mono _ _ _ _
   | exact spec_LongestAvoiding.mono _ _ _ _
   | exact LeO.none _
   | refine LeO.ite ?_ ?_
   | refine LeO.bind ?_ (fun _ => ?_)
  ·intro y0 y1
   unfold laws_FnAvoidance.j3
   repeat' first
   | (with_reducible exact ih0 _ _ _ _ _ _ _ _ _)
   | (with_reducible exact ih1 _ _ _ _ _ _)
   | (with_reducible exact ih2 _ _ _ _ _ _)
   | (with_reducible exact ih3 _ _)
   | (with_reducible exact impl_AvoidsPattern.mono _ _ _)
   | (with_reducible exact impl_CountAvoiding.mono _ _ _ _)
   | (with_reducible exact impl_CountSquareFree.mono _ _ _)
   | (with_reducible exact impl_ExtensionsOf.mono _ _ _ _)
   | (with_reducible exact impl_IsUnavoidable.mono _ _ _ _)
   | (with_reducible exact impl_LeastAvoiding.mono _ _ _ _)
   | (with_reducible exact impl_LongestAvoiding.mono _ _ _ _)
   | (with_reducible exact laws_sameInts.mono _ _ _)
   | (with_reducible exact spec_CountAvoiding.mono _ _ _ _)
   | (with_reducible exact spec_DrawExtensionsOf.mono _ _)
   | (with_reducible exact spec_DrawLongestAvoiding.mono _ _)
   | (with_reducible exact spec_ExtensionsOf.mono _ _ _ _)
   | (with_reducible exact spec_IsUnavoidable.mono _ _ _ _)
   | (with_reducible exact spec_IsWord.mono _ _ _)
   | (with_reducible exact spec_LeastAvoiding.mono _ _ _ _)
   | (with_reducible exact spec_LongestAvoiding.mono _ _ _ _)
   | (with_reducible exact LeO.refl _)
   | (with_reducible exact LeO.none _)
   | (with_reducible refine LeO.ite ?_ ?_)
   | (with_reducible refine LeO.bind ?_ (fun _ => ?_))
   | exact ih0 _ _ _ _ _ _ _ _ _
   | exact ih1 _ _ _ _ _ _
   | exact ih2 _ _ _ _ _ _
   | exact ih3 _ _
   | exact impl_AvoidsPattern.mono _ _ _
   | exact impl_CountAvoiding.mono _ _ _ _
   | exact impl_CountSquareFree.mono _ _ _
   | exact impl_ExtensionsOf.mono _ _ _ _
   | exact impl_IsUnavoidable.mono _ _ _ _
   | exact impl_LeastAvoiding.mono _ _ _ _
   | exact impl_LongestAvoiding.mono _ _ _ _
   | exact laws_sameInts.mono _ _ _
   | exact spec_CountAvoiding.mono _ _ _ _
   | exact spec_DrawExtensionsOf.mono _ _
   | exact spec_DrawLongestAvoiding.mono _ _
   | exact spec_ExtensionsOf.mono _ _ _ _
   | exact spec_IsUnavoidable.mono _ _ _ _
   | exact spec_IsWord.mono _ _ _
   | exact spec_LeastAvoiding.mono _ _ _ _
   | exact spec_LongestAvoiding.mono _ _ _ _
   | exact LeO.none _
   | refine LeO.ite ?_ ?_
   | refine LeO.bind ?_ (fun _ => ?_)
theorem laws_FnAvoidance.mono : ∀ a0 k, LeO (laws_FnAvoidance.f k a0) (laws_FnAvoidance.f (k + 1) a0) := by
 intro a0 k
 obtain ⟨ih0, ih1, ih2, ih3⟩ := laws_FnAvoidance.mono_l k
 unfold laws_FnAvoidance.f
 repeat' first
   | (with_reducible exact ih0 _ _ _ _ _ _ _ _ _)
   | (with_reducible exact ih1 _ _ _ _ _ _)
   | (with_reducible exact ih2 _ _ _ _ _ _)
   | (with_reducible exact ih3 _ _)
   | (with_reducible exact impl_AvoidsPattern.mono _ _ _)
   | (with_reducible exact impl_CountAvoiding.mono _ _ _ _)
   | (with_reducible exact impl_CountSquareFree.mono _ _ _)
   | (with_reducible exact impl_ExtensionsOf.mono _ _ _ _)
   | (with_reducible exact impl_IsUnavoidable.mono _ _ _ _)
   | (with_reducible exact impl_LeastAvoiding.mono _ _ _ _)
   | (with_reducible exact impl_LongestAvoiding.mono _ _ _ _)
   | (with_reducible exact laws_sameInts.mono _ _ _)
   | (with_reducible exact spec_CountAvoiding.mono _ _ _ _)
   | (with_reducible exact spec_DrawExtensionsOf.mono _ _)
   | (with_reducible exact spec_DrawLongestAvoiding.mono _ _)
   | (with_reducible exact spec_ExtensionsOf.mono _ _ _ _)
   | (with_reducible exact spec_IsUnavoidable.mono _ _ _ _)
   | (with_reducible exact spec_IsWord.mono _ _ _)
   | (with_reducible exact spec_LeastAvoiding.mono _ _ _ _)
   | (with_reducible exact spec_LongestAvoiding.mono _ _ _ _)
   | (with_reducible exact LeO.refl _)
   | (with_reducible exact LeO.none _)
   | (with_reducible refine LeO.ite ?_ ?_)
   | (with_reducible refine LeO.bind ?_ (fun _ => ?_))
   | exact ih0 _ _ _ _ _ _ _ _ _
   | exact ih1 _ _ _ _ _ _
   | exact ih2 _ _ _ _ _ _
   | exact ih3 _ _
   | exact impl_AvoidsPattern.mono _ _ _
   | exact impl_CountAvoiding.mono _ _ _ _
   | exact impl_CountSquareFree.mono _ _ _
   | exact impl_ExtensionsOf.mono _ _ _ _
   | exact impl_IsUnavoidable.mono _ _ _ _
   | exact impl_LeastAvoiding.mono _ _ _ _
   | exact impl_LongestAvoiding.mono _ _ _ _
   | exact laws_sameInts.mono _ _ _
   | exact spec_CountAvoiding.mono _ _ _ _
   | exact spec_DrawExtensionsOf.mono _ _
   | exact spec_DrawLongestAvoiding.mono _ _
   | exact spec_ExtensionsOf.mono _ _ _ _
   | exact spec_IsUnavoidable.mono _ _ _ _
   | exact spec_IsWord.mono _ _ _
   | exact spec_LeastAvoiding.mono _ _ _ _
   | exact spec_LongestAvoiding.mono _ _ _ _
   | exact LeO.none _
   | refine LeO.ite ?_ ?_
   | refine LeO.bind ?_ (fun _ => ?_)
set_option maxHeartbeats 8000000 in
set_option maxRecDepth 100000 in
theorem laws_FnAvoidance.calls (k : Nat) (A0 : Option Addr) (c0 : Nat) (l0 : List Int) (r : Bool) (w : World) (hr0 : Kd.C (Kd.int .u8) w A0 l0.length l0) (hc0 : l0.length ≤ c0) (h : laws_FnAvoidance.f k l0 = some r) :
  Calls Try.prog 11 #[.slice A0 l0.length c0] w fun e w' => e = .returned (.bool r) ∧ Below w.heap.size w w' := by
 have HR0 := Aside0.mk hr0
 have HC0 := Aside0.mk hc0
 clear hr0 hc0
 have HB := Aside0.mk (Below.refl w.heap.size w)
 have H : ((laws_big.f l0).bind fun t1318 => (if t1318 = true then (some true) else ((spec_DrawLongestAvoiding.f k l0).bind fun bt1319 => ((impl_LongestAvoiding.f k bt1319.1 bt1319.2.1 bt1319.2.2).bind fun bt1324 => ((spec_LongestAvoiding.f k bt1319.1 bt1319.2.1 bt1319.2.2).bind fun bt1328 => ((impl_LeastAvoiding.f k bt1319.1 bt1319.2.1 bt1319.2.2).bind fun bt1332 => ((spec_LeastAvoiding.f k bt1319.1 bt1319.2.1 bt1319.2.2).bind fun bt1336 => (if (bt1324.2 != bt1328.2) = true then (laws_FnAvoidance.j0 k l0 bt1319.1 bt1319.2.1 bt1319.2.2 bt1324.2 bt1328.1 bt1332.2 bt1336.1 true) else ((laws_sameInts.f k bt1324.1 bt1328.1).bind fun t1340 => (if t1340 = true then (if (bt1332.2 != bt1336.2) = true then (laws_FnAvoidance.j0 k l0 bt1319.1 bt1319.2.1 bt1319.2.2 bt1324.2 bt1328.1 bt1332.2 bt1336.1 true) else ((laws_sameInts.f k bt1332.1 bt1336.1).bind fun t1341 => (if t1341 = true then ((impl_IsUnavoidable.f k bt1319.1 bt1319.2.1 bt1319.2.2).bind fun t1342 => ((spec_IsUnavoidable.f k bt1319.1 bt1319.2.1 bt1319.2.2).bind fun t1343 => (if (t1342 != t1343) = true then (laws_FnAvoidance.j0 k l0 bt1319.1 bt1319.2.1 bt1319.2.2 bt1324.2 bt1328.1 bt1332.2 bt1336.1 true) else ((impl_IsUnavoidable.f k bt1319.1 bt1319.2.1 bt1319.2.2).bind fun t1344 => (if t1344 = true then (laws_FnAvoidance.j0 k l0 bt1319.1 bt1319.2.1 bt1319.2.2 bt1324.2 bt1328.1 bt1332.2 bt1336.1 bt1332.2) else (laws_FnAvoidance.j0 k l0 bt1319.1 bt1319.2.1 bt1319.2.2 bt1324.2 bt1328.1 bt1332.2 bt1336.1 false)))))) else (laws_FnAvoidance.j0 k l0 bt1319.1 bt1319.2.1 bt1319.2.2 bt1324.2 bt1328.1 bt1332.2 bt1336.1 true)))) else (laws_FnAvoidance.j0 k l0 bt1319.1 bt1319.2.1 bt1319.2.2 bt1324.2 bt1328.1 bt1332.2 bt1336.1 true))))))))))) = some r := h
 clear h
 replace H := Option.bind_eq_some_iff.mp H
 obtain ⟨t1318, A20, H⟩ := H
 replace H : (if t1318 = true then (some true) else ((spec_DrawLongestAvoiding.f k l0).bind fun bt1319 => ((impl_LongestAvoiding.f k bt1319.1 bt1319.2.1 bt1319.2.2).bind fun bt1324 => ((spec_LongestAvoiding.f k bt1319.1 bt1319.2.1 bt1319.2.2).bind fun bt1328 => ((impl_LeastAvoiding.f k bt1319.1 bt1319.2.1 bt1319.2.2).bind fun bt1332 => ((spec_LeastAvoiding.f k bt1319.1 bt1319.2.1 bt1319.2.2).bind fun bt1336 => (if (bt1324.2 != bt1328.2) = true then (laws_FnAvoidance.j0 k l0 bt1319.1 bt1319.2.1 bt1319.2.2 bt1324.2 bt1328.1 bt1332.2 bt1336.1 true) else ((laws_sameInts.f k bt1324.1 bt1328.1).bind fun t1340 => (if t1340 = true then (if (bt1332.2 != bt1336.2) = true then (laws_FnAvoidance.j0 k l0 bt1319.1 bt1319.2.1 bt1319.2.2 bt1324.2 bt1328.1 bt1332.2 bt1336.1 true) else ((laws_sameInts.f k bt1332.1 bt1336.1).bind fun t1341 => (if t1341 = true then ((impl_IsUnavoidable.f k bt1319.1 bt1319.2.1 bt1319.2.2).bind fun t1342 => ((spec_IsUnavoidable.f k bt1319.1 bt1319.2.1 bt1319.2.2).bind fun t1343 => (if (t1342 != t1343) = true then (laws_FnAvoidance.j0 k l0 bt1319.1 bt1319.2.1 bt1319.2.2 bt1324.2 bt1328.1 bt1332.2 bt1336.1 true) else ((impl_IsUnavoidable.f k bt1319.1 bt1319.2.1 bt1319.2.2).bind fun t1344 => (if t1344 = true then (laws_FnAvoidance.j0 k l0 bt1319.1 bt1319.2.1 bt1319.2.2 bt1324.2 bt1328.1 bt1332.2 bt1336.1 bt1332.2) else (laws_FnAvoidance.j0 k l0 bt1319.1 bt1319.2.1 bt1319.2.2 bt1324.2 bt1328.1 bt1332.2 bt1336.1 false)))))) else (laws_FnAvoidance.j0 k l0 bt1319.1 bt1319.2.1 bt1319.2.2 bt1324.2 bt1328.1 bt1332.2 bt1336.1 true)))) else (laws_FnAvoidance.j0 k l0 bt1319.1 bt1319.2.1 bt1319.2.2 bt1324.2 bt1328.1 bt1332.2 bt1336.1 true)))))))))) = some r := H
 have A2 := Aside0.mk A20
 clear A20
 by_cases c3 : t1318 = true
 ·subst c3
  have H1 : (some true) = some r := by rw [if_pos rfl] at H; exact H
  clear H
  have H := H1
  clear H1
  as_aux_lemma =>
   obtain rfl := Option.some.inj H
   go_enter Try.func11, Try.ntmps11
   go_wp2_with (first | ((with_reducible refine gate_callee (f := 19) rfl ?_); refine goesL_ (some 19) rfl rfl Try.func19 (by kernel_rfl) rfl #[.slice A0 l0.length c0] rfl (by (try simp only [List.map_toArray, List.map_cons, List.map_nil]); first | done | rfl | (simp only [List.length_drop, List.length_take]; rfl)) ?_; (with_reducible refine (laws_big.calls _ _ l0 true _ ?side1 ?side2 A2.out).mono ?_); (case side1 => repeat (first | exact HR0.out | (with_reducible refine Kd.C_alloc ?_ _) | (with_reducible refine Kd.C_drewN ?_ _) | (with_reducible refine Kd.C_drew ?_))); (case side2 => exact HC0.out); rintro e w' ⟨rfl, ⟨nd, rfl⟩⟩; refine ⟨_, rfl, ?_⟩))
   go_ret
   exact ⟨by first | rfl | (simp [errW_none, errW_some] <;> rfl) | (simp [*, errW_none, errW_some] <;> rfl), by repeat (first | (with_reducible first | exact HB.out | apply below_alloc | apply pw_below_drewN | apply below_drew1) | exact HB.out)⟩
 ·replace c3 := Bool.eq_false_iff.mpr c3
  subst c3
  have H1 : ((spec_DrawLongestAvoiding.f k l0).bind fun bt1319 => ((impl_LongestAvoiding.f k bt1319.1 bt1319.2.1 bt1319.2.2).bind fun bt1324 => ((spec_LongestAvoiding.f k bt1319.1 bt1319.2.1 bt1319.2.2).bind fun bt1328 => ((impl_LeastAvoiding.f k bt1319.1 bt1319.2.1 bt1319.2.2).bind fun bt1332 => ((spec_LeastAvoiding.f k bt1319.1 bt1319.2.1 bt1319.2.2).bind fun bt1336 => (if (bt1324.2 != bt1328.2) = true then (laws_FnAvoidance.j0 k l0 bt1319.1 bt1319.2.1 bt1319.2.2 bt1324.2 bt1328.1 bt1332.2 bt1336.1 true) else ((laws_sameInts.f k bt1324.1 bt1328.1).bind fun t1340 => (if t1340 = true then (if (bt1332.2 != bt1336.2) = true then (laws_FnAvoidance.j0 k l0 bt1319.1 bt1319.2.1 bt1319.2.2 bt1324.2 bt1328.1 bt1332.2 bt1336.1 true) else ((laws_sameInts.f k bt1332.1 bt1336.1).bind fun t1341 => (if t1341 = true then ((impl_IsUnavoidable.f k bt1319.1 bt1319.2.1 bt1319.2.2).bind fun t1342 => ((spec_IsUnavoidable.f k bt1319.1 bt1319.2.1 bt1319.2.2).bind fun t1343 => (if (t1342 != t1343) = true then (laws_FnAvoidance.j0 k l0 bt1319.1 bt1319.2.1 bt1319.2.2 bt1324.2 bt1328.1 bt1332.2 bt1336.1 true) else ((impl_IsUnavoidable.f k bt1319.1 bt1319.2.1 bt1319.2.2).bind fun t1344 => (if t1344 = true then (laws_FnAvoidance.j0 k l0 bt1319.1 bt1319.2.1 bt1319.2.2 bt1324.2 bt1328.1 bt1332.2 bt1336.1 bt1332.2) else (laws_FnAvoidance.j0 k l0 bt1319.1 bt1319.2.1 bt1319.2.2 bt1324.2 bt1328.1 bt1332.2 bt1336.1 false)))))) else (laws_FnAvoidance.j0 k l0 bt1319.1 bt1319.2.1 bt1319.2.2 bt1324.2 bt1328.1 bt1332.2 bt1336.1 true)))) else (laws_FnAvoidance.j0 k l0 bt1319.1 bt1319.2.1 bt1319.2.2 bt1324.2 bt1328.1 bt1332.2 bt1336.1 true))))))))) = some r := by rw [if_neg (show ¬ (false = true) by decide)] at H; exact H
  clear H
  have H := H1
  clear H1
  replace H := Option.bind_eq_some_iff.mp H
  obtain ⟨⟨t1319, t1320, t1321⟩, A40, H⟩ := H
  replace H : ((impl_LongestAvoiding.f k t1319 t1320 t1321).bind fun bt1324 => ((spec_LongestAvoiding.f k t1319 t1320 t1321).bind fun bt1328 => ((impl_LeastAvoiding.f k t1319 t1320 t1321).bind fun bt1332 => ((spec_LeastAvoiding.f k t1319 t1320 t1321).bind fun bt1336 => (if (bt1324.2 != bt1328.2) = true then (laws_FnAvoidance.j0 k l0 t1319 t1320 t1321 bt1324.2 bt1328.1 bt1332.2 bt1336.1 true) else ((laws_sameInts.f k bt1324.1 bt1328.1).bind fun t1340 => (if t1340 = true then (if (bt1332.2 != bt1336.2) = true then (laws_FnAvoidance.j0 k l0 t1319 t1320 t1321 bt1324.2 bt1328.1 bt1332.2 bt1336.1 true) else ((laws_sameInts.f k bt1332.1 bt1336.1).bind fun t1341 => (if t1341 = true then ((impl_IsUnavoidable.f k t1319 t1320 t1321).bind fun t1342 => ((spec_IsUnavoidable.f k t1319 t1320 t1321).bind fun t1343 => (if (t1342 != t1343) = true then (laws_FnAvoidance.j0 k l0 t1319 t1320 t1321 bt1324.2 bt1328.1 bt1332.2 bt1336.1 true) else ((impl_IsUnavoidable.f k t1319 t1320 t1321).bind fun t1344 => (if t1344 = true then (laws_FnAvoidance.j0 k l0 t1319 t1320 t1321 bt1324.2 bt1328.1 bt1332.2 bt1336.1 bt1332.2) else (laws_FnAvoidance.j0 k l0 t1319 t1320 t1321 bt1324.2 bt1328.1 bt1332.2 bt1336.1 false)))))) else (laws_FnAvoidance.j0 k l0 t1319 t1320 t1321 bt1324.2 bt1328.1 bt1332.2 bt1336.1 true)))) else (laws_FnAvoidance.j0 k l0 t1319 t1320 t1321 bt1324.2 bt1328.1 bt1332.2 bt1336.1 true)))))))) = some r := H
  have A4 := Aside0.mk A40
  clear A40
  replace H := Option.bind_eq_some_iff.mp H
  obtain ⟨⟨t1324, t1325⟩, A50, H⟩ := H
  replace H : ((spec_LongestAvoiding.f k t1319 t1320 t1321).bind fun bt1328 => ((impl_LeastAvoiding.f k t1319 t1320 t1321).bind fun bt1332 => ((spec_LeastAvoiding.f k t1319 t1320 t1321).bind fun bt1336 => (if (t1325 != bt1328.2) = true then (laws_FnAvoidance.j0 k l0 t1319 t1320 t1321 t1325 bt1328.1 bt1332.2 bt1336.1 true) else ((laws_sameInts.f k t1324 bt1328.1).bind fun t1340 => (if t1340 = true then (if (bt1332.2 != bt1336.2) = true then (laws_FnAvoidance.j0 k l0 t1319 t1320 t1321 t1325 bt1328.1 bt1332.2 bt1336.1 true) else ((laws_sameInts.f k bt1332.1 bt1336.1).bind fun t1341 => (if t1341 = true then ((impl_IsUnavoidable.f k t1319 t1320 t1321).bind fun t1342 => ((spec_IsUnavoidable.f k t1319 t1320 t1321).bind fun t1343 => (if (t1342 != t1343) = true then (laws_FnAvoidance.j0 k l0 t1319 t1320 t1321 t1325 bt1328.1 bt1332.2 bt1336.1 true) else ((impl_IsUnavoidable.f k t1319 t1320 t1321).bind fun t1344 => (if t1344 = true then (laws_FnAvoidance.j0 k l0 t1319 t1320 t1321 t1325 bt1328.1 bt1332.2 bt1336.1 bt1332.2) else (laws_FnAvoidance.j0 k l0 t1319 t1320 t1321 t1325 bt1328.1 bt1332.2 bt1336.1 false)))))) else (laws_FnAvoidance.j0 k l0 t1319 t1320 t1321 t1325 bt1328.1 bt1332.2 bt1336.1 true)))) else (laws_FnAvoidance.j0 k l0 t1319 t1320 t1321 t1325 bt1328.1 bt1332.2 bt1336.1 true))))))) = some r := H
  have A5 := Aside0.mk A50
  clear A50
  replace H := Option.bind_eq_some_iff.mp H
  obtain ⟨⟨t1328, t1329⟩, A60, H⟩ := H
  replace H : ((impl_LeastAvoiding.f k t1319 t1320 t1321).bind fun bt1332 => ((spec_LeastAvoiding.f k t1319 t1320 t1321).bind fun bt1336 => (if (t1325 != t1329) = true then (laws_FnAvoidance.j0 k l0 t1319 t1320 t1321 t1325 t1328 bt1332.2 bt1336.1 true) else ((laws_sameInts.f k t1324 t1328).bind fun t1340 => (if t1340 = true then (if (bt1332.2 != bt1336.2) = true then (laws_FnAvoidance.j0 k l0 t1319 t1320 t1321 t1325 t1328 bt1332.2 bt1336.1 true) else ((laws_sameInts.f k bt1332.1 bt1336.1).bind fun t1341 => (if t1341 = true then ((impl_IsUnavoidable.f k t1319 t1320 t1321).bind fun t1342 => ((spec_IsUnavoidable.f k t1319 t1320 t1321).bind fun t1343 => (if (t1342 != t1343) = true then (laws_FnAvoidance.j0 k l0 t1319 t1320 t1321 t1325 t1328 bt1332.2 bt1336.1 true) else ((impl_IsUnavoidable.f k t1319 t1320 t1321).bind fun t1344 => (if t1344 = true then (laws_FnAvoidance.j0 k l0 t1319 t1320 t1321 t1325 t1328 bt1332.2 bt1336.1 bt1332.2) else (laws_FnAvoidance.j0 k l0 t1319 t1320 t1321 t1325 t1328 bt1332.2 bt1336.1 false)))))) else (laws_FnAvoidance.j0 k l0 t1319 t1320 t1321 t1325 t1328 bt1332.2 bt1336.1 true)))) else (laws_FnAvoidance.j0 k l0 t1319 t1320 t1321 t1325 t1328 bt1332.2 bt1336.1 true)))))) = some r := H
  have A6 := Aside0.mk A60
  clear A60
  replace H := Option.bind_eq_some_iff.mp H
  obtain ⟨⟨t1332, t1333⟩, A70, H⟩ := H
  replace H : ((spec_LeastAvoiding.f k t1319 t1320 t1321).bind fun bt1336 => (if (t1325 != t1329) = true then (laws_FnAvoidance.j0 k l0 t1319 t1320 t1321 t1325 t1328 t1333 bt1336.1 true) else ((laws_sameInts.f k t1324 t1328).bind fun t1340 => (if t1340 = true then (if (t1333 != bt1336.2) = true then (laws_FnAvoidance.j0 k l0 t1319 t1320 t1321 t1325 t1328 t1333 bt1336.1 true) else ((laws_sameInts.f k t1332 bt1336.1).bind fun t1341 => (if t1341 = true then ((impl_IsUnavoidable.f k t1319 t1320 t1321).bind fun t1342 => ((spec_IsUnavoidable.f k t1319 t1320 t1321).bind fun t1343 => (if (t1342 != t1343) = true then (laws_FnAvoidance.j0 k l0 t1319 t1320 t1321 t1325 t1328 t1333 bt1336.1 true) else ((impl_IsUnavoidable.f k t1319 t1320 t1321).bind fun t1344 => (if t1344 = true then (laws_FnAvoidance.j0 k l0 t1319 t1320 t1321 t1325 t1328 t1333 bt1336.1 t1333) else (laws_FnAvoidance.j0 k l0 t1319 t1320 t1321 t1325 t1328 t1333 bt1336.1 false)))))) else (laws_FnAvoidance.j0 k l0 t1319 t1320 t1321 t1325 t1328 t1333 bt1336.1 true)))) else (laws_FnAvoidance.j0 k l0 t1319 t1320 t1321 t1325 t1328 t1333 bt1336.1 true))))) = some r := H
  have A7 := Aside0.mk A70
  clear A70
  replace H := Option.bind_eq_some_iff.mp H
  obtain ⟨⟨t1336, t1337⟩, A80, H⟩ := H
  replace H : (if (t1325 != t1329) = true then (laws_FnAvoidance.j0 k l0 t1319 t1320 t1321 t1325 t1328 t1333 t1336 true) else ((laws_sameInts.f k t1324 t1328).bind fun t1340 => (if t1340 = true then (if (t1333 != t1337) = true then (laws_FnAvoidance.j0 k l0 t1319 t1320 t1321 t1325 t1328 t1333 t1336 true) else ((laws_sameInts.f k t1332 t1336).bind fun t1341 => (if t1341 = true then ((impl_IsUnavoidable.f k t1319 t1320 t1321).bind fun t1342 => ((spec_IsUnavoidable.f k t1319 t1320 t1321).bind fun t1343 => (if (t1342 != t1343) = true then (laws_FnAvoidance.j0 k l0 t1319 t1320 t1321 t1325 t1328 t1333 t1336 true) else ((impl_IsUnavoidable.f k t1319 t1320 t1321).bind fun t1344 => (if t1344 = true then (laws_FnAvoidance.j0 k l0 t1319 t1320 t1321 t1325 t1328 t1333 t1336 t1333) else (laws_FnAvoidance.j0 k l0 t1319 t1320 t1321 t1325 t1328 t1333 t1336 false)))))) else (laws_FnAvoidance.j0 k l0 t1319 t1320 t1321 t1325 t1328 t1333 t1336 true)))) else (laws_FnAvoidance.j0 k l0 t1319 t1320 t1321 t1325 t1328 t1333 t1336 true)))) = some r := H
  have A8 := Aside0.mk A80
  clear A80
  have HC9 := Aside0.mk H
  clear H
  go_enter Try.func11, Try.ntmps11
  go_upto_region 8 with (first | ((with_reducible refine gate_callee (f := 19) rfl ?_); refine goesL_ (some 19) rfl rfl Try.func19 (by kernel_rfl) rfl #[.slice A0 l0.length c0] rfl (by (try simp only [List.map_toArray, List.map_cons, List.map_nil]); first | done | rfl | (simp only [List.length_drop, List.length_take]; rfl)) ?_; (with_reducible refine (laws_big.calls _ _ l0 false _ ?side1 ?side2 A2.out).mono ?_); (case side1 => repeat (first | exact HR0.out | (with_reducible refine Kd.C_alloc ?_ _) | (with_reducible refine Kd.C_drewN ?_ _) | (with_reducible refine Kd.C_drew ?_))); (case side2 => exact HC0.out); rintro e w' ⟨rfl, ⟨nd, rfl⟩⟩; refine ⟨_, rfl, ?_⟩) | ((with_reducible refine gate_callee (f := 54) rfl ?_); refine goesL_ (some 22) rfl rfl Try.func54 (by kernel_rfl) rfl #[.slice A0 l0.length c0] rfl (by (try simp only [List.map_toArray, List.map_cons, List.map_nil]); first | done | rfl | (simp only [List.length_drop, List.length_take]; rfl)) ?_; (with_reducible refine (spec_DrawLongestAvoiding.calls k _ _ l0 t1319 t1320 t1321 _ ?side1 ?side2 A4.out).mono ?_); (case side1 => repeat (first | exact HR0.out | (with_reducible refine Kd.C_alloc ?_ _) | (with_reducible refine Kd.C_drewN ?_ _) | (with_reducible refine Kd.C_drew ?_))); (case side2 => exact HC0.out); rintro e w10 ⟨v1322, rfl, ho0, hb⟩; refine ⟨_, rfl, ?_⟩; have n0_ := Aside0.mk (Kd.R_lower ho0 (below_size (by repeat (first | (with_reducible first | exact HB.out | apply below_alloc | apply pw_below_drewN | apply below_drew1) | exact HB.out)))); have n1_ := Aside0.mk (below_step (by repeat (first | (with_reducible first | exact HB.out | apply below_alloc | apply pw_below_drewN | apply below_drew1) | exact HB.out)) hb); clear HB; have HO1323 := n0_; have HB := n1_; clear n0_ n1_; (try clear hb); (try clear hb2); (try clear hk); (try clear hi); (try clear ho0); obtain ⟨Ao11, co11, eo11⟩ := Kd.R_slice HO1323.out; subst eo11) | ((with_reducible refine gate_callee (f := 51) rfl ?_); refine goesL_ (some 30) rfl rfl Try.func51 (by kernel_rfl) rfl #[.int .i64 t1319, .slice Ao11 t1320.length co11, .int .i64 t1321] rfl (by (try simp only [List.map_toArray, List.map_cons, List.map_nil]); first | done | rfl | (simp only [List.length_drop, List.length_take]; rfl)) ?_; (with_reducible refine (impl_LongestAvoiding.calls k t1319 _ _ t1320 t1321 t1324 t1325 _ ?side1 ?side2 A5.out).mono ?_); (case side1 => repeat (first | exact (Kd.R_reads' HO1323.out).2.2 | (with_reducible refine Kd.C_alloc ?_ _) | (with_reducible refine Kd.C_drewN ?_ _) | (with_reducible refine Kd.C_drew ?_))); (case side2 => exact (Kd.R_reads' HO1323.out).2.1); rintro e w12 ⟨v1326, rfl, ho0, hb⟩; refine ⟨_, rfl, ?_⟩; have n0_ := Aside0.mk (Kd.R_elder' (by (with_reducible repeat (first | apply Kd.R_alloc | apply Kd.R_drewN | apply Kd.R_drew)); exact HO1323.out) (Kd.R_base ho0) hb); have n1_ := Aside0.mk (Kd.R_lower (Kd.R_new' ho0 (Kd.R_lt (by (with_reducible repeat (first | apply Kd.R_alloc | apply Kd.R_drewN | apply Kd.R_drew)); exact HO1323.out))) (below_size (by repeat (first | (with_reducible first | exact HB.out | apply below_alloc | apply pw_below_drewN | apply below_drew1) | exact HB.out)))); have n2_ := Aside0.mk (below_step (by repeat (first | (with_reducible first | exact HB.out | apply below_alloc | apply pw_below_drewN | apply below_drew1) | exact HB.out)) hb); clear HO1323; clear HB; have HO1323 := n0_; have HO1327 := n1_; have HB := n2_; clear n0_ n1_ n2_; (try clear hb); (try clear hb2); (try clear hk); (try clear hi); (try clear ho0)) | ((with_reducible refine gate_callee (f := 50) rfl ?_); refine goesL_ (some 37) rfl rfl Try.func50 (by kernel_rfl) rfl #[.int .i64 t1319, .slice Ao11 t1320.length co11, .int .i64 t1321] rfl (by (try simp only [List.map_toArray, List.map_cons, List.map_nil]); first | done | rfl | (simp only [List.length_drop, List.length_take]; rfl)) ?_; (with_reducible refine (spec_LongestAvoiding.calls k t1319 _ _ t1320 t1321 t1328 t1329 _ ?side1 ?side2 A6.out).mono ?_); (case side1 => repeat (first | exact (Kd.R_reads' HO1323.out).2.2 | (with_reducible refine Kd.C_alloc ?_ _) | (with_reducible refine Kd.C_drewN ?_ _) | (with_reducible refine Kd.C_drew ?_))); (case side2 => exact (Kd.R_reads' HO1323.out).2.1); rintro e w13 ⟨v1330, rfl, ho0, hb⟩; refine ⟨_, rfl, ?_⟩; have n0_ := Aside0.mk (Kd.R_elder' (by (with_reducible repeat (first | apply Kd.R_alloc | apply Kd.R_drewN | apply Kd.R_drew)); exact HO1323.out) (Kd.R_base ho0) hb); have n1_ := Aside0.mk (Kd.R_elder' (by (with_reducible repeat (first | apply Kd.R_alloc | apply Kd.R_drewN | apply Kd.R_drew)); exact HO1327.out) (Kd.R_base ho0) hb); have n2_ := Aside0.mk (Kd.R_lower (Kd.R_new' (Kd.R_new' ho0 (Kd.R_lt (by (with_reducible repeat (first | apply Kd.R_alloc | apply Kd.R_drewN | apply Kd.R_drew)); exact HO1323.out))) (Kd.R_lt (by (with_reducible repeat (first | apply Kd.R_alloc | apply Kd.R_drewN | apply Kd.R_drew)); exact HO1327.out))) (below_size (by repeat (first | (with_reducible first | exact HB.out | apply below_alloc | apply pw_below_drewN | apply below_drew1) | exact HB.out)))); have n3_ := Aside0.mk (below_step (by repeat (first | (with_reducible first | exact HB.out | apply below_alloc | apply pw_below_drewN | apply below_drew1) | exact HB.out)) hb); clear HO1323; clear HO1327; clear HB; have HO1323 := n0_; have HO1327 := n1_; have HO1331 := n2_; have HB := n3_; clear n0_ n1_ n2_ n3_; (try clear hb); (try clear hb2); (try clear hk); (try clear hi); (try clear ho0)) | ((with_reducible refine gate_callee (f := 53) rfl ?_); refine goesL_ (some 44) rfl rfl Try.func53 (by kernel_rfl) rfl #[.int .i64 t1319, .slice Ao11 t1320.length co11, .int .i64 t1321] rfl (by (try simp only [List.map_toArray, List.map_cons, List.map_nil]); first | done | rfl | (simp only [List.length_drop, List.length_take]; rfl)) ?_; (with_reducible refine (impl_LeastAvoiding.calls k t1319 _ _ t1320 t1321 t1332 t1333 _ ?side1 ?side2 A7.out).mono ?_); (case side1 => repeat (first | exact (Kd.R_reads' HO1323.out).2.2 | (with_reducible refine Kd.C_alloc ?_ _) | (with_reducible refine Kd.C_drewN ?_ _) | (with_reducible refine Kd.C_drew ?_))); (case side2 => exact (Kd.R_reads' HO1323.out).2.1); rintro e w14 ⟨v1334, rfl, ho0, hb⟩; refine ⟨_, rfl, ?_⟩; have n0_ := Aside0.mk (Kd.R_elder' (by (with_reducible repeat (first | apply Kd.R_alloc | apply Kd.R_drewN | apply Kd.R_drew)); exact HO1323.out) (Kd.R_base ho0) hb); have n1_ := Aside0.mk (Kd.R_elder' (by (with_reducible repeat (first | apply Kd.R_alloc | apply Kd.R_drewN | apply Kd.R_drew)); exact HO1327.out) (Kd.R_base ho0) hb); have n2_ := Aside0.mk (Kd.R_elder' (by (with_reducible repeat (first | apply Kd.R_alloc | apply Kd.R_drewN | apply Kd.R_drew)); exact HO1331.out) (Kd.R_base ho0) hb); have n3_ := Aside0.mk (Kd.R_lower (Kd.R_new' (Kd.R_new' (Kd.R_new' ho0 (Kd.R_lt (by (with_reducible repeat (first | apply Kd.R_alloc | apply Kd.R_drewN | apply Kd.R_drew)); exact HO1323.out))) (Kd.R_lt (by (with_reducible repeat (first | apply Kd.R_alloc | apply Kd.R_drewN | apply Kd.R_drew)); exact HO1327.out))) (Kd.R_lt (by (with_reducible repeat (first | apply Kd.R_alloc | apply Kd.R_drewN | apply Kd.R_drew)); exact HO1331.out))) (below_size (by repeat (first | (with_reducible first | exact HB.out | apply below_alloc | apply pw_below_drewN | apply below_drew1) | exact HB.out)))); have n4_ := Aside0.mk (below_step (by repeat (first | (with_reducible first | exact HB.out | apply below_alloc | apply pw_below_drewN | apply below_drew1) | exact HB.out)) hb); clear HO1323; clear HO1327; clear HO1331; clear HB; have HO1323 := n0_; have HO1327 := n1_; have HO1331 := n2_; have HO1335 := n3_; have HB := n4_; clear n0_ n1_ n2_ n3_ n4_; (try clear hb); (try clear hb2); (try clear hk); (try clear hi); (try clear ho0)) | ((with_reducible refine gate_callee (f := 52) rfl ?_); refine goesL_ (some 51) rfl rfl Try.func52 (by kernel_rfl) rfl #[.int .i64 t1319, .slice Ao11 t1320.length co11, .int .i64 t1321] rfl (by (try simp only [List.map_toArray, List.map_cons, List.map_nil]); first | done | rfl | (simp only [List.length_drop, List.length_take]; rfl)) ?_; (with_reducible refine (spec_LeastAvoiding.calls k t1319 _ _ t1320 t1321 t1336 t1337 _ ?side1 ?side2 A8.out).mono ?_); (case side1 => repeat (first | exact (Kd.R_reads' HO1323.out).2.2 | (with_reducible refine Kd.C_alloc ?_ _) | (with_reducible refine Kd.C_drewN ?_ _) | (with_reducible refine Kd.C_drew ?_))); (case side2 => exact (Kd.R_reads' HO1323.out).2.1); rintro e w15 ⟨v1338, rfl, ho0, hb⟩; refine ⟨_, rfl, ?_⟩; have n0_ := Aside0.mk (Kd.R_elder' (by (with_reducible repeat (first | apply Kd.R_alloc | apply Kd.R_drewN | apply Kd.R_drew)); exact HO1323.out) (Kd.R_base ho0) hb); have n1_ := Aside0.mk (Kd.R_elder' (by (with_reducible repeat (first | apply Kd.R_alloc | apply Kd.R_drewN | apply Kd.R_drew)); exact HO1327.out) (Kd.R_base ho0) hb); have n2_ := Aside0.mk (Kd.R_elder' (by (with_reducible repeat (first | apply Kd.R_alloc | apply Kd.R_drewN | apply Kd.R_drew)); exact HO1331.out) (Kd.R_base ho0) hb); have n3_ := Aside0.mk (Kd.R_elder' (by (with_reducible repeat (first | apply Kd.R_alloc | apply Kd.R_drewN | apply Kd.R_drew)); exact HO1335.out) (Kd.R_base ho0) hb); have n4_ := Aside0.mk (Kd.R_lower (Kd.R_new' (Kd.R_new' (Kd.R_new' (Kd.R_new' ho0 (Kd.R_lt (by (with_reducible repeat (first | apply Kd.R_alloc | apply Kd.R_drewN | apply Kd.R_drew)); exact HO1323.out))) (Kd.R_lt (by (with_reducible repeat (first | apply Kd.R_alloc | apply Kd.R_drewN | apply Kd.R_drew)); exact HO1327.out))) (Kd.R_lt (by (with_reducible repeat (first | apply Kd.R_alloc | apply Kd.R_drewN | apply Kd.R_drew)); exact HO1331.out))) (Kd.R_lt (by (with_reducible repeat (first | apply Kd.R_alloc | apply Kd.R_drewN | apply Kd.R_drew)); exact HO1335.out))) (below_size (by repeat (first | (with_reducible first | exact HB.out | apply below_alloc | apply pw_below_drewN | apply below_drew1) | exact HB.out)))); have n5_ := Aside0.mk (below_step (by repeat (first | (with_reducible first | exact HB.out | apply below_alloc | apply pw_below_drewN | apply below_drew1) | exact HB.out)) hb); clear HO1323; clear HO1327; clear HO1331; clear HO1335; clear HB; have HO1323 := n0_; have HO1327 := n1_; have HO1331 := n2_; have HO1335 := n3_; have HO1339 := n4_; have HB := n5_; clear n0_ n1_ n2_ n3_ n4_ n5_; (try clear hb); (try clear hb2); (try clear hk); (try clear hi); (try clear ho0)))
  (try simp only [Act.put, List.setIfInBounds_toArray, List.set_cons_zero, List.set_cons_succ])
  go_cut [93] (fun v93 wc => ∃ (kq : Nat) (x93_8 : Bool), v93 = .bool x93_8 ∧ Aside0 (laws_FnAvoidance.j0 kq l0 t1319 t1320 t1321 t1325 t1328 t1333 t1336 x93_8 = some r) ∧ Aside0 (kq ≤ k) ∧ Aside0 (Kd.R (Kd.int .i64) 3 wc w.heap.size (fun k_ => some k_ ≠ (v1330 : Value).ownBlock ∧ some k_ ≠ (v1338 : Value).ownBlock) (.slice Ao11 t1320.length co11) t1320) ∧ Aside0 (Kd.R (Kd.int .i64) 3 wc w.heap.size (fun k_ => some k_ ≠ ((.slice Ao11 t1320.length co11) : Value).ownBlock ∧ some k_ ≠ (v1338 : Value).ownBlock) v1330 t1328) ∧ Aside0 (Kd.R (Kd.int .i64) 3 wc w.heap.size (fun k_ => some k_ ≠ ((.slice Ao11 t1320.length co11) : Value).ownBlock ∧ some k_ ≠ (v1330 : Value).ownBlock) v1338 t1336) ∧ Aside0 (Below w.heap.size w wc))
  case first =>
   have H := HC9.out
   clear HC9
   by_cases c16 : (t1325 != t1329) = true
   ·rw [if_pos c16] at H
    have c16b0 : (t1325 != t1329) = true := c16
    (try (have c16b1 : decide (t1325 = t1329) = false := by simpa using c16))
    (try (have c16b2 : (t1325 == t1329) = false := by simpa using c16))
    (try (have c16b3 : ¬ (t1325 = t1329) := by simpa using c16))
    clear c16
    (first | rw [c16b0] | (simp only [i64_w, i32_w]; rw [c16b0]) | skip)
    as_aux_lemma =>
     have H' := Aside0.mk H
     clear H
     go_wp2
     go_meet
     case rel => exact ⟨_, (true), (by first | rfl | (simp; done) | (simp [*]; done)), H', ⟨by first | omega | exact Nat.le_refl _⟩, ⟨by (with_reducible repeat (first | apply Kd.R_alloc | apply Kd.R_drewN | apply Kd.R_drew)); exact Kd.R_mono HO1323.out (fun _ hk => ⟨hk.1.1.2, hk.2⟩)⟩, ⟨by (with_reducible repeat (first | apply Kd.R_alloc | apply Kd.R_drewN | apply Kd.R_drew)); exact Kd.R_mono HO1331.out (fun _ hk => ⟨hk.1.1.1.2, hk.2⟩)⟩, ⟨by (with_reducible repeat (first | apply Kd.R_alloc | apply Kd.R_drewN | apply Kd.R_drew)); exact Kd.R_mono HO1339.out (fun _ hk => ⟨hk.1.1.1.2, hk.1.2⟩)⟩, ⟨by repeat (first | (with_reducible first | exact HB.out | apply below_alloc | apply pw_below_drewN | apply below_drew1) | exact HB.out)⟩⟩
   ·rw [if_neg c16] at H
    have c16b0 : (t1325 != t1329) = false := by simpa using c16
    (try (have c16b1 : decide (t1325 = t1329) = true := by simpa using c16))
    (try (have c16b2 : (t1325 == t1329) = true := by simpa using c16))
    clear c16
    (first | rw [c16b0] | (simp only [i64_w, i32_w]; rw [c16b0]) | skip)
    replace H := Option.bind_eq_some_iff.mp H
    obtain ⟨t1340, A170, H⟩ := H
    replace H : (if t1340 = true then (if (t1333 != t1337) = true then (laws_FnAvoidance.j0 k l0 t1319 t1320 t1321 t1325 t1328 t1333 t1336 true) else ((laws_sameInts.f k t1332 t1336).bind fun t1341 => (if t1341 = true then ((impl_IsUnavoidable.f k t1319 t1320 t1321).bind fun t1342 => ((spec_IsUnavoidable.f k t1319 t1320 t1321).bind fun t1343 => (if (t1342 != t1343) = true then (laws_FnAvoidance.j0 k l0 t1319 t1320 t1321 t1325 t1328 t1333 t1336 true) else ((impl_IsUnavoidable.f k t1319 t1320 t1321).bind fun t1344 => (if t1344 = true then (laws_FnAvoidance.j0 k l0 t1319 t1320 t1321 t1325 t1328 t1333 t1336 t1333) else (laws_FnAvoidance.j0 k l0 t1319 t1320 t1321 t1325 t1328 t1333 t1336 false)))))) else (laws_FnAvoidance.j0 k l0 t1319 t1320 t1321 t1325 t1328 t1333 t1336 true)))) else (laws_FnAvoidance.j0 k l0 t1319 t1320 t1321 t1325 t1328 t1333 t1336 true)) = some r := H
    have A17 := Aside0.mk A170
    clear A170
    by_cases c18 : t1340 = true
    ·subst c18
     have H1 : (if (t1333 != t1337) = true then (laws_FnAvoidance.j0 k l0 t1319 t1320 t1321 t1325 t1328 t1333 t1336 true) else ((laws_sameInts.f k t1332 t1336).bind fun t1341 => (if t1341 = true then ((impl_IsUnavoidable.f k t1319 t1320 t1321).bind fun t1342 => ((spec_IsUnavoidable.f k t1319 t1320 t1321).bind fun t1343 => (if (t1342 != t1343) = true then (laws_FnAvoidance.j0 k l0 t1319 t1320 t1321 t1325 t1328 t1333 t1336 true) else ((impl_IsUnavoidable.f k t1319 t1320 t1321).bind fun t1344 => (if t1344 = true then (laws_FnAvoidance.j0 k l0 t1319 t1320 t1321 t1325 t1328 t1333 t1336 t1333) else (laws_FnAvoidance.j0 k l0 t1319 t1320 t1321 t1325 t1328 t1333 t1336 false)))))) else (laws_FnAvoidance.j0 k l0 t1319 t1320 t1321 t1325 t1328 t1333 t1336 true)))) = some r := by rw [if_pos rfl] at H; exact H
     clear H
     have H := H1
     clear H1
     by_cases c19 : (t1333 != t1337) = true
     ·rw [if_pos c19] at H
      have c19b0 : (t1333 != t1337) = true := c19
      (try (have c19b1 : decide (t1333 = t1337) = false := by simpa using c19))
      (try (have c19b2 : (t1333 == t1337) = false := by simpa using c19))
      (try (have c19b3 : ¬ (t1333 = t1337) := by simpa using c19))
      clear c19
      as_aux_lemma =>
       have H' := Aside0.mk H
       clear H
       obtain ⟨Ao20, co20, eo20⟩ := Kd.R_slice HO1327.out
       subst eo20
       obtain ⟨Ao21, co21, eo21⟩ := Kd.R_slice HO1331.out
       subst eo21
       go_wp2_with (first | (go_at_call 36; (with_reducible refine (laws_sameInts.calls k _ _ t1324 _ _ t1328 true _ ?side1 ?side2 ?side3 ?side4 A17.out).mono ?_); (case side1 => repeat (first | exact (Kd.R_reads' HO1327.out).2.2 | (with_reducible refine Kd.C_alloc ?_ _) | (with_reducible refine Kd.C_drewN ?_ _) | (with_reducible refine Kd.C_drew ?_))); (case side2 => exact (Kd.R_reads' HO1327.out).2.1); (case side3 => repeat (first | exact (Kd.R_reads' HO1331.out).2.2 | (with_reducible refine Kd.C_alloc ?_ _) | (with_reducible refine Kd.C_drewN ?_ _) | (with_reducible refine Kd.C_drew ?_))); (case side4 => exact (Kd.R_reads' HO1331.out).2.1); rintro e w' ⟨rfl, ⟨nd, rfl⟩⟩))
       go_meet
       case rel => exact ⟨_, (true), (by first | rfl | (simp; done) | (simp [*]; done)), H', ⟨by first | omega | exact Nat.le_refl _⟩, ⟨by (with_reducible repeat (first | apply Kd.R_alloc | apply Kd.R_drewN | apply Kd.R_drew)); exact Kd.R_mono HO1323.out (fun _ hk => ⟨hk.1.1.2, hk.2⟩)⟩, ⟨by (with_reducible repeat (first | apply Kd.R_alloc | apply Kd.R_drewN | apply Kd.R_drew)); exact Kd.R_mono HO1331.out (fun _ hk => ⟨hk.1.1.1.2, hk.2⟩)⟩, ⟨by (with_reducible repeat (first | apply Kd.R_alloc | apply Kd.R_drewN | apply Kd.R_drew)); exact Kd.R_mono HO1339.out (fun _ hk => ⟨hk.1.1.1.2, hk.1.2⟩)⟩, ⟨by repeat (first | (with_reducible first | exact HB.out | apply below_alloc | apply pw_below_drewN | apply below_drew1) | exact HB.out)⟩⟩
     ·rw [if_neg c19] at H
      have c19b0 : (t1333 != t1337) = false := by simpa using c19
      (try (have c19b1 : decide (t1333 = t1337) = true := by simpa using c19))
      (try (have c19b2 : (t1333 == t1337) = true := by simpa using c19))
      clear c19
      replace H := Option.bind_eq_some_iff.mp H
      obtain ⟨t1341, A220, H⟩ := H
      replace H : (if t1341 = true then ((impl_IsUnavoidable.f k t1319 t1320 t1321).bind fun t1342 => ((spec_IsUnavoidable.f k t1319 t1320 t1321).bind fun t1343 => (if (t1342 != t1343) = true then (laws_FnAvoidance.j0 k l0 t1319 t1320 t1321 t1325 t1328 t1333 t1336 true) else ((impl_IsUnavoidable.f k t1319 t1320 t1321).bind fun t1344 => (if t1344 = true then (laws_FnAvoidance.j0 k l0 t1319 t1320 t1321 t1325 t1328 t1333 t1336 t1333) else (laws_FnAvoidance.j0 k l0 t1319 t1320 t1321 t1325 t1328 t1333 t1336 false)))))) else (laws_FnAvoidance.j0 k l0 t1319 t1320 t1321 t1325 t1328 t1333 t1336 true)) = some r := H
      have A22 := Aside0.mk A220
      clear A220
      by_cases c23 : t1341 = true
      ·subst c23
       have H1 : ((impl_IsUnavoidable.f k t1319 t1320 t1321).bind fun t1342 => ((spec_IsUnavoidable.f k t1319 t1320 t1321).bind fun t1343 => (if (t1342 != t1343) = true then (laws_FnAvoidance.j0 k l0 t1319 t1320 t1321 t1325 t1328 t1333 t1336 true) else ((impl_IsUnavoidable.f k t1319 t1320 t1321).bind fun t1344 => (if t1344 = true then (laws_FnAvoidance.j0 k l0 t1319 t1320 t1321 t1325 t1328 t1333 t1336 t1333) else (laws_FnAvoidance.j0 k l0 t1319 t1320 t1321 t1325 t1328 t1333 t1336 false)))))) = some r := by rw [if_pos rfl] at H; exact H
       clear H
       have H := H1
       clear H1
       replace H := Option.bind_eq_some_iff.mp H
       obtain ⟨t1342, A240, H⟩ := H
       replace H : ((spec_IsUnavoidable.f k t1319 t1320 t1321).bind fun t1343 => (if (t1342 != t1343) = true then (laws_FnAvoidance.j0 k l0 t1319 t1320 t1321 t1325 t1328 t1333 t1336 true) else ((impl_IsUnavoidable.f k t1319 t1320 t1321).bind fun t1344 => (if t1344 = true then (laws_FnAvoidance.j0 k l0 t1319 t1320 t1321 t1325 t1328 t1333 t1336 t1333) else (laws_FnAvoidance.j0 k l0 t1319 t1320 t1321 t1325 t1328 t1333 t1336 false))))) = some r := H
       have A24 := Aside0.mk A240
       clear A240
       replace H := Option.bind_eq_some_iff.mp H
       obtain ⟨t1343, A250, H⟩ := H
       replace H : (if (t1342 != t1343) = true then (laws_FnAvoidance.j0 k l0 t1319 t1320 t1321 t1325 t1328 t1333 t1336 true) else ((impl_IsUnavoidable.f k t1319 t1320 t1321).bind fun t1344 => (if t1344 = true then (laws_FnAvoidance.j0 k l0 t1319 t1320 t1321 t1325 t1328 t1333 t1336 t1333) else (laws_FnAvoidance.j0 k l0 t1319 t1320 t1321 t1325 t1328 t1333 t1336 false)))) = some r := H
       have A25 := Aside0.mk A250
       clear A250
       by_cases c26 : (t1342 != t1343) = true
       ·rw [if_pos c26] at H
        have c26b0 : (t1342 != t1343) = true := c26
        (try (have c26b1 : decide (t1342 = t1343) = false := by simpa using c26))
        (try (have c26b2 : (t1342 == t1343) = false := by simpa using c26))
        (try (have c26b3 : ¬ (t1342 = t1343) := by simpa using c26))
        clear c26
        as_aux_lemma =>
         have H' := Aside0.mk H
         clear H
         obtain ⟨Ao27, co27, eo27⟩ := Kd.R_slice HO1327.out
         subst eo27
         obtain ⟨Ao28, co28, eo28⟩ := Kd.R_slice HO1331.out
         subst eo28
         go_wp2_with (first | (go_at_call 36; (with_reducible refine (laws_sameInts.calls k _ _ t1324 _ _ t1328 true _ ?side1 ?side2 ?side3 ?side4 A17.out).mono ?_); (case side1 => repeat (first | exact (Kd.R_reads' HO1327.out).2.2 | (with_reducible refine Kd.C_alloc ?_ _) | (with_reducible refine Kd.C_drewN ?_ _) | (with_reducible refine Kd.C_drew ?_))); (case side2 => exact (Kd.R_reads' HO1327.out).2.1); (case side3 => repeat (first | exact (Kd.R_reads' HO1331.out).2.2 | (with_reducible refine Kd.C_alloc ?_ _) | (with_reducible refine Kd.C_drewN ?_ _) | (with_reducible refine Kd.C_drew ?_))); (case side4 => exact (Kd.R_reads' HO1331.out).2.1); rintro e w' ⟨rfl, ⟨nd, rfl⟩⟩; obtain ⟨Ao29, co29, eo29⟩ := Kd.R_slice HO1335.out; subst eo29; obtain ⟨Ao30, co30, eo30⟩ := Kd.R_slice HO1339.out; subst eo30) | (go_at_call 36; (with_reducible refine (laws_sameInts.calls k _ _ t1332 _ _ t1336 true _ ?side1 ?side2 ?side3 ?side4 A22.out).mono ?_); (case side1 => repeat (first | exact (Kd.R_reads' HO1335.out).2.2 | (with_reducible refine Kd.C_alloc ?_ _) | (with_reducible refine Kd.C_drewN ?_ _) | (with_reducible refine Kd.C_drew ?_))); (case side2 => exact (Kd.R_reads' HO1335.out).2.1); (case side3 => repeat (first | exact (Kd.R_reads' HO1339.out).2.2 | (with_reducible refine Kd.C_alloc ?_ _) | (with_reducible refine Kd.C_drewN ?_ _) | (with_reducible refine Kd.C_drew ?_))); (case side4 => exact (Kd.R_reads' HO1339.out).2.1); rintro e w' ⟨rfl, ⟨nd, rfl⟩⟩) | (go_at_call 49; (with_reducible refine (impl_IsUnavoidable.calls k t1319 _ _ t1320 t1321 t1342 _ ?side1 ?side2 A24.out).mono ?_); (case side1 => repeat (first | exact (Kd.R_reads' HO1323.out).2.2 | (with_reducible refine Kd.C_alloc ?_ _) | (with_reducible refine Kd.C_drewN ?_ _) | (with_reducible refine Kd.C_drew ?_))); (case side2 => exact (Kd.R_reads' HO1323.out).2.1); rintro e w31 ⟨rfl, hb⟩; have n0_ := Aside0.mk (Kd.R_below (by (with_reducible repeat (first | apply Kd.R_alloc | apply Kd.R_drewN | apply Kd.R_drew)); exact HO1323.out) hb); have n1_ := Aside0.mk (Kd.R_below (by (with_reducible repeat (first | apply Kd.R_alloc | apply Kd.R_drewN | apply Kd.R_drew)); exact HO1327.out) hb); have n2_ := Aside0.mk (Kd.R_below (by (with_reducible repeat (first | apply Kd.R_alloc | apply Kd.R_drewN | apply Kd.R_drew)); exact HO1331.out) hb); have n3_ := Aside0.mk (Kd.R_below (by (with_reducible repeat (first | apply Kd.R_alloc | apply Kd.R_drewN | apply Kd.R_drew)); exact HO1335.out) hb); have n4_ := Aside0.mk (Kd.R_below (by (with_reducible repeat (first | apply Kd.R_alloc | apply Kd.R_drewN | apply Kd.R_drew)); exact HO1339.out) hb); have n5_ := Aside0.mk (below_step (by repeat (first | (with_reducible first | exact HB.out | apply below_alloc | apply pw_below_drewN | apply below_drew1) | exact HB.out)) hb); clear HO1323; clear HO1327; clear HO1331; clear HO1335; clear HO1339; clear HB; have HO1323 := n0_; have HO1327 := n1_; have HO1331 := n2_; have HO1335 := n3_; have HO1339 := n4_; have HB := n5_; clear n0_ n1_ n2_ n3_ n4_ n5_; (try clear hb); (try clear hb2); (try clear hk); (try clear hi)) | (go_at_call 48; (with_reducible refine (spec_IsUnavoidable.calls k t1319 _ _ t1320 t1321 t1343 _ ?side1 ?side2 A25.out).mono ?_); (case side1 => repeat (first | exact (Kd.R_reads' HO1323.out).2.2 | (with_reducible refine Kd.C_alloc ?_ _) | (with_reducible refine Kd.C_drewN ?_ _) | (with_reducible refine Kd.C_drew ?_))); (case side2 => exact (Kd.R_reads' HO1323.out).2.1); rintro e w32 ⟨rfl, hb⟩; have n0_ := Aside0.mk (Kd.R_below (by (with_reducible repeat (first | apply Kd.R_alloc | apply Kd.R_drewN | apply Kd.R_drew)); exact HO1323.out) hb); have n1_ := Aside0.mk (Kd.R_below (by (with_reducible repeat (first | apply Kd.R_alloc | apply Kd.R_drewN | apply Kd.R_drew)); exact HO1327.out) hb); have n2_ := Aside0.mk (Kd.R_below (by (with_reducible repeat (first | apply Kd.R_alloc | apply Kd.R_drewN | apply Kd.R_drew)); exact HO1331.out) hb); have n3_ := Aside0.mk (Kd.R_below (by (with_reducible repeat (first | apply Kd.R_alloc | apply Kd.R_drewN | apply Kd.R_drew)); exact HO1335.out) hb); have n4_ := Aside0.mk (Kd.R_below (by (with_reducible repeat (first | apply Kd.R_alloc | apply Kd.R_drewN | apply Kd.R_drew)); exact HO1339.out) hb); have n5_ := Aside0.mk (below_step (by repeat (first | (with_reducible first | exact HB.out | apply below_alloc | apply pw_below_drewN | apply below_drew1) | exact HB.out)) hb); clear HO1323; clear HO1327; clear HO1331; clear HO1335; clear HO1339; clear HB; have HO1323 := n0_; have HO1327 := n1_; have HO1331 := n2_; have HO1335 := n3_; have HO1339 := n4_; have HB := n5_; clear n0_ n1_ n2_ n3_ n4_ n5_; (try clear hb); (try clear hb2); (try clear hk); (try clear hi)))
         go_meet
         case rel => exact ⟨_, (true), (by first | rfl | (simp; done) | (simp [*]; done)), H', ⟨by first | omega | exact Nat.le_refl _⟩, ⟨by (with_reducible repeat (first | apply Kd.R_alloc | apply Kd.R_drewN | apply Kd.R_drew)); exact Kd.R_mono HO1323.out (fun _ hk => ⟨hk.1.1.2, hk.2⟩)⟩, ⟨by (with_reducible repeat (first | apply Kd.R_alloc | apply Kd.R_drewN | apply Kd.R_drew)); exact Kd.R_mono HO1331.out (fun _ hk => ⟨hk.1.1.1.2, hk.2⟩)⟩, ⟨by (with_reducible repeat (first | apply Kd.R_alloc | apply Kd.R_drewN | apply Kd.R_drew)); exact Kd.R_mono HO1339.out (fun _ hk => ⟨hk.1.1.1.2, hk.1.2⟩)⟩, ⟨by repeat (first | (with_reducible first | exact HB.out | apply below_alloc | apply pw_below_drewN | apply below_drew1) | exact HB.out)⟩⟩
       ·rw [if_neg c26] at H
        have c26b0 : (t1342 != t1343) = false := by simpa using c26
        (try (have c26b1 : decide (t1342 = t1343) = true := by simpa using c26))
        (try (have c26b2 : (t1342 == t1343) = true := by simpa using c26))
        clear c26
        replace H := Option.bind_eq_some_iff.mp H
        obtain ⟨t1344, A330, H⟩ := H
        replace H : (if t1344 = true then (laws_FnAvoidance.j0 k l0 t1319 t1320 t1321 t1325 t1328 t1333 t1336 t1333) else (laws_FnAvoidance.j0 k l0 t1319 t1320 t1321 t1325 t1328 t1333 t1336 false)) = some r := H
        have A33 := Aside0.mk A330
        clear A330
        obtain rfl : t1342 = t1344 := Option.some.inj (A24.out.symm.trans A33.out)
        by_cases c34 : t1342 = true
        ·subst c34
         have H1 : (laws_FnAvoidance.j0 k l0 t1319 t1320 t1321 t1325 t1328 t1333 t1336 t1333) = some r := by rw [if_pos rfl] at H; exact H
         clear H
         have H := H1
         clear H1
         as_aux_lemma =>
          have H' := Aside0.mk H
          clear H
          obtain ⟨Ao35, co35, eo35⟩ := Kd.R_slice HO1327.out
          subst eo35
          obtain ⟨Ao36, co36, eo36⟩ := Kd.R_slice HO1331.out
          subst eo36
          go_wp2_with (first | (go_at_call 36; (with_reducible refine (laws_sameInts.calls k _ _ t1324 _ _ t1328 true _ ?side1 ?side2 ?side3 ?side4 A17.out).mono ?_); (case side1 => repeat (first | exact (Kd.R_reads' HO1327.out).2.2 | (with_reducible refine Kd.C_alloc ?_ _) | (with_reducible refine Kd.C_drewN ?_ _) | (with_reducible refine Kd.C_drew ?_))); (case side2 => exact (Kd.R_reads' HO1327.out).2.1); (case side3 => repeat (first | exact (Kd.R_reads' HO1331.out).2.2 | (with_reducible refine Kd.C_alloc ?_ _) | (with_reducible refine Kd.C_drewN ?_ _) | (with_reducible refine Kd.C_drew ?_))); (case side4 => exact (Kd.R_reads' HO1331.out).2.1); rintro e w' ⟨rfl, ⟨nd, rfl⟩⟩; obtain ⟨Ao37, co37, eo37⟩ := Kd.R_slice HO1335.out; subst eo37; obtain ⟨Ao38, co38, eo38⟩ := Kd.R_slice HO1339.out; subst eo38) | (go_at_call 36; (with_reducible refine (laws_sameInts.calls k _ _ t1332 _ _ t1336 true _ ?side1 ?side2 ?side3 ?side4 A22.out).mono ?_); (case side1 => repeat (first | exact (Kd.R_reads' HO1335.out).2.2 | (with_reducible refine Kd.C_alloc ?_ _) | (with_reducible refine Kd.C_drewN ?_ _) | (with_reducible refine Kd.C_drew ?_))); (case side2 => exact (Kd.R_reads' HO1335.out).2.1); (case side3 => repeat (first | exact (Kd.R_reads' HO1339.out).2.2 | (with_reducible refine Kd.C_alloc ?_ _) | (with_reducible refine Kd.C_drewN ?_ _) | (with_reducible refine Kd.C_drew ?_))); (case side4 => exact (Kd.R_reads' HO1339.out).2.1); rintro e w' ⟨rfl, ⟨nd, rfl⟩⟩) | (go_at_call 49; (with_reducible refine (impl_IsUnavoidable.calls k t1319 _ _ t1320 t1321 t1342 _ ?side1 ?side2 A24.out).mono ?_); (case side1 => repeat (first | exact (Kd.R_reads' HO1323.out).2.2 | (with_reducible refine Kd.C_alloc ?_ _) | (with_reducible refine Kd.C_drewN ?_ _) | (with_reducible refine Kd.C_drew ?_))); (case side2 => exact (Kd.R_reads' HO1323.out).2.1); rintro e w39 ⟨rfl, hb⟩; have n0_ := Aside0.mk (Kd.R_below (by (with_reducible repeat (first | apply Kd.R_alloc | apply Kd.R_drewN | apply Kd.R_drew)); exact HO1323.out) hb); have n1_ := Aside0.mk (Kd.R_below (by (with_reducible repeat (first | apply Kd.R_alloc | apply Kd.R_drewN | apply Kd.R_drew)); exact HO1327.out) hb); have n2_ := Aside0.mk (Kd.R_below (by (with_reducible repeat (first | apply Kd.R_alloc | apply Kd.R_drewN | apply Kd.R_drew)); exact HO1331.out) hb); have n3_ := Aside0.mk (Kd.R_below (by (with_reducible repeat (first | apply Kd.R_alloc | apply Kd.R_drewN | apply Kd.R_drew)); exact HO1335.out) hb); have n4_ := Aside0.mk (Kd.R_below (by (with_reducible repeat (first | apply Kd.R_alloc | apply Kd.R_drewN | apply Kd.R_drew)); exact HO1339.out) hb); have n5_ := Aside0.mk (below_step (by repeat (first | (with_reducible first | exact HB.out | apply below_alloc | apply pw_below_drewN | apply below_drew1) | exact HB.out)) hb); clear HO1323; clear HO1327; clear HO1331; clear HO1335; clear HO1339; clear HB; have HO1323 := n0_; have HO1327 := n1_; have HO1331 := n2_; have HO1335 := n3_; have HO1339 := n4_; have HB := n5_; clear n0_ n1_ n2_ n3_ n4_ n5_; (try clear hb); (try clear hb2); (try clear hk); (try clear hi)) | (go_at_call 48; (with_reducible refine (spec_IsUnavoidable.calls k t1319 _ _ t1320 t1321 t1343 _ ?side1 ?side2 A25.out).mono ?_); (case side1 => repeat (first | exact (Kd.R_reads' HO1323.out).2.2 | (with_reducible refine Kd.C_alloc ?_ _) | (with_reducible refine Kd.C_drewN ?_ _) | (with_reducible refine Kd.C_drew ?_))); (case side2 => exact (Kd.R_reads' HO1323.out).2.1); rintro e w40 ⟨rfl, hb⟩; have n0_ := Aside0.mk (Kd.R_below (by (with_reducible repeat (first | apply Kd.R_alloc | apply Kd.R_drewN | apply Kd.R_drew)); exact HO1323.out) hb); have n1_ := Aside0.mk (Kd.R_below (by (with_reducible repeat (first | apply Kd.R_alloc | apply Kd.R_drewN | apply Kd.R_drew)); exact HO1327.out) hb); have n2_ := Aside0.mk (Kd.R_below (by (with_reducible repeat (first | apply Kd.R_alloc | apply Kd.R_drewN | apply Kd.R_drew)); exact HO1331.out) hb); have n3_ := Aside0.mk (Kd.R_below (by (with_reducible repeat (first | apply Kd.R_alloc | apply Kd.R_drewN | apply Kd.R_drew)); exact HO1335.out) hb); have n4_ := Aside0.mk (Kd.R_below (by (with_reducible repeat (first | apply Kd.R_alloc | apply Kd.R_drewN | apply Kd.R_drew)); exact HO1339.out) hb); have n5_ := Aside0.mk (below_step (by repeat (first | (with_reducible first | exact HB.out | apply below_alloc | apply pw_below_drewN | apply below_drew1) | exact HB.out)) hb); clear HO1323; clear HO1327; clear HO1331; clear HO1335; clear HO1339; clear HB; have HO1323 := n0_; have HO1327 := n1_; have HO1331 := n2_; have HO1335 := n3_; have HO1339 := n4_; have HB := n5_; clear n0_ n1_ n2_ n3_ n4_ n5_; (try clear hb); (try clear hb2); (try clear hk); (try clear hi)) | (go_at_call 49; (with_reducible refine (impl_IsUnavoidable.calls k t1319 _ _ t1320 t1321 true _ ?side1 ?side2 A33.out).mono ?_); (case side1 => repeat (first | exact (Kd.R_reads' HO1323.out).2.2 | (with_reducible refine Kd.C_alloc ?_ _) | (with_reducible refine Kd.C_drewN ?_ _) | (with_reducible refine Kd.C_drew ?_))); (case side2 => exact (Kd.R_reads' HO1323.out).2.1); rintro e w41 ⟨rfl, hb⟩; have n0_ := Aside0.mk (Kd.R_below (by (with_reducible repeat (first | apply Kd.R_alloc | apply Kd.R_drewN | apply Kd.R_drew)); exact HO1323.out) hb); have n1_ := Aside0.mk (Kd.R_below (by (with_reducible repeat (first | apply Kd.R_alloc | apply Kd.R_drewN | apply Kd.R_drew)); exact HO1327.out) hb); have n2_ := Aside0.mk (Kd.R_below (by (with_reducible repeat (first | apply Kd.R_alloc | apply Kd.R_drewN | apply Kd.R_drew)); exact HO1331.out) hb); have n3_ := Aside0.mk (Kd.R_below (by (with_reducible repeat (first | apply Kd.R_alloc | apply Kd.R_drewN | apply Kd.R_drew)); exact HO1335.out) hb); have n4_ := Aside0.mk (Kd.R_below (by (with_reducible repeat (first | apply Kd.R_alloc | apply Kd.R_drewN | apply Kd.R_drew)); exact HO1339.out) hb); have n5_ := Aside0.mk (below_step (by repeat (first | (with_reducible first | exact HB.out | apply below_alloc | apply pw_below_drewN | apply below_drew1) | exact HB.out)) hb); clear HO1323; clear HO1327; clear HO1331; clear HO1335; clear HO1339; clear HB; have HO1323 := n0_; have HO1327 := n1_; have HO1331 := n2_; have HO1335 := n3_; have HO1339 := n4_; have HB := n5_; clear n0_ n1_ n2_ n3_ n4_ n5_; (try clear hb); (try clear hb2); (try clear hk); (try clear hi)))
          go_meet
          case rel => exact ⟨_, (t1333), (by first | rfl | (simp; done) | (simp [*]; done)), H', ⟨by first | omega | exact Nat.le_refl _⟩, ⟨by (with_reducible repeat (first | apply Kd.R_alloc | apply Kd.R_drewN | apply Kd.R_drew)); exact Kd.R_mono HO1323.out (fun _ hk => ⟨hk.1.1.2, hk.2⟩)⟩, ⟨by (with_reducible repeat (first | apply Kd.R_alloc | apply Kd.R_drewN | apply Kd.R_drew)); exact Kd.R_mono HO1331.out (fun _ hk => ⟨hk.1.1.1.2, hk.2⟩)⟩, ⟨by (with_reducible repeat (first | apply Kd.R_alloc | apply Kd.R_drewN | apply Kd.R_drew)); exact Kd.R_mono HO1339.out (fun _ hk => ⟨hk.1.1.1.2, hk.1.2⟩)⟩, ⟨by repeat (first | (with_reducible first | exact HB.out | apply below_alloc | apply pw_below_drewN | apply below_drew1) | exact HB.out)⟩⟩
        ·replace c34 := Bool.eq_false_iff.mpr c34
         subst c34
         have H1 : (laws_FnAvoidance.j0 k l0 t1319 t1320 t1321 t1325 t1328 t1333 t1336 false) = some r := by rw [if_neg (show ¬ (false = true) by decide)] at H; exact H
         clear H
         have H := H1
         clear H1
         as_aux_lemma =>
          have H' := Aside0.mk H
          clear H
          obtain ⟨Ao42, co42, eo42⟩ := Kd.R_slice HO1327.out
          subst eo42
          obtain ⟨Ao43, co43, eo43⟩ := Kd.R_slice HO1331.out
          subst eo43
          go_wp2_with (first | (go_at_call 36; (with_reducible refine (laws_sameInts.calls k _ _ t1324 _ _ t1328 true _ ?side1 ?side2 ?side3 ?side4 A17.out).mono ?_); (case side1 => repeat (first | exact (Kd.R_reads' HO1327.out).2.2 | (with_reducible refine Kd.C_alloc ?_ _) | (with_reducible refine Kd.C_drewN ?_ _) | (with_reducible refine Kd.C_drew ?_))); (case side2 => exact (Kd.R_reads' HO1327.out).2.1); (case side3 => repeat (first | exact (Kd.R_reads' HO1331.out).2.2 | (with_reducible refine Kd.C_alloc ?_ _) | (with_reducible refine Kd.C_drewN ?_ _) | (with_reducible refine Kd.C_drew ?_))); (case side4 => exact (Kd.R_reads' HO1331.out).2.1); rintro e w' ⟨rfl, ⟨nd, rfl⟩⟩; obtain ⟨Ao44, co44, eo44⟩ := Kd.R_slice HO1335.out; subst eo44; obtain ⟨Ao45, co45, eo45⟩ := Kd.R_slice HO1339.out; subst eo45) | (go_at_call 36; (with_reducible refine (laws_sameInts.calls k _ _ t1332 _ _ t1336 true _ ?side1 ?side2 ?side3 ?side4 A22.out).mono ?_); (case side1 => repeat (first | exact (Kd.R_reads' HO1335.out).2.2 | (with_reducible refine Kd.C_alloc ?_ _) | (with_reducible refine Kd.C_drewN ?_ _) | (with_reducible refine Kd.C_drew ?_))); (case side2 => exact (Kd.R_reads' HO1335.out).2.1); (case side3 => repeat (first | exact (Kd.R_reads' HO1339.out).2.2 | (with_reducible refine Kd.C_alloc ?_ _) | (with_reducible refine Kd.C_drewN ?_ _) | (with_reducible refine Kd.C_drew ?_))); (case side4 => exact (Kd.R_reads' HO1339.out).2.1); rintro e w' ⟨rfl, ⟨nd, rfl⟩⟩) | (go_at_call 49; (with_reducible refine (impl_IsUnavoidable.calls k t1319 _ _ t1320 t1321 t1342 _ ?side1 ?side2 A24.out).mono ?_); (case side1 => repeat (first | exact (Kd.R_reads' HO1323.out).2.2 | (with_reducible refine Kd.C_alloc ?_ _) | (with_reducible refine Kd.C_drewN ?_ _) | (with_reducible refine Kd.C_drew ?_))); (case side2 => exact (Kd.R_reads' HO1323.out).2.1); rintro e w46 ⟨rfl, hb⟩; have n0_ := Aside0.mk (Kd.R_below (by (with_reducible repeat (first | apply Kd.R_alloc | apply Kd.R_drewN | apply Kd.R_drew)); exact HO1323.out) hb); have n1_ := Aside0.mk (Kd.R_below (by (with_reducible repeat (first | apply Kd.R_alloc | apply Kd.R_drewN | apply Kd.R_drew)); exact HO1327.out) hb); have n2_ := Aside0.mk (Kd.R_below (by (with_reducible repeat (first | apply Kd.R_alloc | apply Kd.R_drewN | apply Kd.R_drew)); exact HO1331.out) hb); have n3_ := Aside0.mk (Kd.R_below (by (with_reducible repeat (first | apply Kd.R_alloc | apply Kd.R_drewN | apply Kd.R_drew)); exact HO1335.out) hb); have n4_ := Aside0.mk (Kd.R_below (by (with_reducible repeat (first | apply Kd.R_alloc | apply Kd.R_drewN | apply Kd.R_drew)); exact HO1339.out) hb); have n5_ := Aside0.mk (below_step (by repeat (first | (with_reducible first | exact HB.out | apply below_alloc | apply pw_below_drewN | apply below_drew1) | exact HB.out)) hb); clear HO1323; clear HO1327; clear HO1331; clear HO1335; clear HO1339; clear HB; have HO1323 := n0_; have HO1327 := n1_; have HO1331 := n2_; have HO1335 := n3_; have HO1339 := n4_; have HB := n5_; clear n0_ n1_ n2_ n3_ n4_ n5_; (try clear hb); (try clear hb2); (try clear hk); (try clear hi)) | (go_at_call 48; (with_reducible refine (spec_IsUnavoidable.calls k t1319 _ _ t1320 t1321 t1343 _ ?side1 ?side2 A25.out).mono ?_); (case side1 => repeat (first | exact (Kd.R_reads' HO1323.out).2.2 | (with_reducible refine Kd.C_alloc ?_ _) | (with_reducible refine Kd.C_drewN ?_ _) | (with_reducible refine Kd.C_drew ?_))); (case side2 => exact (Kd.R_reads' HO1323.out).2.1); rintro e w47 ⟨rfl, hb⟩; have n0_ := Aside0.mk (Kd.R_below (by (with_reducible repeat (first | apply Kd.R_alloc | apply Kd.R_drewN | apply Kd.R_drew)); exact HO1323.out) hb); have n1_ := Aside0.mk (Kd.R_below (by (with_reducible repeat (first | apply Kd.R_alloc | apply Kd.R_drewN | apply Kd.R_drew)); exact HO1327.out) hb); have n2_ := Aside0.mk (Kd.R_below (by (with_reducible repeat (first | apply Kd.R_alloc | apply Kd.R_drewN | apply Kd.R_drew)); exact HO1331.out) hb); have n3_ := Aside0.mk (Kd.R_below (by (with_reducible repeat (first | apply Kd.R_alloc | apply Kd.R_drewN | apply Kd.R_drew)); exact HO1335.out) hb); have n4_ := Aside0.mk (Kd.R_below (by (with_reducible repeat (first | apply Kd.R_alloc | apply Kd.R_drewN | apply Kd.R_drew)); exact HO1339.out) hb); have n5_ := Aside0.mk (below_step (by repeat (first | (with_reducible first | exact HB.out | apply below_alloc | apply pw_below_drewN | apply below_drew1) | exact HB.out)) hb); clear HO1323; clear HO1327; clear HO1331; clear HO1335; clear HO1339; clear HB; have HO1323 := n0_; have HO1327 := n1_; have HO1331 := n2_; have HO1335 := n3_; have HO1339 := n4_; have HB := n5_; clear n0_ n1_ n2_ n3_ n4_ n5_; (try clear hb); (try clear hb2); (try clear hk); (try clear hi)) | (go_at_call 49; (with_reducible refine (impl_IsUnavoidable.calls k t1319 _ _ t1320 t1321 false _ ?side1 ?side2 A33.out).mono ?_); (case side1 => repeat (first | exact (Kd.R_reads' HO1323.out).2.2 | (with_reducible refine Kd.C_alloc ?_ _) | (with_reducible refine Kd.C_drewN ?_ _) | (with_reducible refine Kd.C_drew ?_))); (case side2 => exact (Kd.R_reads' HO1323.out).2.1); rintro e w48 ⟨rfl, hb⟩; have n0_ := Aside0.mk (Kd.R_below (by (with_reducible repeat (first | apply Kd.R_alloc | apply Kd.R_drewN | apply Kd.R_drew)); exact HO1323.out) hb); have n1_ := Aside0.mk (Kd.R_below (by (with_reducible repeat (first | apply Kd.R_alloc | apply Kd.R_drewN | apply Kd.R_drew)); exact HO1327.out) hb); have n2_ := Aside0.mk (Kd.R_below (by (with_reducible repeat (first | apply Kd.R_alloc | apply Kd.R_drewN | apply Kd.R_drew)); exact HO1331.out) hb); have n3_ := Aside0.mk (Kd.R_below (by (with_reducible repeat (first | apply Kd.R_alloc | apply Kd.R_drewN | apply Kd.R_drew)); exact HO1335.out) hb); have n4_ := Aside0.mk (Kd.R_below (by (with_reducible repeat (first | apply Kd.R_alloc | apply Kd.R_drewN | apply Kd.R_drew)); exact HO1339.out) hb); have n5_ := Aside0.mk (below_step (by repeat (first | (with_reducible first | exact HB.out | apply below_alloc | apply pw_below_drewN | apply below_drew1) | exact HB.out)) hb); clear HO1323; clear HO1327; clear HO1331; clear HO1335; clear HO1339; clear HB; have HO1323 := n0_; have HO1327 := n1_; have HO1331 := n2_; have HO1335 := n3_; have HO1339 := n4_; have HB := n5_; clear n0_ n1_ n2_ n3_ n4_ n5_; (try clear hb); (try clear hb2); (try clear hk); (try clear hi)))
          go_meet
          case rel => exact ⟨_, (false), (by first | rfl | (simp; done) | (simp [*]; done)), H', ⟨by first | omega | exact Nat.le_refl _⟩, ⟨by (with_reducible repeat (first | apply Kd.R_alloc | apply Kd.R_drewN | apply Kd.R_drew)); exact Kd.R_mono HO1323.out (fun _ hk => ⟨hk.1.1.2, hk.2⟩)⟩, ⟨by (with_reducible repeat (first | apply Kd.R_alloc | apply Kd.R_drewN | apply Kd.R_drew)); exact Kd.R_mono HO1331.out (fun _ hk => ⟨hk.1.1.1.2, hk.2⟩)⟩, ⟨by (with_reducible repeat (first | apply Kd.R_alloc | apply Kd.R_drewN | apply Kd.R_drew)); exact Kd.R_mono HO1339.out (fun _ hk => ⟨hk.1.1.1.2, hk.1.2⟩)⟩, ⟨by repeat (first | (with_reducible first | exact HB.out | apply below_alloc | apply pw_below_drewN | apply below_drew1) | exact HB.out)⟩⟩
      ·replace c23 := Bool.eq_false_iff.mpr c23
       subst c23
       have H1 : (laws_FnAvoidance.j0 k l0 t1319 t1320 t1321 t1325 t1328 t1333 t1336 true) = some r := by rw [if_neg (show ¬ (false = true) by decide)] at H; exact H
       clear H
       have H := H1
       clear H1
       as_aux_lemma =>
        have H' := Aside0.mk H
        clear H
        obtain ⟨Ao49, co49, eo49⟩ := Kd.R_slice HO1327.out
        subst eo49
        obtain ⟨Ao50, co50, eo50⟩ := Kd.R_slice HO1331.out
        subst eo50
        go_wp2_with (first | (go_at_call 36; (with_reducible refine (laws_sameInts.calls k _ _ t1324 _ _ t1328 true _ ?side1 ?side2 ?side3 ?side4 A17.out).mono ?_); (case side1 => repeat (first | exact (Kd.R_reads' HO1327.out).2.2 | (with_reducible refine Kd.C_alloc ?_ _) | (with_reducible refine Kd.C_drewN ?_ _) | (with_reducible refine Kd.C_drew ?_))); (case side2 => exact (Kd.R_reads' HO1327.out).2.1); (case side3 => repeat (first | exact (Kd.R_reads' HO1331.out).2.2 | (with_reducible refine Kd.C_alloc ?_ _) | (with_reducible refine Kd.C_drewN ?_ _) | (with_reducible refine Kd.C_drew ?_))); (case side4 => exact (Kd.R_reads' HO1331.out).2.1); rintro e w' ⟨rfl, ⟨nd, rfl⟩⟩; obtain ⟨Ao51, co51, eo51⟩ := Kd.R_slice HO1335.out; subst eo51; obtain ⟨Ao52, co52, eo52⟩ := Kd.R_slice HO1339.out; subst eo52) | (go_at_call 36; (with_reducible refine (laws_sameInts.calls k _ _ t1332 _ _ t1336 false _ ?side1 ?side2 ?side3 ?side4 A22.out).mono ?_); (case side1 => repeat (first | exact (Kd.R_reads' HO1335.out).2.2 | (with_reducible refine Kd.C_alloc ?_ _) | (with_reducible refine Kd.C_drewN ?_ _) | (with_reducible refine Kd.C_drew ?_))); (case side2 => exact (Kd.R_reads' HO1335.out).2.1); (case side3 => repeat (first | exact (Kd.R_reads' HO1339.out).2.2 | (with_reducible refine Kd.C_alloc ?_ _) | (with_reducible refine Kd.C_drewN ?_ _) | (with_reducible refine Kd.C_drew ?_))); (case side4 => exact (Kd.R_reads' HO1339.out).2.1); rintro e w' ⟨rfl, ⟨nd, rfl⟩⟩))
        go_meet
        case rel => exact ⟨_, (true), (by first | rfl | (simp; done) | (simp [*]; done)), H', ⟨by first | omega | exact Nat.le_refl _⟩, ⟨by (with_reducible repeat (first | apply Kd.R_alloc | apply Kd.R_drewN | apply Kd.R_drew)); exact Kd.R_mono HO1323.out (fun _ hk => ⟨hk.1.1.2, hk.2⟩)⟩, ⟨by (with_reducible repeat (first | apply Kd.R_alloc | apply Kd.R_drewN | apply Kd.R_drew)); exact Kd.R_mono HO1331.out (fun _ hk => ⟨hk.1.1.1.2, hk.2⟩)⟩, ⟨by (with_reducible repeat (first | apply Kd.R_alloc | apply Kd.R_drewN | apply Kd.R_drew)); exact Kd.R_mono HO1339.out (fun _ hk => ⟨hk.1.1.1.2, hk.1.2⟩)⟩, ⟨by repeat (first | (with_reducible first | exact HB.out | apply below_alloc | apply pw_below_drewN | apply below_drew1) | exact HB.out)⟩⟩
    ·replace c18 := Bool.eq_false_iff.mpr c18
     subst c18
     have H1 : (laws_FnAvoidance.j0 k l0 t1319 t1320 t1321 t1325 t1328 t1333 t1336 true) = some r := by rw [if_neg (show ¬ (false = true) by decide)] at H; exact H
     clear H
     have H := H1
     clear H1
     as_aux_lemma =>
      have H' := Aside0.mk H
      clear H
      obtain ⟨Ao53, co53, eo53⟩ := Kd.R_slice HO1327.out
      subst eo53
      obtain ⟨Ao54, co54, eo54⟩ := Kd.R_slice HO1331.out
      subst eo54
      go_wp2_with (first | (go_at_call 36; (with_reducible refine (laws_sameInts.calls k _ _ t1324 _ _ t1328 false _ ?side1 ?side2 ?side3 ?side4 A17.out).mono ?_); (case side1 => repeat (first | exact (Kd.R_reads' HO1327.out).2.2 | (with_reducible refine Kd.C_alloc ?_ _) | (with_reducible refine Kd.C_drewN ?_ _) | (with_reducible refine Kd.C_drew ?_))); (case side2 => exact (Kd.R_reads' HO1327.out).2.1); (case side3 => repeat (first | exact (Kd.R_reads' HO1331.out).2.2 | (with_reducible refine Kd.C_alloc ?_ _) | (with_reducible refine Kd.C_drewN ?_ _) | (with_reducible refine Kd.C_drew ?_))); (case side4 => exact (Kd.R_reads' HO1331.out).2.1); rintro e w' ⟨rfl, ⟨nd, rfl⟩⟩))
      go_meet
      case rel => exact ⟨_, (true), (by first | rfl | (simp; done) | (simp [*]; done)), H', ⟨by first | omega | exact Nat.le_refl _⟩, ⟨by (with_reducible repeat (first | apply Kd.R_alloc | apply Kd.R_drewN | apply Kd.R_drew)); exact Kd.R_mono HO1323.out (fun _ hk => ⟨hk.1.1.2, hk.2⟩)⟩, ⟨by (with_reducible repeat (first | apply Kd.R_alloc | apply Kd.R_drewN | apply Kd.R_drew)); exact Kd.R_mono HO1331.out (fun _ hk => ⟨hk.1.1.1.2, hk.2⟩)⟩, ⟨by (with_reducible repeat (first | apply Kd.R_alloc | apply Kd.R_drewN | apply Kd.R_drew)); exact Kd.R_mono HO1339.out (fun _ hk => ⟨hk.1.1.1.2, hk.1.2⟩)⟩, ⟨by repeat (first | (with_reducible first | exact HB.out | apply below_alloc | apply pw_below_drewN | apply below_drew1) | exact HB.out)⟩⟩
  case rest =>
   clear HC9
   try clear c1
   try clear c2
   try clear p2
   try clear c3
   try clear c5
   try clear c11
   try clear c16
   try clear c16b0
   try clear c16b1
   try clear c16b2
   try clear c18
   try clear c19
   try clear c19b0
   try clear c19b1
   try clear c19b2
   try clear c23
   try clear c26
   try clear c26b0
   try clear c26b1
   try clear c26b2
   try clear c34
   try clear c50
   try clear c51
   try clear c52
   try clear c53
   try clear c54
   obtain ⟨kq, x93_8, rfl, HA, HJ8, HO_4, HO_8, HO_12, HB⟩ := hcut
   cases kq with
   | zero => exact absurd HA.out (by simp [laws_FnAvoidance.j0])
   | succ kj8 =>
    have H := HA.out
    clear HA
    simp only [laws_FnAvoidance.j0] at H
    by_cases c55 : x93_8 = true
    ·subst c55
     have H1 : (some false) = some r := by rw [if_pos rfl] at H; exact H
     clear H
     have H := H1
     clear H1
     as_aux_lemma =>
      obtain rfl := Option.some.inj H
      go_wp2
      go_ret
      exact ⟨by first | rfl | (simp [errW_none, errW_some] <;> rfl) | (simp [*, errW_none, errW_some] <;> rfl), by repeat (first | (with_reducible first | exact HB.out | apply below_alloc | apply pw_below_drewN | apply below_drew1) | exact HB.out)⟩
    ·replace c55 := Bool.eq_false_iff.mpr c55
     subst c55
     have H1 : (if t1325 = true then (if (t1328.length : Int) > t1321 then (laws_FnAvoidance.j1 kj8 l0 t1319 t1320 t1321 t1333 true) else ((impl_AvoidsPattern.f kj8 t1328 t1320).bind fun t1345 => (if t1345 = true then ((spec_IsWord.f kj8 t1328 t1319).bind fun t1346 => (if t1346 = true then (if t1333 = true then (if (t1336.length : Int) = t1321 then ((laws_sameInts.f kj8 t1336 t1328).bind fun t1347 => (laws_FnAvoidance.j1 kj8 l0 t1319 t1320 t1321 t1333 (!t1347))) else (laws_FnAvoidance.j1 kj8 l0 t1319 t1320 t1321 t1333 true)) else (laws_FnAvoidance.j1 kj8 l0 t1319 t1320 t1321 t1333 false)) else (laws_FnAvoidance.j1 kj8 l0 t1319 t1320 t1321 t1333 true))) else (laws_FnAvoidance.j1 kj8 l0 t1319 t1320 t1321 t1333 true)))) else (if t1333 = true then (if (t1336.length : Int) = t1321 then ((laws_sameInts.f kj8 t1336 t1328).bind fun t1348 => (laws_FnAvoidance.j1 kj8 l0 t1319 t1320 t1321 t1333 (!t1348))) else (laws_FnAvoidance.j1 kj8 l0 t1319 t1320 t1321 t1333 true)) else (laws_FnAvoidance.j1 kj8 l0 t1319 t1320 t1321 t1333 false))) = some r := by rw [if_neg (show ¬ (false = true) by decide)] at H; exact H
     clear H
     have H := H1
     clear H1
     have HC56 := Aside0.mk H
     clear H
     go_upto_region 10 with (fail)
     go_cut [127] (fun v127 wc => ∃ (kq : Nat) (x127_55 : Bool), v127 = .bool x127_55 ∧ Aside0 (laws_FnAvoidance.j1 kq l0 t1319 t1320 t1321 t1333 x127_55 = some r) ∧ Aside0 (kq ≤ kj8) ∧ Aside0 (Kd.R (Kd.int .i64) 3 wc w.heap.size (fun _ => True) (.slice Ao11 t1320.length co11) t1320) ∧ Aside0 (Below w.heap.size w wc))
     case first =>
      have H := HC56.out
      clear HC56
      by_cases c57 : t1325 = true
      ·subst c57
       have H1 : (if (t1328.length : Int) > t1321 then (laws_FnAvoidance.j1 kj8 l0 t1319 t1320 t1321 t1333 true) else ((impl_AvoidsPattern.f kj8 t1328 t1320).bind fun t1345 => (if t1345 = true then ((spec_IsWord.f kj8 t1328 t1319).bind fun t1346 => (if t1346 = true then (if t1333 = true then (if (t1336.length : Int) = t1321 then ((laws_sameInts.f kj8 t1336 t1328).bind fun t1347 => (laws_FnAvoidance.j1 kj8 l0 t1319 t1320 t1321 t1333 (!t1347))) else (laws_FnAvoidance.j1 kj8 l0 t1319 t1320 t1321 t1333 true)) else (laws_FnAvoidance.j1 kj8 l0 t1319 t1320 t1321 t1333 false)) else (laws_FnAvoidance.j1 kj8 l0 t1319 t1320 t1321 t1333 true))) else (laws_FnAvoidance.j1 kj8 l0 t1319 t1320 t1321 t1333 true)))) = some r := by rw [if_pos rfl] at H; exact H
       clear H
       have H := H1
       clear H1
       by_cases c58 : (t1328.length : Int) > t1321
       ·rw [if_pos c58] at H
        have c58b0 : decide (t1321 < (t1328.length : Int)) = true := decide_eq_true c58
        clear c58
        (first | rw [c58b0] | (simp only [i64_w, i32_w]; rw [c58b0]) | skip)
        as_aux_lemma =>
         have H' := Aside0.mk H
         clear H
         obtain ⟨Ao59, co59, eo59⟩ := Kd.R_slice HO_8.out
         subst eo59
         go_wp2
         go_meet
         case rel => exact ⟨_, (true), (by first | rfl | (simp; done) | (simp [*]; done)), H', ⟨by have := HJ8.out; first | omega | exact Nat.le_refl _⟩, ⟨by (with_reducible repeat (first | apply Kd.R_alloc | apply Kd.R_drewN | apply Kd.R_drew)); exact Kd.R_mono HO_4.out (fun _ hk => trivial)⟩, ⟨by repeat (first | (with_reducible first | exact HB.out | apply below_alloc | apply pw_below_drewN | apply below_drew1) | exact HB.out)⟩⟩
       ·rw [if_neg c58] at H
        have c58b0 : decide (t1321 < (t1328.length : Int)) = false := decide_eq_false c58
        clear c58
        (first | rw [c58b0] | (simp only [i64_w, i32_w]; rw [c58b0]) | skip)
        replace H := Option.bind_eq_some_iff.mp H
        obtain ⟨t1345, A600, H⟩ := H
        replace H : (if t1345 = true then ((spec_IsWord.f kj8 t1328 t1319).bind fun t1346 => (if t1346 = true then (if t1333 = true then (if (t1336.length : Int) = t1321 then ((laws_sameInts.f kj8 t1336 t1328).bind fun t1347 => (laws_FnAvoidance.j1 kj8 l0 t1319 t1320 t1321 t1333 (!t1347))) else (laws_FnAvoidance.j1 kj8 l0 t1319 t1320 t1321 t1333 true)) else (laws_FnAvoidance.j1 kj8 l0 t1319 t1320 t1321 t1333 false)) else (laws_FnAvoidance.j1 kj8 l0 t1319 t1320 t1321 t1333 true))) else (laws_FnAvoidance.j1 kj8 l0 t1319 t1320 t1321 t1333 true)) = some r := H
        have A60 := Aside0.mk A600
        clear A600
        by_cases c61 : t1345 = true
        ·subst c61
         have H1 : ((spec_IsWord.f kj8 t1328 t1319).bind fun t1346 => (if t1346 = true then (if t1333 = true then (if (t1336.length : Int) = t1321 then ((laws_sameInts.f kj8 t1336 t1328).bind fun t1347 => (laws_FnAvoidance.j1 kj8 l0 t1319 t1320 t1321 t1333 (!t1347))) else (laws_FnAvoidance.j1 kj8 l0 t1319 t1320 t1321 t1333 true)) else (laws_FnAvoidance.j1 kj8 l0 t1319 t1320 t1321 t1333 false)) else (laws_FnAvoidance.j1 kj8 l0 t1319 t1320 t1321 t1333 true))) = some r := by rw [if_pos rfl] at H; exact H
         clear H
         have H := H1
         clear H1
         replace H := Option.bind_eq_some_iff.mp H
         obtain ⟨t1346, A620, H⟩ := H
         replace H : (if t1346 = true then (if t1333 = true then (if (t1336.length : Int) = t1321 then ((laws_sameInts.f kj8 t1336 t1328).bind fun t1347 => (laws_FnAvoidance.j1 kj8 l0 t1319 t1320 t1321 t1333 (!t1347))) else (laws_FnAvoidance.j1 kj8 l0 t1319 t1320 t1321 t1333 true)) else (laws_FnAvoidance.j1 kj8 l0 t1319 t1320 t1321 t1333 false)) else (laws_FnAvoidance.j1 kj8 l0 t1319 t1320 t1321 t1333 true)) = some r := H
         have A62 := Aside0.mk A620
         clear A620
         by_cases c63 : t1346 = true
         ·subst c63
          have H1 : (if t1333 = true then (if (t1336.length : Int) = t1321 then ((laws_sameInts.f kj8 t1336 t1328).bind fun t1347 => (laws_FnAvoidance.j1 kj8 l0 t1319 t1320 t1321 t1333 (!t1347))) else (laws_FnAvoidance.j1 kj8 l0 t1319 t1320 t1321 t1333 true)) else (laws_FnAvoidance.j1 kj8 l0 t1319 t1320 t1321 t1333 false)) = some r := by rw [if_pos rfl] at H; exact H
          clear H
          have H := H1
          clear H1
          by_cases c64 : t1333 = true
          ·subst c64
           have H1 : (if (t1336.length : Int) = t1321 then ((laws_sameInts.f kj8 t1336 t1328).bind fun t1347 => (laws_FnAvoidance.j1 kj8 l0 t1319 t1320 t1321 true (!t1347))) else (laws_FnAvoidance.j1 kj8 l0 t1319 t1320 t1321 true true)) = some r := by rw [if_pos rfl] at H; exact H
           clear H
           have H := H1
           clear H1
           by_cases c65 : (t1336.length : Int) = t1321
           ·rw [if_pos c65] at H
            have c65b0 : ((t1336.length : Int) == t1321) = true := beq_iff_eq.mpr c65
            have c65b1 : ((t1336.length : Int) != t1321) = false := bne_eq_false_iff_eq.mpr c65
            clear c65
            replace H := Option.bind_eq_some_iff.mp H
            obtain ⟨t1347, A660, H⟩ := H
            replace H : (laws_FnAvoidance.j1 kj8 l0 t1319 t1320 t1321 true (!t1347)) = some r := H
            have A66 := Aside0.mk A660
            clear A660
            as_aux_lemma =>
             have H' := Aside0.mk H
             clear H
             obtain ⟨Ao67, co67, eo67⟩ := Kd.R_slice HO_8.out
             subst eo67
             go_wp2_with (first | (go_at_call 55; (with_reducible refine (impl_AvoidsPattern.calls kj8 _ _ t1328 _ _ t1320 true _ ?side1 ?side2 ?side3 ?side4 A60.out).mono ?_); (case side1 => repeat (first | exact (Kd.R_reads' HO_8.out).2.2 | (with_reducible refine Kd.C_alloc ?_ _) | (with_reducible refine Kd.C_drewN ?_ _) | (with_reducible refine Kd.C_drew ?_))); (case side2 => exact (Kd.R_reads' HO_8.out).2.1); (case side3 => repeat (first | exact (Kd.R_reads' HO_4.out).2.2 | (with_reducible refine Kd.C_alloc ?_ _) | (with_reducible refine Kd.C_drewN ?_ _) | (with_reducible refine Kd.C_drew ?_))); (case side4 => exact (Kd.R_reads' HO_4.out).2.1); rintro e w68 ⟨rfl, hb⟩; have n0_ := Aside0.mk (Kd.R_below (by (with_reducible repeat (first | apply Kd.R_alloc | apply Kd.R_drewN | apply Kd.R_drew)); exact HO_4.out) hb); have n1_ := Aside0.mk (Kd.R_below (by (with_reducible repeat (first | apply Kd.R_alloc | apply Kd.R_drewN | apply Kd.R_drew)); exact HO_8.out) hb); have n2_ := Aside0.mk (Kd.R_below (by (with_reducible repeat (first | apply Kd.R_alloc | apply Kd.R_drewN | apply Kd.R_drew)); exact HO_12.out) hb); have n3_ := Aside0.mk (below_step (by repeat (first | (with_reducible first | exact HB.out | apply below_alloc | apply pw_below_drewN | apply below_drew1) | exact HB.out)) hb); clear HO_4; clear HO_8; clear HO_12; clear HB; have HO_4 := n0_; have HO_8 := n1_; have HO_12 := n2_; have HB := n3_; clear n0_ n1_ n2_ n3_; (try clear hb); (try clear hb2); (try clear hk); (try clear hi)) | (go_at_call 56; (with_reducible refine (spec_IsWord.calls kj8 _ _ t1328 t1319 true _ ?side1 ?side2 A62.out).mono ?_); (case side1 => repeat (first | exact (Kd.R_reads' HO_8.out).2.2 | (with_reducible refine Kd.C_alloc ?_ _) | (with_reducible refine Kd.C_drewN ?_ _) | (with_reducible refine Kd.C_drew ?_))); (case side2 => exact (Kd.R_reads' HO_8.out).2.1); rintro e w' ⟨rfl, ⟨nd, rfl⟩⟩; obtain ⟨Ao69, co69, eo69⟩ := Kd.R_slice HO_12.out; subst eo69) | (go_at_call 36; (with_reducible refine (laws_sameInts.calls kj8 _ _ t1336 _ _ t1328 t1347 _ ?side1 ?side2 ?side3 ?side4 A66.out).mono ?_); (case side1 => repeat (first | exact (Kd.R_reads' HO_12.out).2.2 | (with_reducible refine Kd.C_alloc ?_ _) | (with_reducible refine Kd.C_drewN ?_ _) | (with_reducible refine Kd.C_drew ?_))); (case side2 => exact (Kd.R_reads' HO_12.out).2.1); (case side3 => repeat (first | exact (Kd.R_reads' HO_8.out).2.2 | (with_reducible refine Kd.C_alloc ?_ _) | (with_reducible refine Kd.C_drewN ?_ _) | (with_reducible refine Kd.C_drew ?_))); (case side4 => exact (Kd.R_reads' HO_8.out).2.1); rintro e w' ⟨rfl, ⟨nd, rfl⟩⟩))
             go_meet
             case rel => exact ⟨_, (!t1347), (by first | rfl | (simp; done) | (simp [*]; done)), H', ⟨by have := HJ8.out; first | omega | exact Nat.le_refl _⟩, ⟨by (with_reducible repeat (first | apply Kd.R_alloc | apply Kd.R_drewN | apply Kd.R_drew)); exact Kd.R_mono HO_4.out (fun _ hk => trivial)⟩, ⟨by repeat (first | (with_reducible first | exact HB.out | apply below_alloc | apply pw_below_drewN | apply below_drew1) | exact HB.out)⟩⟩
           ·rw [if_neg c65] at H
            have c65b0 : ((t1336.length : Int) == t1321) = false := beq_eq_false_iff_ne.mpr c65
            have c65b1 : ((t1336.length : Int) != t1321) = true := bne_iff_ne.mpr c65
            as_aux_lemma =>
             have H' := Aside0.mk H
             clear H
             obtain ⟨Ao70, co70, eo70⟩ := Kd.R_slice HO_8.out
             subst eo70
             go_wp2_with (first | (go_at_call 55; (with_reducible refine (impl_AvoidsPattern.calls kj8 _ _ t1328 _ _ t1320 true _ ?side1 ?side2 ?side3 ?side4 A60.out).mono ?_); (case side1 => repeat (first | exact (Kd.R_reads' HO_8.out).2.2 | (with_reducible refine Kd.C_alloc ?_ _) | (with_reducible refine Kd.C_drewN ?_ _) | (with_reducible refine Kd.C_drew ?_))); (case side2 => exact (Kd.R_reads' HO_8.out).2.1); (case side3 => repeat (first | exact (Kd.R_reads' HO_4.out).2.2 | (with_reducible refine Kd.C_alloc ?_ _) | (with_reducible refine Kd.C_drewN ?_ _) | (with_reducible refine Kd.C_drew ?_))); (case side4 => exact (Kd.R_reads' HO_4.out).2.1); rintro e w71 ⟨rfl, hb⟩; have n0_ := Aside0.mk (Kd.R_below (by (with_reducible repeat (first | apply Kd.R_alloc | apply Kd.R_drewN | apply Kd.R_drew)); exact HO_4.out) hb); have n1_ := Aside0.mk (Kd.R_below (by (with_reducible repeat (first | apply Kd.R_alloc | apply Kd.R_drewN | apply Kd.R_drew)); exact HO_8.out) hb); have n2_ := Aside0.mk (Kd.R_below (by (with_reducible repeat (first | apply Kd.R_alloc | apply Kd.R_drewN | apply Kd.R_drew)); exact HO_12.out) hb); have n3_ := Aside0.mk (below_step (by repeat (first | (with_reducible first | exact HB.out | apply below_alloc | apply pw_below_drewN | apply below_drew1) | exact HB.out)) hb); clear HO_4; clear HO_8; clear HO_12; clear HB; have HO_4 := n0_; have HO_8 := n1_; have HO_12 := n2_; have HB := n3_; clear n0_ n1_ n2_ n3_; (try clear hb); (try clear hb2); (try clear hk); (try clear hi)) | (go_at_call 56; (with_reducible refine (spec_IsWord.calls kj8 _ _ t1328 t1319 true _ ?side1 ?side2 A62.out).mono ?_); (case side1 => repeat (first | exact (Kd.R_reads' HO_8.out).2.2 | (with_reducible refine Kd.C_alloc ?_ _) | (with_reducible refine Kd.C_drewN ?_ _) | (with_reducible refine Kd.C_drew ?_))); (case side2 => exact (Kd.R_reads' HO_8.out).2.1); rintro e w' ⟨rfl, ⟨nd, rfl⟩⟩; obtain ⟨Ao72, co72, eo72⟩ := Kd.R_slice HO_12.out; subst eo72))
             go_meet
             case rel => exact ⟨_, (true), (by first | rfl | (simp; done) | (simp [*]; done)), H', ⟨by have := HJ8.out; first | omega | exact Nat.le_refl _⟩, ⟨by (with_reducible repeat (first | apply Kd.R_alloc | apply Kd.R_drewN | apply Kd.R_drew)); exact Kd.R_mono HO_4.out (fun _ hk => trivial)⟩, ⟨by repeat (first | (with_reducible first | exact HB.out | apply below_alloc | apply pw_below_drewN | apply below_drew1) | exact HB.out)⟩⟩
          ·replace c64 := Bool.eq_false_iff.mpr c64
           subst c64
           have H1 : (laws_FnAvoidance.j1 kj8 l0 t1319 t1320 t1321 false false) = some r := by rw [if_neg (show ¬ (false = true) by decide)] at H; exact H
           clear H
           have H := H1
           clear H1
           as_aux_lemma =>
            have H' := Aside0.mk H
            clear H
            obtain ⟨Ao73, co73, eo73⟩ := Kd.R_slice HO_8.out
            subst eo73
            go_wp2_with (first | (go_at_call 55; (with_reducible refine (impl_AvoidsPattern.calls kj8 _ _ t1328 _ _ t1320 true _ ?side1 ?side2 ?side3 ?side4 A60.out).mono ?_); (case side1 => repeat (first | exact (Kd.R_reads' HO_8.out).2.2 | (with_reducible refine Kd.C_alloc ?_ _) | (with_reducible refine Kd.C_drewN ?_ _) | (with_reducible refine Kd.C_drew ?_))); (case side2 => exact (Kd.R_reads' HO_8.out).2.1); (case side3 => repeat (first | exact (Kd.R_reads' HO_4.out).2.2 | (with_reducible refine Kd.C_alloc ?_ _) | (with_reducible refine Kd.C_drewN ?_ _) | (with_reducible refine Kd.C_drew ?_))); (case side4 => exact (Kd.R_reads' HO_4.out).2.1); rintro e w74 ⟨rfl, hb⟩; have n0_ := Aside0.mk (Kd.R_below (by (with_reducible repeat (first | apply Kd.R_alloc | apply Kd.R_drewN | apply Kd.R_drew)); exact HO_4.out) hb); have n1_ := Aside0.mk (Kd.R_below (by (with_reducible repeat (first | apply Kd.R_alloc | apply Kd.R_drewN | apply Kd.R_drew)); exact HO_8.out) hb); have n2_ := Aside0.mk (Kd.R_below (by (with_reducible repeat (first | apply Kd.R_alloc | apply Kd.R_drewN | apply Kd.R_drew)); exact HO_12.out) hb); have n3_ := Aside0.mk (below_step (by repeat (first | (with_reducible first | exact HB.out | apply below_alloc | apply pw_below_drewN | apply below_drew1) | exact HB.out)) hb); clear HO_4; clear HO_8; clear HO_12; clear HB; have HO_4 := n0_; have HO_8 := n1_; have HO_12 := n2_; have HB := n3_; clear n0_ n1_ n2_ n3_; (try clear hb); (try clear hb2); (try clear hk); (try clear hi)) | (go_at_call 56; (with_reducible refine (spec_IsWord.calls kj8 _ _ t1328 t1319 true _ ?side1 ?side2 A62.out).mono ?_); (case side1 => repeat (first | exact (Kd.R_reads' HO_8.out).2.2 | (with_reducible refine Kd.C_alloc ?_ _) | (with_reducible refine Kd.C_drewN ?_ _) | (with_reducible refine Kd.C_drew ?_))); (case side2 => exact (Kd.R_reads' HO_8.out).2.1); rintro e w' ⟨rfl, ⟨nd, rfl⟩⟩))
            go_meet
            case rel => exact ⟨_, (false), (by first | rfl | (simp; done) | (simp [*]; done)), H', ⟨by have := HJ8.out; first | omega | exact Nat.le_refl _⟩, ⟨by (with_reducible repeat (first | apply Kd.R_alloc | apply Kd.R_drewN | apply Kd.R_drew)); exact Kd.R_mono HO_4.out (fun _ hk => trivial)⟩, ⟨by repeat (first | (with_reducible first | exact HB.out | apply below_alloc | apply pw_below_drewN | apply below_drew1) | exact HB.out)⟩⟩
         ·replace c63 := Bool.eq_false_iff.mpr c63
          subst c63
          have H1 : (laws_FnAvoidance.j1 kj8 l0 t1319 t1320 t1321 t1333 true) = some r := by rw [if_neg (show ¬ (false = true) by decide)] at H; exact H
          clear H
          have H := H1
          clear H1
          as_aux_lemma =>
           have H' := Aside0.mk H
           clear H
           obtain ⟨Ao75, co75, eo75⟩ := Kd.R_slice HO_8.out
           subst eo75
           go_wp2_with (first | (go_at_call 55; (with_reducible refine (impl_AvoidsPattern.calls kj8 _ _ t1328 _ _ t1320 true _ ?side1 ?side2 ?side3 ?side4 A60.out).mono ?_); (case side1 => repeat (first | exact (Kd.R_reads' HO_8.out).2.2 | (with_reducible refine Kd.C_alloc ?_ _) | (with_reducible refine Kd.C_drewN ?_ _) | (with_reducible refine Kd.C_drew ?_))); (case side2 => exact (Kd.R_reads' HO_8.out).2.1); (case side3 => repeat (first | exact (Kd.R_reads' HO_4.out).2.2 | (with_reducible refine Kd.C_alloc ?_ _) | (with_reducible refine Kd.C_drewN ?_ _) | (with_reducible refine Kd.C_drew ?_))); (case side4 => exact (Kd.R_reads' HO_4.out).2.1); rintro e w76 ⟨rfl, hb⟩; have n0_ := Aside0.mk (Kd.R_below (by (with_reducible repeat (first | apply Kd.R_alloc | apply Kd.R_drewN | apply Kd.R_drew)); exact HO_4.out) hb); have n1_ := Aside0.mk (Kd.R_below (by (with_reducible repeat (first | apply Kd.R_alloc | apply Kd.R_drewN | apply Kd.R_drew)); exact HO_8.out) hb); have n2_ := Aside0.mk (Kd.R_below (by (with_reducible repeat (first | apply Kd.R_alloc | apply Kd.R_drewN | apply Kd.R_drew)); exact HO_12.out) hb); have n3_ := Aside0.mk (below_step (by repeat (first | (with_reducible first | exact HB.out | apply below_alloc | apply pw_below_drewN | apply below_drew1) | exact HB.out)) hb); clear HO_4; clear HO_8; clear HO_12; clear HB; have HO_4 := n0_; have HO_8 := n1_; have HO_12 := n2_; have HB := n3_; clear n0_ n1_ n2_ n3_; (try clear hb); (try clear hb2); (try clear hk); (try clear hi)) | (go_at_call 56; (with_reducible refine (spec_IsWord.calls kj8 _ _ t1328 t1319 false _ ?side1 ?side2 A62.out).mono ?_); (case side1 => repeat (first | exact (Kd.R_reads' HO_8.out).2.2 | (with_reducible refine Kd.C_alloc ?_ _) | (with_reducible refine Kd.C_drewN ?_ _) | (with_reducible refine Kd.C_drew ?_))); (case side2 => exact (Kd.R_reads' HO_8.out).2.1); rintro e w' ⟨rfl, ⟨nd, rfl⟩⟩))
           go_meet
           case rel => exact ⟨_, (true), (by first | rfl | (simp; done) | (simp [*]; done)), H', ⟨by have := HJ8.out; first | omega | exact Nat.le_refl _⟩, ⟨by (with_reducible repeat (first | apply Kd.R_alloc | apply Kd.R_drewN | apply Kd.R_drew)); exact Kd.R_mono HO_4.out (fun _ hk => trivial)⟩, ⟨by repeat (first | (with_reducible first | exact HB.out | apply below_alloc | apply pw_below_drewN | apply below_drew1) | exact HB.out)⟩⟩
        ·replace c61 := Bool.eq_false_iff.mpr c61
         subst c61
         have H1 : (laws_FnAvoidance.j1 kj8 l0 t1319 t1320 t1321 t1333 true) = some r := by rw [if_neg (show ¬ (false = true) by decide)] at H; exact H
         clear H
         have H := H1
         clear H1
         as_aux_lemma =>
          have H' := Aside0.mk H
          clear H
          obtain ⟨Ao77, co77, eo77⟩ := Kd.R_slice HO_8.out
          subst eo77
          go_wp2_with (first | (go_at_call 55; (with_reducible refine (impl_AvoidsPattern.calls kj8 _ _ t1328 _ _ t1320 false _ ?side1 ?side2 ?side3 ?side4 A60.out).mono ?_); (case side1 => repeat (first | exact (Kd.R_reads' HO_8.out).2.2 | (with_reducible refine Kd.C_alloc ?_ _) | (with_reducible refine Kd.C_drewN ?_ _) | (with_reducible refine Kd.C_drew ?_))); (case side2 => exact (Kd.R_reads' HO_8.out).2.1); (case side3 => repeat (first | exact (Kd.R_reads' HO_4.out).2.2 | (with_reducible refine Kd.C_alloc ?_ _) | (with_reducible refine Kd.C_drewN ?_ _) | (with_reducible refine Kd.C_drew ?_))); (case side4 => exact (Kd.R_reads' HO_4.out).2.1); rintro e w78 ⟨rfl, hb⟩; have n0_ := Aside0.mk (Kd.R_below (by (with_reducible repeat (first | apply Kd.R_alloc | apply Kd.R_drewN | apply Kd.R_drew)); exact HO_4.out) hb); have n1_ := Aside0.mk (Kd.R_below (by (with_reducible repeat (first | apply Kd.R_alloc | apply Kd.R_drewN | apply Kd.R_drew)); exact HO_8.out) hb); have n2_ := Aside0.mk (Kd.R_below (by (with_reducible repeat (first | apply Kd.R_alloc | apply Kd.R_drewN | apply Kd.R_drew)); exact HO_12.out) hb); have n3_ := Aside0.mk (below_step (by repeat (first | (with_reducible first | exact HB.out | apply below_alloc | apply pw_below_drewN | apply below_drew1) | exact HB.out)) hb); clear HO_4; clear HO_8; clear HO_12; clear HB; have HO_4 := n0_; have HO_8 := n1_; have HO_12 := n2_; have HB := n3_; clear n0_ n1_ n2_ n3_; (try clear hb); (try clear hb2); (try clear hk); (try clear hi)))
          go_meet
          case rel => exact ⟨_, (true), (by first | rfl | (simp; done) | (simp [*]; done)), H', ⟨by have := HJ8.out; first | omega | exact Nat.le_refl _⟩, ⟨by (with_reducible repeat (first | apply Kd.R_alloc | apply Kd.R_drewN | apply Kd.R_drew)); exact Kd.R_mono HO_4.out (fun _ hk => trivial)⟩, ⟨by repeat (first | (with_reducible first | exact HB.out | apply below_alloc | apply pw_below_drewN | apply below_drew1) | exact HB.out)⟩⟩
      ·replace c57 := Bool.eq_false_iff.mpr c57
       subst c57
       have H1 : (if t1333 = true then (if (t1336.length : Int) = t1321 then ((laws_sameInts.f kj8 t1336 t1328).bind fun t1348 => (laws_FnAvoidance.j1 kj8 l0 t1319 t1320 t1321 t1333 (!t1348))) else (laws_FnAvoidance.j1 kj8 l0 t1319 t1320 t1321 t1333 true)) else (laws_FnAvoidance.j1 kj8 l0 t1319 t1320 t1321 t1333 false)) = some r := by rw [if_neg (show ¬ (false = true) by decide)] at H; exact H
       clear H
       have H := H1
       clear H1
       by_cases c79 : t1333 = true
       ·subst c79
        have H1 : (if (t1336.length : Int) = t1321 then ((laws_sameInts.f kj8 t1336 t1328).bind fun t1348 => (laws_FnAvoidance.j1 kj8 l0 t1319 t1320 t1321 true (!t1348))) else (laws_FnAvoidance.j1 kj8 l0 t1319 t1320 t1321 true true)) = some r := by rw [if_pos rfl] at H; exact H
        clear H
        have H := H1
        clear H1
        by_cases c80 : (t1336.length : Int) = t1321
        ·rw [if_pos c80] at H
         have c80b0 : ((t1336.length : Int) == t1321) = true := beq_iff_eq.mpr c80
         have c80b1 : ((t1336.length : Int) != t1321) = false := bne_eq_false_iff_eq.mpr c80
         clear c80
         replace H := Option.bind_eq_some_iff.mp H
         obtain ⟨t1348, A810, H⟩ := H
         replace H : (laws_FnAvoidance.j1 kj8 l0 t1319 t1320 t1321 true (!t1348)) = some r := H
         have A81 := Aside0.mk A810
         clear A810
         as_aux_lemma =>
          have H' := Aside0.mk H
          clear H
          obtain ⟨Ao82, co82, eo82⟩ := Kd.R_slice HO_12.out
          subst eo82
          obtain ⟨Ao83, co83, eo83⟩ := Kd.R_slice HO_8.out
          subst eo83
          go_wp2_with (first | (go_at_call 36; (with_reducible refine (laws_sameInts.calls kj8 _ _ t1336 _ _ t1328 t1348 _ ?side1 ?side2 ?side3 ?side4 A81.out).mono ?_); (case side1 => repeat (first | exact (Kd.R_reads' HO_12.out).2.2 | (with_reducible refine Kd.C_alloc ?_ _) | (with_reducible refine Kd.C_drewN ?_ _) | (with_reducible refine Kd.C_drew ?_))); (case side2 => exact (Kd.R_reads' HO_12.out).2.1); (case side3 => repeat (first | exact (Kd.R_reads' HO_8.out).2.2 | (with_reducible refine Kd.C_alloc ?_ _) | (with_reducible refine Kd.C_drewN ?_ _) | (with_reducible refine Kd.C_drew ?_))); (case side4 => exact (Kd.R_reads' HO_8.out).2.1); rintro e w' ⟨rfl, ⟨nd, rfl⟩⟩))
          go_meet
          case rel => exact ⟨_, (!t1348), (by first | rfl | (simp; done) | (simp [*]; done)), H', ⟨by have := HJ8.out; first | omega | exact Nat.le_refl _⟩, ⟨by (with_reducible repeat (first | apply Kd.R_alloc | apply Kd.R_drewN | apply Kd.R_drew)); exact Kd.R_mono HO_4.out (fun _ hk => trivial)⟩, ⟨by repeat (first | (with_reducible first | exact HB.out | apply below_alloc | apply pw_below_drewN | apply below_drew1) | exact HB.out)⟩⟩
        ·rw [if_neg c80] at H
         have c80b0 : ((t1336.length : Int) == t1321) = false := beq_eq_false_iff_ne.mpr c80
         have c80b1 : ((t1336.length : Int) != t1321) = true := bne_iff_ne.mpr c80
         as_aux_lemma =>
          have H' := Aside0.mk H
          clear H
          obtain ⟨Ao84, co84, eo84⟩ := Kd.R_slice HO_12.out
          subst eo84
          go_wp2
          go_meet
          case rel => exact ⟨_, (true), (by first | rfl | (simp; done) | (simp [*]; done)), H', ⟨by have := HJ8.out; first | omega | exact Nat.le_refl _⟩, ⟨by (with_reducible repeat (first | apply Kd.R_alloc | apply Kd.R_drewN | apply Kd.R_drew)); exact Kd.R_mono HO_4.out (fun _ hk => trivial)⟩, ⟨by repeat (first | (with_reducible first | exact HB.out | apply below_alloc | apply pw_below_drewN | apply below_drew1) | exact HB.out)⟩⟩
       ·replace c79 := Bool.eq_false_iff.mpr c79
        subst c79
        have H1 : (laws_FnAvoidance.j1 kj8 l0 t1319 t1320 t1321 false false) = some r := by rw [if_neg (show ¬ (false = true) by decide)] at H; exact H
        clear H
        have H := H1
        clear H1
        as_aux_lemma =>
         have H' := Aside0.mk H
         clear H
         go_wp2
         go_meet
         case rel => exact ⟨_, (false), (by first | rfl | (simp; done) | (simp [*]; done)), H', ⟨by have := HJ8.out; first | omega | exact Nat.le_refl _⟩, ⟨by (with_reducible repeat (first | apply Kd.R_alloc | apply Kd.R_drewN | apply Kd.R_drew)); exact Kd.R_mono HO_4.out (fun _ hk => trivial)⟩, ⟨by repeat (first | (with_reducible first | exact HB.out | apply below_alloc | apply pw_below_drewN | apply below_drew1) | exact HB.out)⟩⟩
     case rest =>
      clear HC56
      try clear c1
      try clear c2
      try clear p2
      try clear c3
      try clear c5
      try clear c6
      try clear c7
      try clear c8
      try clear c11
      try clear c16
      try clear c16b0
      try clear c16b1
      try clear c16b2
      try clear c18
      try clear c19
      try clear c19b0
      try clear c19b1
      try clear c19b2
      try clear c23
      try clear c26
      try clear c26b0
      try clear c26b1
      try clear c26b2
      try clear c34
      try clear c50
      try clear c51
      try clear c52
      try clear c53
      try clear c54
      try clear c55
      try clear c57
      try clear c58
      try clear c58b0
      try clear c61
      try clear c63
      try clear c64
      try clear c65
      try clear c65b0
      try clear c65b1
      try clear c79
      try clear c80
      try clear c80b0
      try clear c80b1
      try clear p2
      obtain ⟨kq, x127_55, rfl, HA, HJ55, HO_4, HB⟩ := hcut
      cases kq with
      | zero => exact absurd HA.out (by simp [laws_FnAvoidance.j1])
      | succ kj55 =>
       have H := HA.out
       clear HA
       simp only [laws_FnAvoidance.j1] at H
       by_cases c85 : x127_55 = true
       ·subst c85
        have H1 : (some false) = some r := by rw [if_pos rfl] at H; exact H
        clear H
        have H := H1
        clear H1
        as_aux_lemma =>
         obtain rfl := Option.some.inj H
         go_wp2
         go_ret
         exact ⟨by first | rfl | (simp [errW_none, errW_some] <;> rfl) | (simp [*, errW_none, errW_some] <;> rfl), by repeat (first | (with_reducible first | exact HB.out | apply below_alloc | apply pw_below_drewN | apply below_drew1) | exact HB.out)⟩
       ·replace c85 := Bool.eq_false_iff.mpr c85
        subst c85
        have H1 : ((impl_CountAvoiding.f kj55 t1319 t1320 t1321).bind fun t1349 => ((spec_CountAvoiding.f kj55 t1319 t1320 t1321).bind fun t1350 => (if t1349 = t1350 then (if t1349 = 0 then (if t1333 = true then (laws_FnAvoidance.j2 kj55 l0 t1319 t1320 t1321 t1349 true) else (laws_FnAvoidance.j2 kj55 l0 t1319 t1320 t1321 t1349 false)) else (if t1333 = true then (if t1349 ≥ 0 then (laws_FnAvoidance.j2 kj55 l0 t1319 t1320 t1321 t1349 (decide (t1349 < 1))) else (laws_FnAvoidance.j2 kj55 l0 t1319 t1320 t1321 t1349 false)) else (laws_FnAvoidance.j2 kj55 l0 t1319 t1320 t1321 t1349 false))) else (laws_FnAvoidance.j2 kj55 l0 t1319 t1320 t1321 t1349 true)))) = some r := by rw [if_neg (show ¬ (false = true) by decide)] at H; exact H
        clear H
        have H := H1
        clear H1
        replace H := Option.bind_eq_some_iff.mp H
        obtain ⟨t1349, A860, H⟩ := H
        replace H : ((spec_CountAvoiding.f kj55 t1319 t1320 t1321).bind fun t1350 => (if t1349 = t1350 then (if t1349 = 0 then (if t1333 = true then (laws_FnAvoidance.j2 kj55 l0 t1319 t1320 t1321 t1349 true) else (laws_FnAvoidance.j2 kj55 l0 t1319 t1320 t1321 t1349 false)) else (if t1333 = true then (if t1349 ≥ 0 then (laws_FnAvoidance.j2 kj55 l0 t1319 t1320 t1321 t1349 (decide (t1349 < 1))) else (laws_FnAvoidance.j2 kj55 l0 t1319 t1320 t1321 t1349 false)) else (laws_FnAvoidance.j2 kj55 l0 t1319 t1320 t1321 t1349 false))) else (laws_FnAvoidance.j2 kj55 l0 t1319 t1320 t1321 t1349 true))) = some r := H
        have A86 := Aside0.mk A860
        clear A860
        have HC87 := Aside0.mk H
        clear H
        go_upto_region 13 with (first | ((with_reducible refine gate_callee (f := 45) rfl ?_); refine goesL_ (some 131) rfl rfl Try.func45 (by kernel_rfl) rfl #[.int .i64 t1319, .slice Ao11 t1320.length co11, .int .i64 t1321] rfl (by (try simp only [List.map_toArray, List.map_cons, List.map_nil]); first | done | rfl | (simp only [List.length_drop, List.length_take]; rfl)) ?_; (with_reducible refine (impl_CountAvoiding.calls kj55 t1319 _ _ t1320 t1321 t1349 _ ?side1 ?side2 A86.out).mono ?_); (case side1 => repeat (first | exact (Kd.R_reads' HO_4.out).2.2 | (with_reducible refine Kd.C_alloc ?_ _) | (with_reducible refine Kd.C_drewN ?_ _) | (with_reducible refine Kd.C_drew ?_))); (case side2 => exact (Kd.R_reads' HO_4.out).2.1); rintro e w88 ⟨rfl, hb⟩; refine ⟨_, rfl, ?_⟩; have n0_ := Aside0.mk (Kd.R_below (by (with_reducible repeat (first | apply Kd.R_alloc | apply Kd.R_drewN | apply Kd.R_drew)); exact HO_4.out) hb); have n1_ := Aside0.mk (below_step (by repeat (first | (with_reducible first | exact HB.out | apply below_alloc | apply pw_below_drewN | apply below_drew1) | exact HB.out)) hb); clear HO_4; clear HB; have HO_4 := n0_; have HB := n1_; clear n0_ n1_; (try clear hb); (try clear hb2); (try clear hk); (try clear hi)))
        (try simp only [Act.put, List.setIfInBounds_toArray, List.set_cons_zero, List.set_cons_succ])
        go_cut [155] (fun v155 wc => ∃ (kq : Nat) (x155_86 : Bool), v155 = .bool x155_86 ∧ Aside0 (laws_FnAvoidance.j2 kq l0 t1319 t1320 t1321 t1349 x155_86 = some r) ∧ Aside0 (kq ≤ kj55) ∧ Aside0 (Kd.R (Kd.int .i64) 3 wc w.heap.size (fun _ => True) (.slice Ao11 t1320.length co11) t1320) ∧ Aside0 (Below w.heap.size w wc))
        case first =>
         have H := HC87.out
         clear HC87
         replace H := Option.bind_eq_some_iff.mp H
         obtain ⟨t1350, A890, H⟩ := H
         replace H : (if t1349 = t1350 then (if t1349 = 0 then (if t1333 = true then (laws_FnAvoidance.j2 kj55 l0 t1319 t1320 t1321 t1349 true) else (laws_FnAvoidance.j2 kj55 l0 t1319 t1320 t1321 t1349 false)) else (if t1333 = true then (if t1349 ≥ 0 then (laws_FnAvoidance.j2 kj55 l0 t1319 t1320 t1321 t1349 (decide (t1349 < 1))) else (laws_FnAvoidance.j2 kj55 l0 t1319 t1320 t1321 t1349 false)) else (laws_FnAvoidance.j2 kj55 l0 t1319 t1320 t1321 t1349 false))) else (laws_FnAvoidance.j2 kj55 l0 t1319 t1320 t1321 t1349 true)) = some r := H
         have A89 := Aside0.mk A890
         clear A890
         by_cases c90 : t1349 = t1350
         ·rw [if_pos c90] at H
          have c90b0 : (t1349 == t1350) = true := beq_iff_eq.mpr c90
          have c90b1 : (t1349 != t1350) = false := bne_eq_false_iff_eq.mpr c90
          clear c90
          (first | rw [c90b0] | (simp only [i64_w, i32_w]; rw [c90b0]) | skip)
          by_cases c91 : t1349 = 0
          ·rw [if_pos c91] at H
           have c91b0 : (t1349 == 0) = true := beq_iff_eq.mpr c91
           have c91b1 : (t1349 != 0) = false := bne_eq_false_iff_eq.mpr c91
           clear c91
           by_cases c92 : t1333 = true
           ·subst c92
            have H1 : (laws_FnAvoidance.j2 kj55 l0 t1319 t1320 t1321 t1349 true) = some r := by rw [if_pos rfl] at H; exact H
            clear H
            have H := H1
            clear H1
            as_aux_lemma =>
             have H' := Aside0.mk H
             clear H
             go_wp2_with (first | ((with_reducible refine gate_callee (f := 43) rfl ?_); refine goesL_ (some 136) rfl rfl Try.func43 (by kernel_rfl) rfl #[.int .i64 t1319, .slice Ao11 t1320.length co11, .int .i64 t1321] rfl (by (try simp only [List.map_toArray, List.map_cons, List.map_nil]); first | done | rfl | (simp only [List.length_drop, List.length_take]; rfl)) ?_; (with_reducible refine (spec_CountAvoiding.calls kj55 t1319 _ _ t1320 t1321 t1350 _ ?side1 ?side2 A89.out).mono ?_); (case side1 => repeat (first | exact (Kd.R_reads' HO_4.out).2.2 | (with_reducible refine Kd.C_alloc ?_ _) | (with_reducible refine Kd.C_drewN ?_ _) | (with_reducible refine Kd.C_drew ?_))); (case side2 => exact (Kd.R_reads' HO_4.out).2.1); rintro e w93 ⟨rfl, hb⟩; refine ⟨_, rfl, ?_⟩; have n0_ := Aside0.mk (Kd.R_below (by (with_reducible repeat (first | apply Kd.R_alloc | apply Kd.R_drewN | apply Kd.R_drew)); exact HO_4.out) hb); have n1_ := Aside0.mk (below_step (by repeat (first | (with_reducible first | exact HB.out | apply below_alloc | apply pw_below_drewN | apply below_drew1) | exact HB.out)) hb); clear HO_4; clear HB; have HO_4 := n0_; have HB := n1_; clear n0_ n1_; (try clear hb); (try clear hb2); (try clear hk); (try clear hi)))
             go_meet
             case rel => exact ⟨_, (true), (by first | rfl | (simp; done) | (simp [*]; done)), H', ⟨by have := HJ8.out; have := HJ55.out; first | omega | exact Nat.le_refl _⟩, ⟨by (with_reducible repeat (first | apply Kd.R_alloc | apply Kd.R_drewN | apply Kd.R_drew)); exact HO_4.out⟩, ⟨by repeat (first | (with_reducible first | exact HB.out | apply below_alloc | apply pw_below_drewN | apply below_drew1) | exact HB.out)⟩⟩
           ·replace c92 := Bool.eq_false_iff.mpr c92
            subst c92
            have H1 : (laws_FnAvoidance.j2 kj55 l0 t1319 t1320 t1321 t1349 false) = some r := by rw [if_neg (show ¬ (false = true) by decide)] at H; exact H
            clear H
            have H := H1
            clear H1
            as_aux_lemma =>
             have H' := Aside0.mk H
             clear H
             go_wp2_with (first | ((with_reducible refine gate_callee (f := 43) rfl ?_); refine goesL_ (some 136) rfl rfl Try.func43 (by kernel_rfl) rfl #[.int .i64 t1319, .slice Ao11 t1320.length co11, .int .i64 t1321] rfl (by (try simp only [List.map_toArray, List.map_cons, List.map_nil]); first | done | rfl | (simp only [List.length_drop, List.length_take]; rfl)) ?_; (with_reducible refine (spec_CountAvoiding.calls kj55 t1319 _ _ t1320 t1321 t1350 _ ?side1 ?side2 A89.out).mono ?_); (case side1 => repeat (first | exact (Kd.R_reads' HO_4.out).2.2 | (with_reducible refine Kd.C_alloc ?_ _) | (with_reducible refine Kd.C_drewN ?_ _) | (with_reducible refine Kd.C_drew ?_))); (case side2 => exact (Kd.R_reads' HO_4.out).2.1); rintro e w94 ⟨rfl, hb⟩; refine ⟨_, rfl, ?_⟩; have n0_ := Aside0.mk (Kd.R_below (by (with_reducible repeat (first | apply Kd.R_alloc | apply Kd.R_drewN | apply Kd.R_drew)); exact HO_4.out) hb); have n1_ := Aside0.mk (below_step (by repeat (first | (with_reducible first | exact HB.out | apply below_alloc | apply pw_below_drewN | apply below_drew1) | exact HB.out)) hb); clear HO_4; clear HB; have HO_4 := n0_; have HB := n1_; clear n0_ n1_; (try clear hb); (try clear hb2); (try clear hk); (try clear hi)))
             go_meet
             case rel => exact ⟨_, (false), (by first | rfl | (simp; done) | (simp [*]; done)), H', ⟨by have := HJ8.out; have := HJ55.out; first | omega | exact Nat.le_refl _⟩, ⟨by (with_reducible repeat (first | apply Kd.R_alloc | apply Kd.R_drewN | apply Kd.R_drew)); exact HO_4.out⟩, ⟨by repeat (first | (with_reducible first | exact HB.out | apply below_alloc | apply pw_below_drewN | apply below_drew1) | exact HB.out)⟩⟩
          ·rw [if_neg c91] at H
           have c91b0 : (t1349 == 0) = false := beq_eq_false_iff_ne.mpr c91
           have c91b1 : (t1349 != 0) = true := bne_iff_ne.mpr c91
           by_cases c95 : t1333 = true
           ·subst c95
            have H1 : (if t1349 ≥ 0 then (laws_FnAvoidance.j2 kj55 l0 t1319 t1320 t1321 t1349 (decide (t1349 < 1))) else (laws_FnAvoidance.j2 kj55 l0 t1319 t1320 t1321 t1349 false)) = some r := by rw [if_pos rfl] at H; exact H
            clear H
            have H := H1
            clear H1
            by_cases c96 : t1349 ≥ 0
            ·rw [if_pos c96] at H
             have c96b0 : decide (0 ≤ t1349) = true := decide_eq_true c96
             clear c96
             as_aux_lemma =>
              have H' := Aside0.mk H
              clear H
              go_wp2_with (first | ((with_reducible refine gate_callee (f := 43) rfl ?_); refine goesL_ (some 136) rfl rfl Try.func43 (by kernel_rfl) rfl #[.int .i64 t1319, .slice Ao11 t1320.length co11, .int .i64 t1321] rfl (by (try simp only [List.map_toArray, List.map_cons, List.map_nil]); first | done | rfl | (simp only [List.length_drop, List.length_take]; rfl)) ?_; (with_reducible refine (spec_CountAvoiding.calls kj55 t1319 _ _ t1320 t1321 t1350 _ ?side1 ?side2 A89.out).mono ?_); (case side1 => repeat (first | exact (Kd.R_reads' HO_4.out).2.2 | (with_reducible refine Kd.C_alloc ?_ _) | (with_reducible refine Kd.C_drewN ?_ _) | (with_reducible refine Kd.C_drew ?_))); (case side2 => exact (Kd.R_reads' HO_4.out).2.1); rintro e w97 ⟨rfl, hb⟩; refine ⟨_, rfl, ?_⟩; have n0_ := Aside0.mk (Kd.R_below (by (with_reducible repeat (first | apply Kd.R_alloc | apply Kd.R_drewN | apply Kd.R_drew)); exact HO_4.out) hb); have n1_ := Aside0.mk (below_step (by repeat (first | (with_reducible first | exact HB.out | apply below_alloc | apply pw_below_drewN | apply below_drew1) | exact HB.out)) hb); clear HO_4; clear HB; have HO_4 := n0_; have HB := n1_; clear n0_ n1_; (try clear hb); (try clear hb2); (try clear hk); (try clear hi)))
              go_meet
              case rel => exact ⟨_, (decide (t1349 < 1)), (by first | rfl | (simp; done) | (simp [*]; done)), H', ⟨by have := HJ8.out; have := HJ55.out; first | omega | exact Nat.le_refl _⟩, ⟨by (with_reducible repeat (first | apply Kd.R_alloc | apply Kd.R_drewN | apply Kd.R_drew)); exact HO_4.out⟩, ⟨by repeat (first | (with_reducible first | exact HB.out | apply below_alloc | apply pw_below_drewN | apply below_drew1) | exact HB.out)⟩⟩
            ·rw [if_neg c96] at H
             have c96b0 : decide (0 ≤ t1349) = false := decide_eq_false c96
             clear c96
             as_aux_lemma =>
              have H' := Aside0.mk H
              clear H
              go_wp2_with (first | ((with_reducible refine gate_callee (f := 43) rfl ?_); refine goesL_ (some 136) rfl rfl Try.func43 (by kernel_rfl) rfl #[.int .i64 t1319, .slice Ao11 t1320.length co11, .int .i64 t1321] rfl (by (try simp only [List.map_toArray, List.map_cons, List.map_nil]); first | done | rfl | (simp only [List.length_drop, List.length_take]; rfl)) ?_; (with_reducible refine (spec_CountAvoiding.calls kj55 t1319 _ _ t1320 t1321 t1350 _ ?side1 ?side2 A89.out).mono ?_); (case side1 => repeat (first | exact (Kd.R_reads' HO_4.out).2.2 | (with_reducible refine Kd.C_alloc ?_ _) | (with_reducible refine Kd.C_drewN ?_ _) | (with_reducible refine Kd.C_drew ?_))); (case side2 => exact (Kd.R_reads' HO_4.out).2.1); rintro e w98 ⟨rfl, hb⟩; refine ⟨_, rfl, ?_⟩; have n0_ := Aside0.mk (Kd.R_below (by (with_reducible repeat (first | apply Kd.R_alloc | apply Kd.R_drewN | apply Kd.R_drew)); exact HO_4.out) hb); have n1_ := Aside0.mk (below_step (by repeat (first | (with_reducible first | exact HB.out | apply below_alloc | apply pw_below_drewN | apply below_drew1) | exact HB.out)) hb); clear HO_4; clear HB; have HO_4 := n0_; have HB := n1_; clear n0_ n1_; (try clear hb); (try clear hb2); (try clear hk); (try clear hi)))
              go_meet
              case rel => exact ⟨_, (false), (by first | rfl | (simp; done) | (simp [*]; done)), H', ⟨by have := HJ8.out; have := HJ55.out; first | omega | exact Nat.le_refl _⟩, ⟨by (with_reducible repeat (first | apply Kd.R_alloc | apply Kd.R_drewN | apply Kd.R_drew)); exact HO_4.out⟩, ⟨by repeat (first | (with_reducible first | exact HB.out | apply below_alloc | apply pw_below_drewN | apply below_drew1) | exact HB.out)⟩⟩
           ·replace c95 := Bool.eq_false_iff.mpr c95
            subst c95
            have H1 : (laws_FnAvoidance.j2 kj55 l0 t1319 t1320 t1321 t1349 false) = some r := by rw [if_neg (show ¬ (false = true) by decide)] at H; exact H
            clear H
            have H := H1
            clear H1
            as_aux_lemma =>
             have H' := Aside0.mk H
             clear H
             go_wp2_with (first | ((with_reducible refine gate_callee (f := 43) rfl ?_); refine goesL_ (some 136) rfl rfl Try.func43 (by kernel_rfl) rfl #[.int .i64 t1319, .slice Ao11 t1320.length co11, .int .i64 t1321] rfl (by (try simp only [List.map_toArray, List.map_cons, List.map_nil]); first | done | rfl | (simp only [List.length_drop, List.length_take]; rfl)) ?_; (with_reducible refine (spec_CountAvoiding.calls kj55 t1319 _ _ t1320 t1321 t1350 _ ?side1 ?side2 A89.out).mono ?_); (case side1 => repeat (first | exact (Kd.R_reads' HO_4.out).2.2 | (with_reducible refine Kd.C_alloc ?_ _) | (with_reducible refine Kd.C_drewN ?_ _) | (with_reducible refine Kd.C_drew ?_))); (case side2 => exact (Kd.R_reads' HO_4.out).2.1); rintro e w99 ⟨rfl, hb⟩; refine ⟨_, rfl, ?_⟩; have n0_ := Aside0.mk (Kd.R_below (by (with_reducible repeat (first | apply Kd.R_alloc | apply Kd.R_drewN | apply Kd.R_drew)); exact HO_4.out) hb); have n1_ := Aside0.mk (below_step (by repeat (first | (with_reducible first | exact HB.out | apply below_alloc | apply pw_below_drewN | apply below_drew1) | exact HB.out)) hb); clear HO_4; clear HB; have HO_4 := n0_; have HB := n1_; clear n0_ n1_; (try clear hb); (try clear hb2); (try clear hk); (try clear hi)))
             go_meet
             case rel => exact ⟨_, (false), (by first | rfl | (simp; done) | (simp [*]; done)), H', ⟨by have := HJ8.out; have := HJ55.out; first | omega | exact Nat.le_refl _⟩, ⟨by (with_reducible repeat (first | apply Kd.R_alloc | apply Kd.R_drewN | apply Kd.R_drew)); exact HO_4.out⟩, ⟨by repeat (first | (with_reducible first | exact HB.out | apply below_alloc | apply pw_below_drewN | apply below_drew1) | exact HB.out)⟩⟩
         ·rw [if_neg c90] at H
          have c90b0 : (t1349 == t1350) = false := beq_eq_false_iff_ne.mpr c90
          have c90b1 : (t1349 != t1350) = true := bne_iff_ne.mpr c90
          (first | rw [c90b0] | (simp only [i64_w, i32_w]; rw [c90b0]) | skip)
          as_aux_lemma =>
           have H' := Aside0.mk H
           clear H
           go_wp2_with (first | ((with_reducible refine gate_callee (f := 43) rfl ?_); refine goesL_ (some 136) rfl rfl Try.func43 (by kernel_rfl) rfl #[.int .i64 t1319, .slice Ao11 t1320.length co11, .int .i64 t1321] rfl (by (try simp only [List.map_toArray, List.map_cons, List.map_nil]); first | done | rfl | (simp only [List.length_drop, List.length_take]; rfl)) ?_; (with_reducible refine (spec_CountAvoiding.calls kj55 t1319 _ _ t1320 t1321 t1350 _ ?side1 ?side2 A89.out).mono ?_); (case side1 => repeat (first | exact (Kd.R_reads' HO_4.out).2.2 | (with_reducible refine Kd.C_alloc ?_ _) | (with_reducible refine Kd.C_drewN ?_ _) | (with_reducible refine Kd.C_drew ?_))); (case side2 => exact (Kd.R_reads' HO_4.out).2.1); rintro e w100 ⟨rfl, hb⟩; refine ⟨_, rfl, ?_⟩; have n0_ := Aside0.mk (Kd.R_below (by (with_reducible repeat (first | apply Kd.R_alloc | apply Kd.R_drewN | apply Kd.R_drew)); exact HO_4.out) hb); have n1_ := Aside0.mk (below_step (by repeat (first | (with_reducible first | exact HB.out | apply below_alloc | apply pw_below_drewN | apply below_drew1) | exact HB.out)) hb); clear HO_4; clear HB; have HO_4 := n0_; have HB := n1_; clear n0_ n1_; (try clear hb); (try clear hb2); (try clear hk); (try clear hi)))
           go_meet
           case rel => exact ⟨_, (true), (by first | rfl | (simp; done) | (simp [*]; done)), H', ⟨by have := HJ8.out; have := HJ55.out; first | omega | exact Nat.le_refl _⟩, ⟨by (with_reducible repeat (first | apply Kd.R_alloc | apply Kd.R_drewN | apply Kd.R_drew)); exact HO_4.out⟩, ⟨by repeat (first | (with_reducible first | exact HB.out | apply below_alloc | apply pw_below_drewN | apply below_drew1) | exact HB.out)⟩⟩
        case rest =>
         clear HC87
         try clear c1
         try clear c2
         try clear p2
         try clear c3
         try clear c4
         try clear c5
         try clear c6
         try clear c7
         try clear c8
         try clear c9
         try clear c11
         try clear c16
         try clear c16b0
         try clear c16b1
         try clear c16b2
         try clear c18
         try clear c19
         try clear c19b0
         try clear c19b1
         try clear c19b2
         try clear c23
         try clear c26
         try clear c26b0
         try clear c26b1
         try clear c26b2
         try clear c34
         try clear c43
         try clear c45
         try clear c50
         try clear c51
         try clear c52
         try clear c53
         try clear c54
         try clear c55
         try clear c57
         try clear c58
         try clear c58b0
         try clear c61
         try clear c63
         try clear c64
         try clear c65
         try clear c65b0
         try clear c65b1
         try clear c79
         try clear c80
         try clear c80b0
         try clear c80b1
         try clear c85
         try clear c90
         try clear c90b0
         try clear c90b1
         try clear c91
         try clear c91b0
         try clear c91b1
         try clear c92
         try clear c95
         try clear c96
         try clear c96b0
         try clear p2
         obtain ⟨kq, x155_86, rfl, HA, HJ86, HO_4, HB⟩ := hcut
         cases kq with
         | zero => exact absurd HA.out (by simp [laws_FnAvoidance.j2])
         | succ kj86 =>
          have H := HA.out
          clear HA
          simp only [laws_FnAvoidance.j2] at H
          by_cases c101 : x155_86 = true
          ·subst c101
           have H1 : (some false) = some r := by rw [if_pos rfl] at H; exact H
           clear H
           have H := H1
           clear H1
           as_aux_lemma =>
            obtain rfl := Option.some.inj H
            go_wp2
            go_ret
            exact ⟨by first | rfl | (simp [errW_none, errW_some] <;> rfl) | (simp [*, errW_none, errW_some] <;> rfl), by repeat (first | (with_reducible first | exact HB.out | apply below_alloc | apply pw_below_drewN | apply below_drew1) | exact HB.out)⟩
          ·replace c101 := Bool.eq_false_iff.mpr c101
           subst c101
           have H1 : (if t1349 > 0 then ((laws_sameInts.f kj86 t1320 (([0, 0] : List Int))).bind fun t1354 => (if t1354 = true then (if t1319 ≤ 3 then ((impl_CountSquareFree.f kj86 t1319 t1321).bind fun t1355 => (laws_FnAvoidance.j3 kj86 l0 (t1349 != t1355))) else (laws_FnAvoidance.j3 kj86 l0 false)) else (laws_FnAvoidance.j3 kj86 l0 false))) else (laws_FnAvoidance.j3 kj86 l0 false)) = some r := by rw [if_neg (show ¬ (false = true) by decide)] at H; exact H
           clear H
           have H := H1
           clear H1
           have HC102 := Aside0.mk H
           clear H
           go_upto_region 15 with (fail)
           go_cut [173] (fun v173 wc => ∃ (kq : Nat) (x173_101 : Bool), v173 = .bool x173_101 ∧ Aside0 (laws_FnAvoidance.j3 kq l0 x173_101 = some r) ∧ Aside0 (kq ≤ kj86) ∧ Aside0 (Below w.heap.size w wc))
           case first =>
            have H := HC102.out
            clear HC102
            by_cases c103 : t1349 > 0
            ·rw [if_pos c103] at H
             have c103b0 : decide (0 < t1349) = true := decide_eq_true c103
             clear c103
             (first | rw [c103b0] | (simp only [i64_w, i32_w]; rw [c103b0]) | skip)
             obtain ⟨y1351, hy1351⟩ : ∃ y_ : List Int, y_ = (([0, 0] : List Int)) := ⟨_, rfl⟩
             replace H : ((laws_sameInts.f kj86 t1320 y1351).bind fun t1354 => (if t1354 = true then (if t1319 ≤ 3 then ((impl_CountSquareFree.f kj86 t1319 t1321).bind fun t1355 => (laws_FnAvoidance.j3 kj86 l0 (t1349 != t1355))) else (laws_FnAvoidance.j3 kj86 l0 false)) else (laws_FnAvoidance.j3 kj86 l0 false))) = some r := by first | (rw [hy1351]; with_reducible exact H) | (have H2_ := (Option.bind_some _ _).symm.trans H; rw [hy1351]; with_reducible exact H2_) | (have H2_ := (Option.bind_some _ _).symm.trans H; with_reducible exact H2_) | with_reducible exact H | (rw [hy1351]; exact H) | exact H
             have Ny1351 := Aside0.mk hy1351
             clear hy1351
             replace H := Option.bind_eq_some_iff.mp H
             obtain ⟨t1354, A1040, H⟩ := H
             replace H : (if t1354 = true then (if t1319 ≤ 3 then ((impl_CountSquareFree.f kj86 t1319 t1321).bind fun t1355 => (laws_FnAvoidance.j3 kj86 l0 (t1349 != t1355))) else (laws_FnAvoidance.j3 kj86 l0 false)) else (laws_FnAvoidance.j3 kj86 l0 false)) = some r := H
             have A104 := Aside0.mk A1040
             clear A1040
             by_cases c105 : t1354 = true
             ·subst c105
              have H1 : (if t1319 ≤ 3 then ((impl_CountSquareFree.f kj86 t1319 t1321).bind fun t1355 => (laws_FnAvoidance.j3 kj86 l0 (t1349 != t1355))) else (laws_FnAvoidance.j3 kj86 l0 false)) = some r := by rw [if_pos rfl] at H; exact H
              clear H
              have H := H1
              clear H1
              by_cases c106 : t1319 ≤ 3
              ·rw [if_pos c106] at H
               have c106b0 : decide (t1319 ≤ 3) = true := decide_eq_true c106
               clear c106
               replace H := Option.bind_eq_some_iff.mp H
               obtain ⟨t1355, A1070, H⟩ := H
               replace H : (laws_FnAvoidance.j3 kj86 l0 (t1349 != t1355)) = some r := H
               have A107 := Aside0.mk A1070
               clear A1070
               as_aux_lemma =>
                have H' := Aside0.mk H
                clear H
                go_wp2_with (first | ((with_reducible refine gate_dst (N := 160) rfl ?_); (try (refine gate_guard (by rfl) ?_; dsimp only)); refine Kd.R_lit (Kd.int .i64) _ 3 ?hg (N := 160) ?hd (xs := ([0, 0] : List Int)) (inner := [.int .i64 0, .int .i64 0]) (ok := fun _ => True) (okp := fun _ => True) ?hr ?hp (fun _ hk => hk) trivial (Below.refl _ _) (Nat.le_refl _) (by simp) ?_; (case hd => rfl); (case hg => rfl); (case hr => first | (go_simp; done) | (go_simp; rfl)); (case hp => exact (Reps.one (show Kd.M (Kd.int .i64) _ _ _ 0 [.int .i64 0] from rfl) (Reps.one (show Kd.M (Kd.int .i64) _ _ _ 0 [.int .i64 0] from rfl) (Reps.none _ _)))); intro v1352 w108 ho109 hb hg_ hnew_; clear hg_ hnew_; (first | rw [← Ny1351.out] at ho109 | (simp only [Int.reduceToNat] at ho109; rw [← Ny1351.out] at ho109)); have n0_ := Aside0.mk (Kd.R_elder' (by (with_reducible repeat (first | apply Kd.R_alloc | apply Kd.R_drewN | apply Kd.R_drew)); exact HO_4.out) (Kd.R_base ho109) hb); have n1_ := Aside0.mk (Kd.R_lower (Kd.R_new' ho109 (Kd.R_lt (by (with_reducible repeat (first | apply Kd.R_alloc | apply Kd.R_drewN | apply Kd.R_drew)); exact HO_4.out))) (below_size (by repeat (first | (with_reducible first | exact HB.out | apply below_alloc | apply pw_below_drewN | apply below_drew1) | exact HB.out)))); have n2_ := Aside0.mk (below_step (by repeat (first | (with_reducible first | exact HB.out | apply below_alloc | apply pw_below_drewN | apply below_drew1) | exact HB.out)) hb); clear HO_4; clear HB; have HO_4 := n0_; have HO1353 := n1_; have HB := n2_; clear n0_ n1_ n2_; clear hb ho109; obtain ⟨Ao110, co110, eo110⟩ := Kd.R_slice HO1353.out; subst eo110) | (go_at_call 36; (with_reducible refine (laws_sameInts.calls kj86 _ _ t1320 _ _ y1351 true _ ?side1 ?side2 ?side3 ?side4 A104.out).mono ?_); (case side1 => repeat (first | exact (Kd.R_reads' HO_4.out).2.2 | (with_reducible refine Kd.C_alloc ?_ _) | (with_reducible refine Kd.C_drewN ?_ _) | (with_reducible refine Kd.C_drew ?_))); (case side2 => exact (Kd.R_reads' HO_4.out).2.1); (case side3 => repeat (first | exact (Kd.R_reads' HO1353.out).2.2 | (with_reducible refine Kd.C_alloc ?_ _) | (with_reducible refine Kd.C_drewN ?_ _) | (with_reducible refine Kd.C_drew ?_))); (case side4 => exact (Kd.R_reads' HO1353.out).2.1); rintro e w' ⟨rfl, ⟨nd, rfl⟩⟩) | (go_at_call 57; (with_reducible refine (impl_CountSquareFree.calls kj86 t1319 t1321 t1355 _ A107.out).mono ?_); rintro e w111 ⟨rfl, hb⟩; have n0_ := Aside0.mk (Kd.R_below (by (with_reducible repeat (first | apply Kd.R_alloc | apply Kd.R_drewN | apply Kd.R_drew)); exact HO_4.out) hb); have n1_ := Aside0.mk (Kd.R_below (by (with_reducible repeat (first | apply Kd.R_alloc | apply Kd.R_drewN | apply Kd.R_drew)); exact HO1353.out) hb); have n2_ := Aside0.mk (below_step (by repeat (first | (with_reducible first | exact HB.out | apply below_alloc | apply pw_below_drewN | apply below_drew1) | exact HB.out)) hb); clear HO_4; clear HO1353; clear HB; have HO_4 := n0_; have HO1353 := n1_; have HB := n2_; clear n0_ n1_ n2_; (try clear hb); (try clear hb2); (try clear hk); (try clear hi)))
                go_meet
                case rel => exact ⟨_, ((t1349 != t1355)), (by first | rfl | (simp; done) | (simp [*]; done)), H', ⟨by have := HJ8.out; have := HJ55.out; have := HJ86.out; first | omega | exact Nat.le_refl _⟩, ⟨by repeat (first | (with_reducible first | exact HB.out | apply below_alloc | apply pw_below_drewN | apply below_drew1) | exact HB.out)⟩⟩
              ·rw [if_neg c106] at H
               have c106b0 : decide (t1319 ≤ 3) = false := decide_eq_false c106
               clear c106
               as_aux_lemma =>
                have H' := Aside0.mk H
                clear H
                go_wp2_with (first | ((with_reducible refine gate_dst (N := 160) rfl ?_); (try (refine gate_guard (by rfl) ?_; dsimp only)); refine Kd.R_lit (Kd.int .i64) _ 3 ?hg (N := 160) ?hd (xs := ([0, 0] : List Int)) (inner := [.int .i64 0, .int .i64 0]) (ok := fun _ => True) (okp := fun _ => True) ?hr ?hp (fun _ hk => hk) trivial (Below.refl _ _) (Nat.le_refl _) (by simp) ?_; (case hd => rfl); (case hg => rfl); (case hr => first | (go_simp; done) | (go_simp; rfl)); (case hp => exact (Reps.one (show Kd.M (Kd.int .i64) _ _ _ 0 [.int .i64 0] from rfl) (Reps.one (show Kd.M (Kd.int .i64) _ _ _ 0 [.int .i64 0] from rfl) (Reps.none _ _)))); intro v1352 w112 ho113 hb hg_ hnew_; clear hg_ hnew_; (first | rw [← Ny1351.out] at ho113 | (simp only [Int.reduceToNat] at ho113; rw [← Ny1351.out] at ho113)); have n0_ := Aside0.mk (Kd.R_elder' (by (with_reducible repeat (first | apply Kd.R_alloc | apply Kd.R_drewN | apply Kd.R_drew)); exact HO_4.out) (Kd.R_base ho113) hb); have n1_ := Aside0.mk (Kd.R_lower (Kd.R_new' ho113 (Kd.R_lt (by (with_reducible repeat (first | apply Kd.R_alloc | apply Kd.R_drewN | apply Kd.R_drew)); exact HO_4.out))) (below_size (by repeat (first | (with_reducible first | exact HB.out | apply below_alloc | apply pw_below_drewN | apply below_drew1) | exact HB.out)))); have n2_ := Aside0.mk (below_step (by repeat (first | (with_reducible first | exact HB.out | apply below_alloc | apply pw_below_drewN | apply below_drew1) | exact HB.out)) hb); clear HO_4; clear HB; have HO_4 := n0_; have HO1353 := n1_; have HB := n2_; clear n0_ n1_ n2_; clear hb ho113; obtain ⟨Ao114, co114, eo114⟩ := Kd.R_slice HO1353.out; subst eo114) | (go_at_call 36; (with_reducible refine (laws_sameInts.calls kj86 _ _ t1320 _ _ y1351 true _ ?side1 ?side2 ?side3 ?side4 A104.out).mono ?_); (case side1 => repeat (first | exact (Kd.R_reads' HO_4.out).2.2 | (with_reducible refine Kd.C_alloc ?_ _) | (with_reducible refine Kd.C_drewN ?_ _) | (with_reducible refine Kd.C_drew ?_))); (case side2 => exact (Kd.R_reads' HO_4.out).2.1); (case side3 => repeat (first | exact (Kd.R_reads' HO1353.out).2.2 | (with_reducible refine Kd.C_alloc ?_ _) | (with_reducible refine Kd.C_drewN ?_ _) | (with_reducible refine Kd.C_drew ?_))); (case side4 => exact (Kd.R_reads' HO1353.out).2.1); rintro e w' ⟨rfl, ⟨nd, rfl⟩⟩))
                go_meet
                case rel => exact ⟨_, (false), (by first | rfl | (simp; done) | (simp [*]; done)), H', ⟨by have := HJ8.out; have := HJ55.out; have := HJ86.out; first | omega | exact Nat.le_refl _⟩, ⟨by repeat (first | (with_reducible first | exact HB.out | apply below_alloc | apply pw_below_drewN | apply below_drew1) | exact HB.out)⟩⟩
             ·replace c105 := Bool.eq_false_iff.mpr c105
              subst c105
              have H1 : (laws_FnAvoidance.j3 kj86 l0 false) = some r := by rw [if_neg (show ¬ (false = true) by decide)] at H; exact H
              clear H
              have H := H1
              clear H1
              as_aux_lemma =>
               have H' := Aside0.mk H
               clear H
               go_wp2_with (first | ((with_reducible refine gate_dst (N := 160) rfl ?_); (try (refine gate_guard (by rfl) ?_; dsimp only)); refine Kd.R_lit (Kd.int .i64) _ 3 ?hg (N := 160) ?hd (xs := ([0, 0] : List Int)) (inner := [.int .i64 0, .int .i64 0]) (ok := fun _ => True) (okp := fun _ => True) ?hr ?hp (fun _ hk => hk) trivial (Below.refl _ _) (Nat.le_refl _) (by simp) ?_; (case hd => rfl); (case hg => rfl); (case hr => first | (go_simp; done) | (go_simp; rfl)); (case hp => exact (Reps.one (show Kd.M (Kd.int .i64) _ _ _ 0 [.int .i64 0] from rfl) (Reps.one (show Kd.M (Kd.int .i64) _ _ _ 0 [.int .i64 0] from rfl) (Reps.none _ _)))); intro v1352 w115 ho116 hb hg_ hnew_; clear hg_ hnew_; (first | rw [← Ny1351.out] at ho116 | (simp only [Int.reduceToNat] at ho116; rw [← Ny1351.out] at ho116)); have n0_ := Aside0.mk (Kd.R_elder' (by (with_reducible repeat (first | apply Kd.R_alloc | apply Kd.R_drewN | apply Kd.R_drew)); exact HO_4.out) (Kd.R_base ho116) hb); have n1_ := Aside0.mk (Kd.R_lower (Kd.R_new' ho116 (Kd.R_lt (by (with_reducible repeat (first | apply Kd.R_alloc | apply Kd.R_drewN | apply Kd.R_drew)); exact HO_4.out))) (below_size (by repeat (first | (with_reducible first | exact HB.out | apply below_alloc | apply pw_below_drewN | apply below_drew1) | exact HB.out)))); have n2_ := Aside0.mk (below_step (by repeat (first | (with_reducible first | exact HB.out | apply below_alloc | apply pw_below_drewN | apply below_drew1) | exact HB.out)) hb); clear HO_4; clear HB; have HO_4 := n0_; have HO1353 := n1_; have HB := n2_; clear n0_ n1_ n2_; clear hb ho116; obtain ⟨Ao117, co117, eo117⟩ := Kd.R_slice HO1353.out; subst eo117) | (go_at_call 36; (with_reducible refine (laws_sameInts.calls kj86 _ _ t1320 _ _ y1351 false _ ?side1 ?side2 ?side3 ?side4 A104.out).mono ?_); (case side1 => repeat (first | exact (Kd.R_reads' HO_4.out).2.2 | (with_reducible refine Kd.C_alloc ?_ _) | (with_reducible refine Kd.C_drewN ?_ _) | (with_reducible refine Kd.C_drew ?_))); (case side2 => exact (Kd.R_reads' HO_4.out).2.1); (case side3 => repeat (first | exact (Kd.R_reads' HO1353.out).2.2 | (with_reducible refine Kd.C_alloc ?_ _) | (with_reducible refine Kd.C_drewN ?_ _) | (with_reducible refine Kd.C_drew ?_))); (case side4 => exact (Kd.R_reads' HO1353.out).2.1); rintro e w' ⟨rfl, ⟨nd, rfl⟩⟩))
               go_meet
               case rel => exact ⟨_, (false), (by first | rfl | (simp; done) | (simp [*]; done)), H', ⟨by have := HJ8.out; have := HJ55.out; have := HJ86.out; first | omega | exact Nat.le_refl _⟩, ⟨by repeat (first | (with_reducible first | exact HB.out | apply below_alloc | apply pw_below_drewN | apply below_drew1) | exact HB.out)⟩⟩
            ·rw [if_neg c103] at H
             have c103b0 : decide (0 < t1349) = false := decide_eq_false c103
             clear c103
             (first | rw [c103b0] | (simp only [i64_w, i32_w]; rw [c103b0]) | skip)
             as_aux_lemma =>
              have H' := Aside0.mk H
              clear H
              go_wp2
              go_meet
              case rel => exact ⟨_, (false), (by first | rfl | (simp; done) | (simp [*]; done)), H', ⟨by have := HJ8.out; have := HJ55.out; have := HJ86.out; first | omega | exact Nat.le_refl _⟩, ⟨by repeat (first | (with_reducible first | exact HB.out | apply below_alloc | apply pw_below_drewN | apply below_drew1) | exact HB.out)⟩⟩
           case rest =>
            clear HC102
            try clear c1
            try clear c2
            try clear p2
            try clear c3
            try clear c4
            try clear c5
            try clear c6
            try clear c7
            try clear c8
            try clear c9
            try clear c10
            try clear c11
            try clear c16
            try clear c16b0
            try clear c16b1
            try clear c16b2
            try clear c18
            try clear c19
            try clear c19b0
            try clear c19b1
            try clear c19b2
            try clear c23
            try clear c26
            try clear c26b0
            try clear c26b1
            try clear c26b2
            try clear c34
            try clear c43
            try clear c45
            try clear c50
            try clear c51
            try clear c52
            try clear c53
            try clear c54
            try clear c55
            try clear c57
            try clear c58
            try clear c58b0
            try clear c61
            try clear c63
            try clear c64
            try clear c65
            try clear c65b0
            try clear c65b1
            try clear c79
            try clear c80
            try clear c80b0
            try clear c80b1
            try clear c85
            try clear c90
            try clear c90b0
            try clear c90b1
            try clear c91
            try clear c91b0
            try clear c91b1
            try clear c92
            try clear c95
            try clear c96
            try clear c96b0
            try clear c101
            try clear c103
            try clear c103b0
            try clear c105
            try clear c106
            try clear c106b0
            try clear p2
            obtain ⟨kq, x173_101, rfl, HA, HJ101, HB⟩ := hcut
            cases kq with
            | zero => exact absurd HA.out (by simp [laws_FnAvoidance.j3])
            | succ kj101 =>
             have H := HA.out
             clear HA
             simp only [laws_FnAvoidance.j3] at H
             by_cases c118 : x173_101 = true
             ·subst c118
              have H1 : (some false) = some r := by rw [if_pos rfl] at H; exact H
              clear H
              have H := H1
              clear H1
              as_aux_lemma =>
               obtain rfl := Option.some.inj H
               go_wp2
               go_ret
               exact ⟨by first | rfl | (simp [errW_none, errW_some] <;> rfl) | (simp [*, errW_none, errW_some] <;> rfl), by repeat (first | (with_reducible first | exact HB.out | apply below_alloc | apply pw_below_drewN | apply below_drew1) | exact HB.out)⟩
             ·replace c118 := Bool.eq_false_iff.mpr c118
              subst c118
              have H1 : ((spec_DrawExtensionsOf.f kj101 l0).bind fun bt1356 => ((impl_ExtensionsOf.f kj101 bt1356.1 bt1356.2.1 bt1356.2.2).bind fun t1363 => ((spec_ExtensionsOf.f kj101 bt1356.1 bt1356.2.1 bt1356.2.2).bind fun t1366 => ((laws_sameInts.f kj101 t1363 t1366).bind fun t1369 => (some t1369))))) = some r := by rw [if_neg (show ¬ (false = true) by decide)] at H; exact H
              clear H
              have H := H1
              clear H1
              replace H := Option.bind_eq_some_iff.mp H
              obtain ⟨⟨t1356, t1357, t1358⟩, A1190, H⟩ := H
              replace H : ((impl_ExtensionsOf.f kj101 t1356 t1357 t1358).bind fun t1363 => ((spec_ExtensionsOf.f kj101 t1356 t1357 t1358).bind fun t1366 => ((laws_sameInts.f kj101 t1363 t1366).bind fun t1369 => (some t1369)))) = some r := H
              have A119 := Aside0.mk A1190
              clear A1190
              replace H := Option.bind_eq_some_iff.mp H
              obtain ⟨t1363, A1200, H⟩ := H
              replace H : ((spec_ExtensionsOf.f kj101 t1356 t1357 t1358).bind fun t1366 => ((laws_sameInts.f kj101 t1363 t1366).bind fun t1369 => (some t1369))) = some r := H
              have A120 := Aside0.mk A1200
              clear A1200
              replace H := Option.bind_eq_some_iff.mp H
              obtain ⟨t1366, A1210, H⟩ := H
              replace H : ((laws_sameInts.f kj101 t1363 t1366).bind fun t1369 => (some t1369)) = some r := H
              have A121 := Aside0.mk A1210
              clear A1210
              replace H := Option.bind_eq_some_iff.mp H
              obtain ⟨t1369, A1220, H⟩ := H
              replace H : (some t1369) = some r := H
              have A122 := Aside0.mk A1220
              clear A1220
              as_aux_lemma =>
               obtain rfl := Option.some.inj H
               go_wp2_with (first | ((with_reducible refine gate_callee (f := 58) rfl ?_); refine goesL_ (some 176) rfl rfl Try.func58 (by kernel_rfl) rfl #[.slice A0 l0.length c0] rfl (by (try simp only [List.map_toArray, List.map_cons, List.map_nil]); first | done | rfl | (simp only [List.length_drop, List.length_take]; rfl)) ?_; (with_reducible refine (spec_DrawExtensionsOf.calls kj101 _ _ l0 t1356 t1357 t1358 _ ?side1 ?side2 A119.out).mono ?_); (case side1 => repeat (first | exact (Kd.C_below HR0.out HB.out) | (with_reducible refine Kd.C_alloc ?_ _) | (with_reducible refine Kd.C_drewN ?_ _) | (with_reducible refine Kd.C_drew ?_))); (case side2 => exact HC0.out); rintro e w123 ⟨v1359, v1361, rfl, ho0, ho1, hb⟩; refine ⟨_, rfl, ?_⟩; have n0_ := Aside0.mk (Kd.R_lower ho0 (below_size (by repeat (first | (with_reducible first | exact HB.out | apply below_alloc | apply pw_below_drewN | apply below_drew1) | exact HB.out)))); have n1_ := Aside0.mk (Kd.R_lower ho1 (below_size (by repeat (first | (with_reducible first | exact HB.out | apply below_alloc | apply pw_below_drewN | apply below_drew1) | exact HB.out)))); have n2_ := Aside0.mk (below_step (by repeat (first | (with_reducible first | exact HB.out | apply below_alloc | apply pw_below_drewN | apply below_drew1) | exact HB.out)) hb); clear HB; have HO1360 := n0_; have HO1362 := n1_; have HB := n2_; clear n0_ n1_ n2_; (try clear hb); (try clear hb2); (try clear hk); (try clear hi); (try clear ho0); (try clear ho1); obtain ⟨Ao124, co124, eo124⟩ := Kd.R_slice HO1360.out; subst eo124; obtain ⟨Ao125, co125, eo125⟩ := Kd.R_slice HO1362.out; subst eo125) | ((with_reducible refine gate_callee (f := 47) rfl ?_); refine goesL_ (some 183) rfl rfl Try.func47 (by kernel_rfl) rfl #[.slice Ao124 t1356.length co124, .int .i64 t1357, .slice Ao125 t1358.length co125] rfl (by (try simp only [List.map_toArray, List.map_cons, List.map_nil]); first | done | rfl | (simp only [List.length_drop, List.length_take]; rfl)) ?_; (with_reducible refine (impl_ExtensionsOf.calls kj101 _ _ t1356 t1357 _ _ t1358 t1363 _ ?side1 ?side2 ?side3 ?side4 A120.out).mono ?_); (case side1 => repeat (first | exact (Kd.R_reads' HO1360.out).2.2 | (with_reducible refine Kd.C_alloc ?_ _) | (with_reducible refine Kd.C_drewN ?_ _) | (with_reducible refine Kd.C_drew ?_))); (case side2 => exact (Kd.R_reads' HO1360.out).2.1); (case side3 => repeat (first | exact (Kd.R_reads' HO1362.out).2.2 | (with_reducible refine Kd.C_alloc ?_ _) | (with_reducible refine Kd.C_drewN ?_ _) | (with_reducible refine Kd.C_drew ?_))); (case side4 => exact (Kd.R_reads' HO1362.out).2.1); rintro e w126 ⟨v1364, rfl, ho0, hb⟩; refine ⟨_, rfl, ?_⟩; have n0_ := Aside0.mk (Kd.R_elder' (by (with_reducible repeat (first | apply Kd.R_alloc | apply Kd.R_drewN | apply Kd.R_drew)); exact HO1360.out) (Kd.R_base ho0) hb); have n1_ := Aside0.mk (Kd.R_elder' (by (with_reducible repeat (first | apply Kd.R_alloc | apply Kd.R_drewN | apply Kd.R_drew)); exact HO1362.out) (Kd.R_base ho0) hb); have n2_ := Aside0.mk (Kd.R_lower (Kd.R_new' (Kd.R_new' ho0 (Kd.R_lt (by (with_reducible repeat (first | apply Kd.R_alloc | apply Kd.R_drewN | apply Kd.R_drew)); exact HO1360.out))) (Kd.R_lt (by (with_reducible repeat (first | apply Kd.R_alloc | apply Kd.R_drewN | apply Kd.R_drew)); exact HO1362.out))) (below_size (by repeat (first | (with_reducible first | exact HB.out | apply below_alloc | apply pw_below_drewN | apply below_drew1) | exact HB.out)))); have n3_ := Aside0.mk (below_step (by repeat (first | (with_reducible first | exact HB.out | apply below_alloc | apply pw_below_drewN | apply below_drew1) | exact HB.out)) hb); clear HO1360; clear HO1362; clear HB; have HO1360 := n0_; have HO1362 := n1_; have HO1365 := n2_; have HB := n3_; clear n0_ n1_ n2_ n3_; (try clear hb); (try clear hb2); (try clear hk); (try clear hi); (try clear ho0)) | ((with_reducible refine gate_callee (f := 46) rfl ?_); refine goesL_ (some 187) rfl rfl Try.func46 (by kernel_rfl) rfl #[.slice Ao124 t1356.length co124, .int .i64 t1357, .slice Ao125 t1358.length co125] rfl (by (try simp only [List.map_toArray, List.map_cons, List.map_nil]); first | done | rfl | (simp only [List.length_drop, List.length_take]; rfl)) ?_; (with_reducible refine (spec_ExtensionsOf.calls kj101 _ _ t1356 t1357 _ _ t1358 t1366 _ ?side1 ?side2 ?side3 ?side4 A121.out).mono ?_); (case side1 => repeat (first | exact (Kd.R_reads' HO1360.out).2.2 | (with_reducible refine Kd.C_alloc ?_ _) | (with_reducible refine Kd.C_drewN ?_ _) | (with_reducible refine Kd.C_drew ?_))); (case side2 => exact (Kd.R_reads' HO1360.out).2.1); (case side3 => repeat (first | exact (Kd.R_reads' HO1362.out).2.2 | (with_reducible refine Kd.C_alloc ?_ _) | (with_reducible refine Kd.C_drewN ?_ _) | (with_reducible refine Kd.C_drew ?_))); (case side4 => exact (Kd.R_reads' HO1362.out).2.1); rintro e w127 ⟨v1367, rfl, ho0, hb⟩; refine ⟨_, rfl, ?_⟩; have n0_ := Aside0.mk (Kd.R_elder' (by (with_reducible repeat (first | apply Kd.R_alloc | apply Kd.R_drewN | apply Kd.R_drew)); exact HO1360.out) (Kd.R_base ho0) hb); have n1_ := Aside0.mk (Kd.R_elder' (by (with_reducible repeat (first | apply Kd.R_alloc | apply Kd.R_drewN | apply Kd.R_drew)); exact HO1362.out) (Kd.R_base ho0) hb); have n2_ := Aside0.mk (Kd.R_elder' (by (with_reducible repeat (first | apply Kd.R_alloc | apply Kd.R_drewN | apply Kd.R_drew)); exact HO1365.out) (Kd.R_base ho0) hb); have n3_ := Aside0.mk (Kd.R_lower (Kd.R_new' (Kd.R_new' (Kd.R_new' ho0 (Kd.R_lt (by (with_reducible repeat (first | apply Kd.R_alloc | apply Kd.R_drewN | apply Kd.R_drew)); exact HO1360.out))) (Kd.R_lt (by (with_reducible repeat (first | apply Kd.R_alloc | apply Kd.R_drewN | apply Kd.R_drew)); exact HO1362.out))) (Kd.R_lt (by (with_reducible repeat (first | apply Kd.R_alloc | apply Kd.R_drewN | apply Kd.R_drew)); exact HO1365.out))) (below_size (by repeat (first | (with_reducible first | exact HB.out | apply below_alloc | apply pw_below_drewN | apply below_drew1) | exact HB.out)))); have n4_ := Aside0.mk (below_step (by repeat (first | (with_reducible first | exact HB.out | apply below_alloc | apply pw_below_drewN | apply below_drew1) | exact HB.out)) hb); clear HO1360; clear HO1362; clear HO1365; clear HB; have HO1360 := n0_; have HO1362 := n1_; have HO1365 := n2_; have HO1368 := n3_; have HB := n4_; clear n0_ n1_ n2_ n3_ n4_; (try clear hb); (try clear hb2); (try clear hk); (try clear hi); (try clear ho0); obtain ⟨Ao128, co128, eo128⟩ := Kd.R_slice HO1365.out; subst eo128; obtain ⟨Ao129, co129, eo129⟩ := Kd.R_slice HO1368.out; subst eo129) | ((with_reducible refine gate_callee (f := 36) rfl ?_); refine goesL_ (some 188) rfl rfl Try.func36 (by kernel_rfl) rfl #[.slice Ao128 t1363.length co128, .slice Ao129 t1366.length co129] rfl (by (try simp only [List.map_toArray, List.map_cons, List.map_nil]); first | done | rfl | (simp only [List.length_drop, List.length_take]; rfl)) ?_; (with_reducible refine (laws_sameInts.calls kj101 _ _ t1363 _ _ t1366 t1369 _ ?side1 ?side2 ?side3 ?side4 A122.out).mono ?_); (case side1 => repeat (first | exact (Kd.R_reads' HO1365.out).2.2 | (with_reducible refine Kd.C_alloc ?_ _) | (with_reducible refine Kd.C_drewN ?_ _) | (with_reducible refine Kd.C_drew ?_))); (case side2 => exact (Kd.R_reads' HO1365.out).2.1); (case side3 => repeat (first | exact (Kd.R_reads' HO1368.out).2.2 | (with_reducible refine Kd.C_alloc ?_ _) | (with_reducible refine Kd.C_drewN ?_ _) | (with_reducible refine Kd.C_drew ?_))); (case side4 => exact (Kd.R_reads' HO1368.out).2.1); rintro e w' ⟨rfl, ⟨nd, rfl⟩⟩; refine ⟨_, rfl, ?_⟩))
               go_ret
               exact ⟨by first | rfl | (simp [errW_none, errW_some] <;> rfl) | (simp [*, errW_none, errW_some] <;> rfl), by repeat (first | (with_reducible first | exact HB.out | apply below_alloc | apply pw_below_drewN | apply below_drew1) | exact HB.out)⟩

/-- THE ONE PURE STATEMENT of laws_FnAvoidance: yours. -/
def laws_FnAvoidance.Pure : Prop := ∀ (l0 : List Int), l0.length ≤ maxLen → l0.length * 1 ≤ 140737488351232 → (∀ x ∈ l0, (Lit.int .u8 x).wf = true) → ∃ k, laws_FnAvoidance.f k l0 = some true
theorem laws_FnAvoidance.walk (P : laws_FnAvoidance.Pure) (a0 : Option Addr) (len0 cap0 : Nat) (z0 : List Int) (w : World) (w0 : (a0 = none ∧ len0 = 0 ∧ cap0 = 0 ∧ z0 = []) ∨ ∃ x, a0 = some x ∧ len0 ≤ cap0 ∧ cap0 ≤ maxLen ∧ z0.length = cap0 ∧ (∀ i, i < z0.length → w.cell? (x.add i) = some (.int .u8 (z0.getD i 0))) ∧ ∀ n ∈ z0, (Lit.int .u8 n).wf = true) (y0 : len0 * 1 ≤ 140737488351232) :
  Calls Try.prog 11 #[.slice a0 len0 cap0] w fun e w' => e = .returned (.bool true) ∧ Below w.heap.size w w' := by
 obtain ⟨l0, rfl, hr0, hm0, hw0, hc0⟩ := ReadsInt.ofRowC w0
 obtain ⟨k, h⟩ := P l0 hm0 y0 hw0
 refine (laws_FnAvoidance.calls k _ _ l0 true w (Kd.C_of_reads (d := (0 : Int)) (h1 := fun _ => rfl) hr0) hc0 h).mono ?_
 rintro e w' ⟨rfl, hd⟩
 exact ⟨rfl, hd⟩

end
end Go.Proofs.Ythkkpdgadfhijaa.M
/- The longest word found that avoids a pattern: program and reference tell the same, and the laws. No condition. -/
namespace Go.Proofs.Ythkkpdgadfhijaa.M
open Go.RowKit Go.Proofs.YthkkpdgadfhijaaW.PrintWords Go.Proofs.Ythkkpdgadfhijaa.K
set_option linter.unusedVariables false
def lav (n : Int) (p : List Int) (most : Int) : List Int × Bool := if ((1 ≤ n ∧ n ≤ 3) ∧ isPat p = true) ∧ 0 ≤ most ∧ most ≤ 12 then (srun p n.toNat most 400 [] [], true) else ([], false)
theorem top_ev (p : List Int) (n : Nat) (most : Int) (hp : p.length ≤ 1048576) (hP : isPat p = true) (hm : 0 ≤ most ∧ most ≤ 12) : ∃ (r : Bool) (lk' : Int), Ev (fun k => look.f k n p most [] 0 []) (r, lk', srun p n most 400 [] []) ∧ ((srun p n most 400 [] []).length : Int) ≤ most := by
  obtain ⟨r, lk', best', hE, hb, _, ht, hf⟩ := look_ev p n most hp hP hm most.toNat [] [] 0 (by simp; omega) (noM_nil p hP) (by omega) (by omega) (by simp; omega)
  have e : srun p n most 400 [] [] = best' := by
    cases r with
    | true => exact ht rfl
    | false => exact (hf rfl).2
  rw [e]
  exact ⟨r, lk', hE, hb⟩
theorem lav_len (n : Int) (p : List Int) (most : Int) (hp : p.length ≤ 1048576) : (lav n p most).1.length ≤ 12 ∧ ((lav n p most).2 = true → ((lav n p most).1.length : Int) ≤ most) := by
  unfold lav
  split
  · rename_i q
    obtain ⟨_, _, _, h⟩ := top_ev p n.toNat most hp q.1.2 q.2
    exact ⟨by dsimp only; omega, fun _ => h⟩
  · exact ⟨by simp, fun h => by cases h⟩
theorem implLong_ev (n : Int) (p : List Int) (most : Int) (hp : p.length ≤ 1048576) : Ev (fun k => impl_LongestAvoiding.f k n p most) (lav n p most) := by
  unfold impl_LongestAvoiding.f
  refine Ev.bind (implFine_ev n p hp) ?_
  unfold lav
  by_cases q : (1 ≤ n ∧ n ≤ 3) ∧ isPat p = true
  · rw [decide_eq_true q]
    by_cases q2 : 0 ≤ most ∧ most ≤ 12
    · rw [_root_.if_pos ⟨q, q2⟩]
      obtain ⟨r, lk', hE, _⟩ := top_ev p n.toNat most hp q.2 q2
      exact Ev.if_pos ⟨rfl, q2.1, q2.2⟩ (Ev.if_pos (by omega) (Ev.bind hE (Ev.some _)))
    · rw [_root_.if_neg (fun h => q2 h.2)]
      exact Ev.if_neg (fun h => q2 h.2) (Ev.some _)
  · rw [decide_eq_false q, _root_.if_neg (fun h => q h.1)]
    exact Ev.if_neg (by simp) (Ev.some _)
theorem specLong_ev (n : Int) (p : List Int) (most : Int) (hp : p.length ≤ 1048576) : Ev (fun k => spec_LongestAvoiding.f k n p most) (lav n p most) := by
  unfold spec_LongestAvoiding.f
  refine Ev.bind (specFine_ev n p hp) ?_
  unfold lav
  by_cases q : (1 ≤ n ∧ n ≤ 3) ∧ isPat p = true
  · rw [decide_eq_true q]
    refine Ev.if_pos rfl (Ev.bind (Ev.val (in_val _ _ _)) ?_)
    by_cases q2 : 0 ≤ most ∧ most ≤ 12
    · rw [_root_.if_pos ⟨q, q2⟩, decide_eq_true q2]
      refine Ev.if_pos rfl (Ev.bind ?_ (Ev.some _))
      obtain ⟨m, rfl⟩ : ∃ m : Nat, n = (m : Int) := ⟨n.toNat, by omega⟩
      unfold spec_l30Search.f
      rw [Int.toNat_natCast]
      exact specRun_ev p m most hp q.2 (by omega) (by omega) 400 (by omega) [] [] (by simp; omega) (by simp; omega)
    · rw [_root_.if_neg (fun h => q2 h.2), decide_eq_false q2]
      exact Ev.if_neg (by simp) (Ev.some _)
  · rw [decide_eq_false q, _root_.if_neg (fun h => q h.1)]
    exact Ev.if_neg (by simp) (Ev.some _)
theorem eqSelf_ev (x : List Int) (hx : x.length ≤ 1048576) : Ev (fun k => laws_eqIntS.f k x x) true := by
  have := eqIntS_ev x x (by omega)
  rwa [decide_eq_true rfl] at this
def leav (n : Int) (p : List Int) (most : Int) : List Int × Bool := if (lav n p most).2 = true ∧ ((lav n p most).1.length : Int) = most then ((lav n p most).1, true) else ([], false)
theorem specLeast_ev (n : Int) (p : List Int) (most : Int) (h1 : p.length ≤ 1048576) : Ev (fun k => spec_LeastAvoiding.f k n p most) (leav n p most) := by
  unfold spec_LeastAvoiding.f leav
  have hl := (lav_len n p most h1).2
  refine Ev.bind (specLong_ev n p most h1) ?_
  refine Ev.ite (fun q => ?_) (fun q => ?_)
  · have := hl q
    refine Ev.ite (fun q2 => ?_) (fun q2 => ?_)
    · rw [_root_.if_neg (by omega)]; exact Ev.some _
    · rw [_root_.if_pos ⟨q, by omega⟩]; exact Ev.some _
  · rw [_root_.if_neg (fun h => q h.1)]; exact Ev.some _
theorem implLeast_ev (n : Int) (p : List Int) (most : Int) (h1 : p.length ≤ 1048576) : Ev (fun k => impl_LeastAvoiding.f k n p most) (leav n p most) := by
  unfold impl_LeastAvoiding.f leav
  refine Ev.bind (implLong_ev n p most h1) ?_
  refine Ev.ite (fun q => ?_) (fun q => ?_)
  · refine Ev.ite (fun q2 => ?_) (fun q2 => ?_)
    · rw [_root_.if_pos ⟨q, q2⟩]; exact Ev.some _
    · rw [_root_.if_neg (fun h => q2 h.2)]; exact Ev.some _
  · rw [_root_.if_neg (fun h => q h.1)]; exact Ev.some _
end Go.Proofs.Ythkkpdgadfhijaa.M
namespace Go.Proofs.Ythkkpdgadfhijaa.M
open Go.RowKit Go.Proofs.YthkkpdgadfhijaaW.PrintWords Go.Proofs.Ythkkpdgadfhijaa.K
set_option linter.unusedVariables false
theorem ext_nx (p : List Int) (hP : isPat p = true) (m : Nat) (u : List Int) (hu : u.length ≤ 23) (h : noM u p) : ext (fun xs => avd xs p) u m = (nx u p m).map fun x => u ++ [x] := by
  unfold ext nx nxF
  rw [Nat.sub_zero, ← List.range_eq_range', List.filter_map, List.filter_map, List.map_map]
  have e : (List.range m).filter ((fun xs => avd xs p) ∘ fun (a : Nat) => u ++ [(a : Int)]) = (List.range m).filter ((fun x => !ends (u ++ [x]) p) ∘ fun (x : Nat) => (x : Int)) :=
    List.filter_congr fun a _ => avd_more u p (a : Int) hP hu h
  rw [e]; rfl
theorem step_eq (p : List Int) (hP : isPat p = true) (m : Nat) : ∀ ws : List (List Int), (∀ u ∈ ws, u.length ≤ 23 ∧ noM u p) → fwStep m (fun xs => avd xs p) ws = lvS m p ws
  | [], _ => rfl
  | u :: ws, h => by
    have ih := step_eq p hP m ws (fun v hv => h v (List.mem_cons_of_mem _ hv))
    have h1 := h u (List.mem_cons_self ..)
    unfold fwStep lvS at ih ⊢
    rw [List.flatMap_cons, List.flatMap_cons, ih, ext_nx p hP m u h1.1 h1.2]
theorem fw_noM (p : List Int) (hP : isPat p = true) (m : Nat) : ∀ n, ∀ u ∈ fw m (fun xs => avd xs p) n, noM u p
  | 0, u, hu => by simp [fw] at hu; subst hu; exact noM_nil p hP
  | n + 1, u, hu => by
    unfold fw fwStep ext at hu
    obtain ⟨word, _, hu⟩ := List.mem_flatMap.1 hu
    exact noM_avd u p (List.mem_filter.1 hu).2
theorem fw_lv (p : List Int) (hP : isPat p = true) (m : Nat) : ∀ n, n ≤ 20 → fw m (fun xs => avd xs p) n = lv m p n
  | 0, _ => rfl
  | n + 1, h => by
    have ih := fw_lv p hP m n (by omega)
    show fwStep m _ (fw m _ n) = lvS m p (lv m p n)
    rw [step_eq p hP m _ (fun u hu => ⟨by rw [fw_len m _ n u hu]; omega, fw_noM p hP m n u hu⟩), ih]
theorem cAv_cNx (p : List Int) (hP : isPat p = true) (m n : Nat) (h : n ≤ 7) : cAv m (fun xs => avd xs p) n = cNx m p n := by
  by_cases hh : ∀ k, k ≤ n → (lv m p k).length ≤ 200
  · rw [cAv_few m _ n (fun k hk => by rw [fw_lv p hP m k (by omega)]; exact hh k hk), cNx_few m p n hh, fw_lv p hP m n (by omega)]
  · obtain ⟨k, hk⟩ := Classical.not_forall.mp hh
    obtain ⟨hk, hl⟩ := Classical.not_imp.mp hk
    rw [cAv_many m _ n k hk (by rw [fw_lv p hP m k (by omega)]; exact hl), cNx_many m p n k hk hl]
def cnt (n : Int) (p : List Int) (q : Int) : Int := if ((1 ≤ n ∧ n ≤ 3) ∧ isPat p = true) ∧ 0 ≤ q ∧ q ≤ 7 then cNx n.toNat p q.toNat else -1
theorem cnt_yes (n : Int) (p : List Int) (q : Int) (h : ((1 ≤ n ∧ n ≤ 3) ∧ isPat p = true) ∧ 0 ≤ q ∧ q ≤ 7) : cnt n p q = cNx n.toNat p q.toNat := if_pos h
theorem cnt_no (n : Int) (p : List Int) (q : Int) (h : ¬ (((1 ≤ n ∧ n ≤ 3) ∧ isPat p = true) ∧ 0 ≤ q ∧ q ≤ 7)) : cnt n p q = -1 := if_neg h
theorem implCount_ev (n : Int) (p : List Int) (q : Int) (hp : p.length ≤ 1048576) : Ev (fun k => impl_CountAvoiding.f k n p q) (cnt n p q) := by
  unfold impl_CountAvoiding.f
  refine Ev.if_pos hp (Ev.bind (implFine_ev n p hp) ?_)
  by_cases h1 : (1 ≤ n ∧ n ≤ 3) ∧ isPat p = true
  · by_cases h2 : 0 ≤ q ∧ q ≤ 7
    · rw [cnt_yes n p q ⟨h1, h2⟩]
      refine Ev.if_pos ⟨decide_eq_true h1, h2⟩ (Ev.if_pos h1.1 ?_)
      rw [← cAv_cNx p h1.2 n.toNat q.toNat (by omega)]
      exact Ev.some _
    · rw [cnt_no n p q (fun h => h2 h.2)]
      exact Ev.if_neg (fun h => h2 h.2) (Ev.some _)
  · rw [cnt_no n p q (fun h => h1 h.1)]
    exact Ev.if_neg (fun h => h1 (of_decide_eq_true h.1)) (Ev.some _)
theorem specCount_ev (n : Int) (p : List Int) (q : Int) (hp : p.length ≤ 1048576) : Ev (fun k => spec_CountAvoiding.f k n p q) (cnt n p q) := by
  unfold spec_CountAvoiding.f
  refine Ev.if_pos hp (Ev.bind (specFine_ev n p hp) ?_)
  by_cases h1 : (1 ≤ n ∧ n ≤ 3) ∧ isPat p = true
  · by_cases h2 : 0 ≤ q ∧ q ≤ 7
    · rw [cnt_yes n p q ⟨h1, h2⟩]
      exact Ev.if_pos ⟨decide_eq_true h1, h2⟩ (Ev.if_pos h1 (Ev.some _))
    · rw [cnt_no n p q (fun h => h2 h.2)]
      exact Ev.if_neg (fun h => h2 h.2) (Ev.some _)
  · rw [cnt_no n p q (fun h => h1 h.1)]
    exact Ev.if_neg (fun h => h1 (of_decide_eq_true h.1)) (Ev.some _)
end Go.Proofs.Ythkkpdgadfhijaa.M
/- The pattern of squares: a short word avoids it just where it has no square. No condition. -/

namespace Go.Proofs.Ythkkpdgadfhijaa.M
open Go.RowKit Go.Proofs.YthkkpdgadfhijaaW.PrintWords Go.Proofs.Ythkkpdgadfhijaa.K
set_option linter.unusedVariables false
theorem isPat_sq : isPat [0, 0] = true := by decide
theorem nl_sq : nl [0, 0] = 1 := by decide
theorem okL_sq (L : List Int) : okL [0, 0] L = true ↔ ∃ p : Nat, L = [(p : Int)] ∧ 1 ≤ p ∧ p ≤ 40 := by
  unfold okL
  rw [isPat_sq, nl_sq, Bool.true_and, Bool.and_eq_true, decide_eq_true_eq, List.all_eq_true]
  constructor
  · rintro ⟨h1, h2⟩
    obtain ⟨y, rfl⟩ := List.length_eq_one_iff.1 h1
    have := of_decide_eq_true (h2 y (List.mem_cons_self ..))
    exact ⟨y.toNat, by rw [show ((y.toNat : Nat) : Int) = y from by omega], by omega, by omega⟩
  · rintro ⟨p, rfl, h1, h2⟩
    refine ⟨rfl, fun x hx => ?_⟩
    rw [List.mem_singleton.1 hx]
    exact decide_eq_true (by omega)
theorem per_drop (w : List Int) (p i : Nat) : per w p i p ∧ 1 ≤ p ↔ (i + p + p ≤ w.length ∧ (w.take (i + p)).drop i = (w.take (i + p + p)).drop (i + p)) ∧ 1 ≤ p := by
  constructor
  · rintro ⟨h, hp⟩
    have hb := per_bound h (by omega)
    refine ⟨⟨hb, List.ext_getElem (by simp; omega) (fun t h1 h2 => ?_)⟩, hp⟩
    simp only [List.length_drop, List.length_take] at h1 h2
    have := (h t (by omega)).2
    rw [List.getD_eq_getElem?_getD, List.getD_eq_getElem?_getD, List.getElem?_eq_getElem (by omega), List.getElem?_eq_getElem (by omega)] at this
    simp only [Option.getD_some] at this
    rw [List.getElem_drop, List.getElem_take, List.getElem_drop, List.getElem_take, this]
    congr 1; omega
  · rintro ⟨⟨hb, h⟩, hp⟩
    refine ⟨fun t ht => ⟨by omega, ?_⟩, hp⟩
    have h1 : ((w.take (i + p)).drop i)[t]? = ((w.take (i + p + p)).drop (i + p))[t]? := by rw [h]
    rw [List.getElem?_drop, List.getElem?_drop, List.getElem?_take_of_lt (by omega), List.getElem?_take_of_lt (by omega)] at h1
    rw [List.getD_eq_getElem?_getD, List.getD_eq_getElem?_getD, h1, show i + t + p = i + p + t from by omega]
theorem mAt_sq (w : List Int) (i p : Nat) (hp : 1 ≤ p ∧ p ≤ 40) : mAt w [0, 0] i [(p : Int)] = true ↔ per w p i p := by
  have hL : okL [0, 0] [(p : Int)] = true := (okL_sq _).2 ⟨p, rfl, hp⟩
  have hd := per_drop w p i
  have e0 : (([(p : Int)] : List Int).getD (0 : Int).toNat 0).toNat = p := by simp
  unfold mAt
  rw [hL, Bool.true_and, Bool.and_eq_true, decide_eq_true_eq]
  simp only [mgo, e0]
  by_cases h1 : w.length < i + p
  · rw [if_pos h1]
    constructor
    · rintro ⟨_, h⟩; cases h
    · intro h; have := per_bound h (by omega); omega
  · rw [if_neg h1]
    have e1 : (List.replicate ([(p : Int)] : List Int).length (none : Option (List Int))).getD (0 : Int).toNat none = none := rfl
    rw [e1]
    simp only
    by_cases h2 : w.length < i + p + p
    · rw [if_pos h2]
      constructor
      · rintro ⟨_, h⟩; cases h
      · intro h; have := per_bound h (by omega); omega
    · rw [if_neg h2]
      have e2 : ((List.replicate ([(p : Int)] : List Int).length (none : Option (List Int))).set (0 : Int).toNat (some ((w.take (i + p)).drop i))).getD (0 : Int).toNat none = some ((w.take (i + p)).drop i) := rfl
      rw [e2]
      simp only
      by_cases h3 : (w.take (i + p)).drop i = (w.take (i + p + p)).drop (i + p)
      · rw [if_pos h3]
        exact ⟨fun _ => (hd.2 ⟨⟨by omega, h3⟩, hp.1⟩).1, fun _ => ⟨by omega, rfl⟩⟩
      · rw [if_neg h3]
        constructor
        · rintro ⟨_, h⟩; cases h
        · intro h; exact absurd (hd.1 ⟨h, hp.1⟩).1.2 h3
theorem noM_sq (w : List Int) (hw : w.length ≤ 24) : noM w [0, 0] ↔ hasPower w 2 1 = false := by
  rw [Bool.eq_false_iff, Ne, hasPower_iff]
  constructor
  · rintro h ⟨_, i, p, L, h1, h2, h3, h4⟩
    have h5 : per w p i p := per_le h3 (by omega)
    have h6 := per_bound h5 (by omega)
    have := (mAt_sq w i p ⟨h1, by omega⟩).2 h5
    rw [h] at this; cases this
  · intro h i L
    cases q : mAt w [0, 0] i L with
    | false => rfl
    | true =>
      obtain ⟨p, rfl, h1, h2⟩ := (okL_sq L).1 (mAt_len q).1
      have h3 := (mAt_sq w i p ⟨h1, h2⟩).1 q
      have h4 := per_bound h3 (by omega)
      exact absurd ⟨by omega, i, p, p, h1, by omega, h3, by omega⟩ h
theorem avd_sq (w : List Int) (hw : w.length ≤ 24) : avd w [0, 0] = tst false w := by
  have h := noM_sq w hw
  unfold avd tst
  rw [_root_.if_neg (by simp)]
  cases q : hasPower w 2 1 with
  | false => exact decide_eq_true ⟨isPat_sq, hw, (fnd_none _ _ isPat_sq hw).2 (h.2 q)⟩
  | true =>
    refine decide_eq_false ?_
    rintro ⟨_, _, h3⟩
    have := h.1 ((fnd_none _ _ isPat_sq hw).1 h3)
    rw [q] at this; cases this
theorem fw_sq (m : Nat) : ∀ n, n ≤ 20 → fw m (fun xs => avd xs [0, 0]) n = fw m (tst false) n
  | 0, _ => rfl
  | n + 1, h => by
    have ih := fw_sq m n (by omega)
    show fwStep m _ (fw m _ n) = fwStep m _ (fw m _ n)
    rw [ih]
    have hl := fw_len m (tst false) n
    generalize fw m (tst false) n = ws at hl
    unfold fwStep ext
    have key : ∀ ws : List (List Int), (∀ u ∈ ws, u.length = n) → (ws.flatMap fun word => ((List.range m).map fun (a : Nat) => word ++ [(a : Int)]).filter fun xs => avd xs [0, 0]) = ws.flatMap fun word => ((List.range m).map fun (a : Nat) => word ++ [(a : Int)]).filter (tst false) := by
      intro ws
      induction ws with
      | nil => intro _; rfl
      | cons u ws ih2 =>
        intro hu
        rw [List.flatMap_cons, List.flatMap_cons, ih2 (fun v hv => hu v (List.mem_cons_of_mem _ hv))]
        congr 1
        refine List.filter_congr fun v hv => ?_
        obtain ⟨a, _, rfl⟩ := List.mem_map.1 hv
        have := hu u (List.mem_cons_self ..)
        exact avd_sq _ (by simp; omega)
    exact key ws hl
end Go.Proofs.Ythkkpdgadfhijaa.M
/- What the drawn inputs come to: they are told, and they are small. No condition but lengths that fit. -/
namespace Go.Proofs.Ythkkpdgadfhijaa.M
open Go.RowKit Go.Proofs.YthkkpdgadfhijaaW.PrintWords Go.Proofs.Ythkkpdgadfhijaa.K
set_option linter.unusedVariables false
theorem and255 (n : Int) : bits .and .i64 n 255 = n % 256 := by
  have h1 : (BitVec.ofInt 64 n &&& BitVec.ofInt 64 255).toNat = (n % 18446744073709551616).toNat % 256 := by
    rw [BitVec.toNat_and, BitVec.toNat_ofInt]
    exact Nat.and_two_pow_sub_one_eq_mod _ 8
  have h2 : bits .and .i64 n 255 = IntKind.i64.wrap (((BitVec.ofInt 64 n &&& BitVec.ofInt 64 255).toNat : Nat) : Int) := rfl
  rw [h2, h1, IntKind.wrap_i64]
  omega
theorem byte_val (s : List Int) (i h : Int) (h0 : 0 ≤ i) (h1 : i ≤ s.length) (hs : s.length ≤ 1048576) : ∃ r i' h', spec_l1Byte.f s i h = some (r, i', h') ∧ 0 ≤ r ∧ r ≤ 255 ∧ 0 ≤ i' ∧ i' ≤ (s.length : Int) := by
  unfold spec_l1Byte.f
  by_cases q : i < (s.length : Int)
  · rw [_root_.if_pos q, _root_.if_pos h0]
    refine ⟨_, _, _, rfl, ?_, ?_, ?_, ?_⟩
    · rw [and255]; omega
    · rw [and255]; omega
    · rw [w_id (by omega) (by omega)]; omega
    · rw [w_id (by omega) (by omega)]; omega
  · rw [_root_.if_neg q]
    refine ⟨_, _, _, rfl, ?_, ?_, h0, h1⟩
    · rw [and255]; omega
    · rw [and255]; omega
theorem below_val (s : List Int) (i h n : Int) (h0 : 0 ≤ i) (h1 : i ≤ s.length) (hs : s.length ≤ 1048576) (hn : 1 ≤ n) (hn2 : n ≤ 256) : ∃ r i' h', spec_l1Below.f s i h n = some (r, i', h') ∧ 0 ≤ r ∧ r < n ∧ 0 ≤ i' ∧ i' ≤ (s.length : Int) := by
  obtain ⟨r, i', h', e, r0, r1, i0, i1⟩ := byte_val s i h h0 h1 hs
  unfold spec_l1Below.f
  rw [_root_.if_neg (by omega), _root_.if_pos hn2, e, Option.bind_some, _root_.if_neg (by omega)]
  refine ⟨_, _, _, rfl, ?_, ?_, i0, i1⟩
  · dsimp only; rw [Int.tmod_eq_emod_of_nonneg r0]; exact Int.emod_nonneg _ (by omega)
  · dsimp only; rw [Int.tmod_eq_emod_of_nonneg r0]; exact Int.emod_lt_of_pos _ (by omega)
theorem new_ev (s : List Int) (hs : s.length ≤ 1048576) : ∃ h, Ev (fun k => spec_l1New.f k s) (s, 0, h) := by
  have key : ∀ d i : Nat, i + d = s.length → ∀ h : Int, ∃ h', Ev (fun k => spec_l1New.l0 k s h (i : Int)) (s, 0, h') := by
    intro d
    induction d with
    | zero =>
      intro i hi h
      exact ⟨h, Ev.step (fun k => by simp only [spec_l1New.l0]; rw [_root_.if_neg (by omega)]) (Ev.some _)⟩
    | succ d ih =>
      intro i hi h
      by_cases q : (i : Int) < 4000
      · obtain ⟨h', hE⟩ := ih (i + 1) (by omega) _
        exact ⟨h', Ev.step (fun k => by simp only [spec_l1New.l0]; rw [_root_.if_pos (by omega), _root_.if_pos q, _root_.if_pos (by omega), wsucc (i := i) (by omega)]) hE⟩
      · exact ⟨h, Ev.step (fun k => by simp only [spec_l1New.l0]; rw [_root_.if_pos (by omega), _root_.if_neg q]) (Ev.some _)⟩
  unfold spec_l1New.f
  exact key s.length 0 (by omega) _
theorem once_val (s : List Int) (i h n : Int) (h0 : 0 ≤ i) (h1 : i ≤ s.length) (hs : s.length ≤ 1048576) (hn : 1 ≤ n) (hn2 : n ≤ 256) : ∃ r i' h', spec_l1Once.f s i h n = some (r, i', h') ∧ 0 ≤ i' ∧ i' ≤ (s.length : Int) := by
  obtain ⟨r, i', h', e, r0, r1, i0, i1⟩ := below_val s i h n h0 h1 hs hn hn2
  unfold spec_l1Once.f
  rw [e]
  exact ⟨_, _, _, rfl, i0, i1⟩
theorem pick_val (s : List Int) (i h : Int) (l : List Int) (h0 : 0 ≤ i) (h1 : i ≤ s.length) (hs : s.length ≤ 1048576) (hl : 1 ≤ l.length) (hl2 : l.length ≤ 256) : ∃ r i' h', spec_l1PickInt.f s i h l = some (r, i', h') ∧ 0 ≤ i' ∧ i' ≤ (s.length : Int) := by
  obtain ⟨r, i', h', e, r0, r1, i0, i1⟩ := below_val s i h (l.length : Int) h0 h1 hs (by omega) (by omega)
  unfold spec_l1PickInt.f
  rw [e, Option.bind_some]
  dsimp only
  rw [_root_.if_pos r0, _root_.if_pos r1]
  exact ⟨_, _, _, rfl, i0, i1⟩
end Go.Proofs.Ythkkpdgadfhijaa.M
/- The law on words that avoid a pattern: what is found avoids it, and the counts fit. No condition. -/
namespace Go.Proofs.Ythkkpdgadfhijaa.M
open Go.RowKit Go.Proofs.YthkkpdgadfhijaaW.PrintWords Go.Proofs.Ythkkpdgadfhijaa.K
set_option linter.unusedVariables false
set_option maxRecDepth 100000
theorem pat_val (s : List Int) (i h : Int) (h0 : 0 ≤ i) (h1 : i ≤ s.length) (hs : s.length ≤ 1048576) : ∃ p i' h', spec_l28Pattern.f s i h = some (p, i', h') ∧ p.length ≤ 6 ∧ 0 ≤ i' ∧ i' ≤ (s.length : Int) := by
  obtain ⟨r, i', h', e, r0, r1, i0, i1⟩ := below_val s i h 11 h0 h1 hs (by omega) (by omega)
  obtain ⟨n, rfl⟩ : ∃ n : Nat, r = (n : Int) := ⟨r.toNat, by omega⟩
  have e' : ∀ n_ : Int, n_ = 11 → spec_l1Below.f s i h n_ = some ((n : Int), i', h') := by rintro _ rfl; exact e
  unfold spec_l28Pattern.f
  rw [Option.bind_some, Option.bind_some, e' _ (by rfl), Option.bind_some]
  have hn : n < 11 := by omega
  rcases (show n = 0 ∨ n = 1 ∨ n = 2 ∨ n = 3 ∨ n = 4 ∨ n = 5 ∨ n = 6 ∨ n = 7 ∨ n = 8 ∨ n = 9 ∨ n = 10 by omega) with rfl | rfl | rfl | rfl | rfl | rfl | rfl | rfl | rfl | rfl | rfl
  all_goals exact ⟨_, i', h', rfl, by dsimp only; decide, i0, i1⟩
theorem word_ev (s : List Int) (i h m : Int) (h0 : 0 ≤ i) (h1 : i ≤ s.length) (hs : s.length ≤ 1048576) (hm : 1 ≤ m) (hm2 : m ≤ 256) : ∃ l i' h', Ev (fun k => spec_l7Word.f k s i h m) (l, i', h') ∧ l.length ≤ 20 ∧ 0 ≤ i' ∧ i' ≤ (s.length : Int) := by
  have key : ∀ (n : Nat) (acc : List Int) (i h : Int), acc.length + n ≤ 12 → 0 ≤ i → i ≤ s.length → ∃ l i' h', Ev (fun k => spec_l7Word.l0 k m acc (n : Int) s i h) (l, i', h') ∧ l.length ≤ 20 ∧ 0 ≤ i' ∧ i' ≤ (s.length : Int) := by
    intro n
    induction n with
    | zero =>
      intro acc i h hn h0 h1
      exact ⟨acc, i, h, Ev.step (fun k => by simp only [spec_l7Word.l0]; rw [_root_.if_neg (by omega)]) (Ev.some _), by omega, h0, h1⟩
    | succ n ih =>
      intro acc i h hn h0 h1
      obtain ⟨r, i', h', e, r0, r1, i0, i1⟩ := below_val s i h m h0 h1 hs hm hm2
      obtain ⟨l, i2, h2, hE, hl, j0, j1⟩ := ih (acc ++ [r]) i' h' (by simp; omega) i0 i1
      refine ⟨l, i2, h2, Ev.step (fun k => by simp only [spec_l7Word.l0]; rw [_root_.if_pos (by omega), e, Option.bind_some, _root_.if_pos (by omega), w_id (a := ((n + 1 : Nat) : Int) - 1) (by omega) (by omega), show ((n + 1 : Nat) : Int) - 1 = (n : Int) from by omega]) hE, hl, j0, j1⟩
  obtain ⟨r, i', h', e, r0, r1, i0, i1⟩ := below_val s i h 12 h0 h1 hs (by omega) (by omega)
  obtain ⟨n, rfl⟩ : ∃ n : Nat, r = (n : Int) := ⟨r.toNat, by omega⟩
  obtain ⟨l, i2, h2, hE, hl, j0, j1⟩ := key n [] i' h' (by simp; omega) i0 i1
  unfold spec_l7Word.f
  exact ⟨l, i2, h2, Ev.bind (Ev.val e) hE, hl, j0, j1⟩
theorem long_draw (s : List Int) (hs : s.length ≤ 1048576) : ∃ m p n, Ev (fun k => spec_DrawLongestAvoiding.f k s) (m, p, n) ∧ p.length ≤ 6 := by
  obtain ⟨h, hnew⟩ := new_ev s hs
  obtain ⟨r, i1, h1, e1, _, _, a1, b1⟩ := below_val s 0 h 3 (by omega) (by omega) hs (by omega) (by omega)
  obtain ⟨p, i2, h2, e2, hp, a2, b2⟩ := pat_val s i1 h1 a1 b1 hs
  obtain ⟨o, i3, h3, e3, a3, b3⟩ := once_val s i2 h2 14 a2 b2 hs (by omega) (by omega)
  unfold spec_DrawLongestAvoiding.f spec_l30Both.f
  cases o with
  | true =>
    obtain ⟨q, i4, h4, e4, a4, b4⟩ := pick_val s i3 h3 [0, 4] a3 b3 hs (by simp) (by simp)
    obtain ⟨x, i5, h5, e5, _⟩ := below_val s i4 h4 10 a4 b4 hs (by omega) (by omega)
    exact ⟨_, _, _, Ev.bind (Ev.bind hnew (Ev.bind (Ev.val e1) (Ev.bind (Ev.val e2) (Ev.bind (Ev.val e3) (Ev.if_pos rfl (Ev.bind (Ev.val e4) (Ev.bind (Ev.val e5) (Ev.some _)))))))) (Ev.some _), hp⟩
  | false =>
    obtain ⟨x, i5, h5, e5, _⟩ := below_val s i3 h3 10 a3 b3 hs (by omega) (by omega)
    exact ⟨_, _, _, Ev.bind (Ev.bind hnew (Ev.bind (Ev.val e1) (Ev.bind (Ev.val e2) (Ev.bind (Ev.val e3) (Ev.if_neg (by simp) (Ev.bind (Ev.val e5) (Ev.some _))))))) (Ev.some _), hp⟩
theorem ext_draw (s : List Int) (hs : s.length ≤ 1048576) : ∃ w n p, Ev (fun k => spec_DrawExtensionsOf.f k s) (w, n, p) ∧ w.length ≤ 20 ∧ p.length ≤ 6 := by
  obtain ⟨h, hnew⟩ := new_ev s hs
  obtain ⟨r, i1, h1, e1, r0, r1, a1, b1⟩ := below_val s 0 h 3 (by omega) (by omega) hs (by omega) (by omega)
  have e0 : wrap64 (1 + r) = 1 + r := w_id (by omega) (by omega)
  obtain ⟨w, i2, h2, e2, hw, a2, b2⟩ := word_ev s i1 h1 (wrap64 (1 + r)) a1 b1 hs (by omega) (by omega)
  obtain ⟨p, i3, h3, e3, hp, a3, b3⟩ := pat_val s i2 h2 a2 b2 hs
  unfold spec_DrawExtensionsOf.f
  exact ⟨_, _, _, Ev.bind hnew (Ev.bind (Ev.val e1) (Ev.bind e2 (Ev.bind (Ev.val e3) (Ev.some _)))), hw, hp⟩
theorem sameInts_ev (x y : List Int) (hx : x.length ≤ 1048576) : Ev (fun k => laws_sameInts.f k x y) (decide (x = y)) := by
  unfold laws_sameInts.f
  refine Ev.ite (fun hl => ?_) (fun hl => ?_)
  · have key : ∀ i, i ≤ x.length → Ev (fun k => laws_sameInts.l0 k x y (i : Int)) (decide (x.drop i = y.drop i)) := by
      refine down x.length ?_ ?_
      · refine Ev.step (fun k => by simp only [laws_sameInts.l0]; rw [_root_.if_neg (by omega)]) ?_
        rw [List.drop_length, List.drop_eq_nil_of_le (by omega)]
        exact Ev.some _
      · intro i hi ih
        have hy : i < y.length := by omega
        refine Ev.step (fun k => by simp only [laws_sameInts.l0]; rw [_root_.if_pos (by omega), _root_.if_pos (by omega), _root_.if_pos (by omega), wsucc (by omega), rd_get x i hi, rd_get y i hy]) ?_
        rw [drop_eq x i hi, drop_eq y i hy]
        refine Ev.ite (fun q => ?_) (fun q => ?_)
        · have : decide (x[i] :: x.drop (i + 1) = y[i] :: y.drop (i + 1)) = decide (x.drop (i + 1) = y.drop (i + 1)) := decide_eq_decide.2 (by rw [q]; exact ⟨fun h => (List.cons.inj h).2, fun h => by rw [h]⟩)
          rw [this]; exact ih
        · rw [decide_eq_false (by intro h; exact q (List.cons.inj h).1)]; exact Ev.some _
    exact key 0 (by omega)
  · rw [decide_eq_false (by rintro rfl; exact hl rfl)]; exact Ev.some _

/-- A word over m letters without the pattern. -/
def G (p : List Int) (m : Nat) (w : List Int) : Prop := noM w p ∧ isL w m = true
section G
variable (p : List Int) (m : Nat) (hP : isPat p = true)
include hP
theorem G_nil : G p m [] := ⟨noM_nil p hP, rfl⟩
theorem G_pre {w : List Int} {z : Int} (h : G p m (w ++ [z])) : G p m w := by
  refine ⟨((noM_more w p z hP).1 h.1).1, ?_⟩
  have := h.2
  unfold isL at this ⊢
  rw [List.all_append, Bool.and_eq_true] at this
  exact this.1
theorem G_nx {w : List Int} {b : Int} (h : G p m w) (hb : b ∈ nx w p m) : G p m (w ++ [b]) := by
  obtain ⟨x, rfl, hx, he⟩ := nx_mem w p m b hb
  refine ⟨(noM_more w p _ hP).2 ⟨h.1, he⟩, ?_⟩
  have := h.2
  unfold isL at this ⊢
  rw [List.all_append, this, Bool.true_and, List.all_cons, List.all_nil, decide_eq_true (by omega)]; rfl
theorem upR_G : ∀ r w, G p m r.reverse → upR p m r = some w → G p m w := by
  intro r
  induction r with
  | nil => intro w _ h; cases h
  | cons a r ih =>
    intro w hg h
    rw [List.reverse_cons] at hg
    have hg := G_pre p m hP hg
    simp only [upR] at h
    split at h
    · rename_i b hb
      obtain rfl := Option.some.inj h
      exact G_nx p m hP hg (List.mem_of_find?_eq_some hb)
    · exact ih w hg h
theorem succ_G {w w' : List Int} (hg : G p m w) (h : succ_ p m w = some w') : G p m w' := by
  unfold succ_ at h
  split at h
  · rename_i b l hb
    obtain rfl := Option.some.inj h
    exact G_nx p m hP hg (by rw [hb]; exact List.mem_cons_self ..)
  · exact upR_G p m hP _ _ (by rwa [List.reverse_reverse]) h
omit hP in
theorem longer_G {w b : List Int} (hw : G p m w) (hb : G p m b) : G p m (longer w b) := by unfold longer; split <;> assumption
theorem srun_G (most : Int) : ∀ t best w, G p m best → G p m w → G p m (srun p m most t best w) := by
  intro t
  induction t with
  | zero => intro best w hb _; exact hb
  | succ t ih =>
    intro best w hb hw
    unfold srun
    split
    · exact longer_G p m hw hb
    · split
      · exact longer_G p m hw hb
      · rename_i w' h
        exact ih _ _ (longer_G p m hw hb) (succ_G p m hP hw h)
theorem lv_mem : ∀ r : List Int, G p m r.reverse → r.reverse ∈ lv m p r.length := by
  intro r
  induction r with
  | nil => intro _; exact List.mem_cons_self ..
  | cons a r ih =>
    intro hg
    rw [List.reverse_cons] at hg ⊢
    have hg2 := G_pre p m hP hg
    have he := ((noM_more _ p a hP).1 hg.1).2
    have hl := hg.2
    unfold isL at hl
    rw [List.all_append, Bool.and_eq_true, List.all_cons, Bool.and_eq_true] at hl
    have ha := of_decide_eq_true hl.2.1
    show _ ∈ lvS m p (lv m p r.length)
    unfold lvS
    refine List.mem_flatMap.2 ⟨r.reverse, ih hg2, List.mem_map.2 ⟨a, ?_, rfl⟩⟩
    unfold nx nxF
    refine List.mem_filter.2 ⟨List.mem_map.2 ⟨a.toNat, ?_, by omega⟩, by rw [he]; rfl⟩
    rw [List.mem_range'_1]; omega
end G
theorem lav_good (m : Int) (p : List Int) (n : Int) (hp : p.length ≤ 1048576) (h : (lav m p n).2 = true) : ((1 ≤ m ∧ m ≤ 3) ∧ isPat p = true) ∧ (0 ≤ n ∧ n ≤ 12) ∧ G p m.toNat (lav m p n).1 := by
  unfold lav at h ⊢
  split at h
  · rename_i q
    rw [if_pos q]
    exact ⟨q.1, q.2, srun_G p m.toNat q.1.2 n 400 [] [] (G_nil p _ q.1.2) (G_nil p _ q.1.2)⟩
  · cases h
theorem cnt_found (m : Int) (p : List Int) (n : Int) (hp : p.length ≤ 1048576) (h : (leav m p n).2 = true) : cnt m p n ≠ 0 := by
  have h1 : (lav m p n).2 = true ∧ ((lav m p n).1.length : Int) = n := by
    unfold leav at h
    split at h
    · rename_i q; exact q
    · cases h
  obtain ⟨g1, g2, g3⟩ := lav_good m p n hp h1.1
  unfold cnt
  split
  · rename_i q
    unfold cNx
    split
    · have := lv_mem p m.toNat g1.2 (lav m p n).1.reverse (by rwa [List.reverse_reverse])
      rw [List.reverse_reverse, List.length_reverse] at this
      have e : (lav m p n).1.length = n.toNat := by omega
      rw [e] at this
      have := List.length_pos_of_mem this
      omega
    · omega
  · omega
theorem implUna_ev (m : Int) (p : List Int) (n : Int) (h1 : p.length ≤ 1048576) : Ev (fun k => impl_IsUnavoidable.f k m p n) ((lav m p n).2 && decide (((lav m p n).1.length : Int) < n)) := by
  unfold impl_IsUnavoidable.f
  refine Ev.bind (implLong_ev m p n h1) ?_
  cases (lav m p n).2 with
  | true => exact Ev.if_pos rfl (Ev.some _)
  | false => exact Ev.if_neg (by simp) (Ev.some _)
theorem specUna_ev (m : Int) (p : List Int) (n : Int) (h1 : p.length ≤ 1048576) : Ev (fun k => spec_IsUnavoidable.f k m p n) ((lav m p n).2 && decide (((lav m p n).1.length : Int) < n)) := by
  unfold spec_IsUnavoidable.f
  refine Ev.bind (specLong_ev m p n h1) ?_
  cases (lav m p n).2 with
  | true => exact Ev.if_pos rfl (Ev.some _)
  | false => exact Ev.if_neg (by simp) (Ev.some _)
noncomputable def csq (m n : Int) : Int := if (1 ≤ m ∧ m ≤ 3) ∧ 0 ≤ n ∧ n ≤ 8 then ((fw m.toNat (tst false) n.toNat).length : Int) else -1
theorem implCSQ_ev (m n : Int) : Ev (fun k => impl_CountSquareFree.f k m n) (csq m n) := by
  unfold impl_CountSquareFree.f csq
  refine Ev.ite (fun q => ?_) (fun q1 => Ev.ite (fun q => ?_) (fun q2 => Ev.ite (fun q => ?_) (fun q3 => Ev.ite (fun q => ?_) (fun q4 => ?_))))
  · rw [_root_.if_neg (by omega)]; exact Ev.some _
  · rw [_root_.if_neg (by omega)]; exact Ev.some _
  · rw [_root_.if_neg (by omega)]; exact Ev.some _
  · rw [_root_.if_neg (by omega)]; exact Ev.some _
  · rw [_root_.if_pos (by omega)]
    obtain ⟨a, rfl⟩ : ∃ a : Nat, m = (a : Int) := ⟨m.toNat, by omega⟩
    obtain ⟨b, rfl⟩ : ∃ b : Nat, n = (b : Int) := ⟨n.toNat, by omega⟩
    rw [Int.toNat_natCast, Int.toNat_natCast]
    exact Ev.bind (impl_freeWords_of115.ev a b (by omega) (by omega)) (Ev.some _)
theorem cnt_csq (m n : Int) (h : 0 < cnt m [0, 0] n) : cnt m [0, 0] n = csq m n := by
  unfold cnt at h ⊢
  split at h
  · rename_i q
    rw [_root_.if_pos q]
    unfold csq
    rw [_root_.if_pos (by omega)]
    have e := cAv_cNx [0, 0] isPat_sq m.toNat n.toNat (by omega)
    rw [← e] at h ⊢
    unfold cAv at h ⊢
    split at h
    · rename_i q2
      rw [_root_.if_pos q2, fw_sq m.toNat n.toNat (by omega)]
    · omega
  · omega
theorem bne_self' (b : Bool) : (b != b) = false := by cases b <;> rfl
theorem lawAv : laws_FnAvoidance.Pure := by
  intro s _ hs _
  have main : Ev (fun k => laws_FnAvoidance.f k s) true := by
    unfold laws_FnAvoidance.f
    refine Ev.bind (Ev.val rfl) ?_
    refine Ev.ite (fun _ => Ev.some _) (fun q => ?_)
    have hs : s.length ≤ 1048576 := by
      have : ¬ (s.length : Int) > 1048576 := fun h => q (decide_eq_true h)
      omega
    obtain ⟨m, p, n, hD, hp6⟩ := long_draw s hs
    have hp : p.length ≤ 1048576 := by omega
    have iL := implLong_ev m p n hp
    have sL := specLong_ev m p n hp
    have iA := implLeast_ev m p n hp
    have sA := specLeast_ev m p n hp
    have iU := implUna_ev m p n hp
    have sU := specUna_ev m p n hp
    have iC := implCount_ev m p n hp
    have sC := specCount_ev m p n hp
    have good := lav_good m p n hp
    have found := cnt_found m p n hp
    have hlen := lav_len m p n hp
    have hcs : 0 < cnt m p n → p = [0, 0] → cnt m p n = csq m n := by rintro h rfl; exact cnt_csq m n h
    have hle : (leav m p n).1 = [] ∨ (leav m p n).1 = (lav m p n).1 := by
      unfold leav; split
      · exact .inr rfl
      · exact .inl rfl
    have hA : (leav m p n).2 = true → (lav m p n).2 = true ∧ ((lav m p n).1.length : Int) = n ∧ (leav m p n).1 = (lav m p n).1 := by
      unfold leav; intro h; split at h
      · rename_i q; rw [_root_.if_pos q]; exact ⟨q.1, q.2, rfl⟩
      · cases h
    generalize lav m p n = x at *
    generalize leav m p n = v at *
    generalize cnt m p n = c at *
    obtain ⟨x, is⟩ := x
    obtain ⟨v, one⟩ := v
    dsimp only at *
    have hx : x.length ≤ 1048576 := by omega
    have hv : v.length ≤ 1048576 := by rcases hle with rfl | rfl; simp; exact hx
    have j3 : Ev (fun k => laws_FnAvoidance.j3 k s false) true := by
      refine Ev.step (fun k => by simp only [laws_FnAvoidance.j3]; rw [_root_.if_neg (by simp)]) ?_
      obtain ⟨w, a, b, hE, hw, hb⟩ := ext_draw s hs
      refine Ev.bind hE (Ev.bind (implExt_ev w b a (by omega) (by omega)) (Ev.bind (specExt_ev w b a (by omega) (by omega)) ?_))
      have : (eo w b a).length ≤ 1048576 := by
        unfold eo; split
        · rename_i q; have := exts_len w b 0 a.toNat; omega
        · simp
      have e := sameInts_ev (eo w b a) (eo w b a) this
      rw [decide_eq_true rfl] at e
      exact Ev.bind e (Ev.some _)
    have j2 : Ev (fun k => laws_FnAvoidance.j2 k s m p n c false) true := by
      refine Ev.step (fun k => by simp only [laws_FnAvoidance.j2]; rw [_root_.if_neg (by simp)]) ?_
      refine Ev.ite (fun q1 => ?_) (fun _ => j3)
      refine Ev.bind (sameInts_ev p [0, 0] hp) ?_
      refine Ev.ite (fun q2 => ?_) (fun _ => j3)
      refine Ev.ite (fun _ => ?_) (fun _ => j3)
      refine Ev.bind (implCSQ_ev m n) ?_
      rw [← hcs q1 (of_decide_eq_true q2), show (c != c) = false from by simp]
      exact j3
    have j1 : Ev (fun k => laws_FnAvoidance.j1 k s m p n one false) true := by
      refine Ev.step (fun k => by simp only [laws_FnAvoidance.j1]; rw [_root_.if_neg (by simp)]) ?_
      refine Ev.bind iC (Ev.bind sC (Ev.if_pos rfl ?_))
      refine Ev.ite (fun q1 => ?_) (fun q1 => ?_)
      · refine Ev.ite (fun q2 => absurd q1 (found q2)) (fun _ => j2)
      · refine Ev.ite (fun q2 => ?_) (fun _ => j2)
        refine Ev.ite (fun q3 => ?_) (fun _ => j2)
        rw [decide_eq_false (by omega)]; exact j2
    have j0 : Ev (fun k => laws_FnAvoidance.j0 k s m p n is x one v false) true := by
      refine Ev.step (fun k => by simp only [laws_FnAvoidance.j0]; rw [_root_.if_neg (by simp)]) ?_
      have tail : Ev (fun k => if one = true then (if (v.length : Int) = n then ((laws_sameInts.f k v x).bind fun t => laws_FnAvoidance.j1 k s m p n one (!t)) else laws_FnAvoidance.j1 k s m p n one true) else laws_FnAvoidance.j1 k s m p n one false) true := by
        refine Ev.ite (fun q1 => ?_) (fun _ => j1)
        obtain ⟨_, a2, rfl⟩ := hA q1
        have e := sameInts_ev v v hv
        rw [decide_eq_true rfl] at e
        exact Ev.if_pos a2 (Ev.bind e j1)
      refine Ev.ite (fun q1 => ?_) (fun q1 => ?_)
      · obtain ⟨g1, g2, g3, g4⟩ := good q1
        have hln := hlen.2 q1
        obtain ⟨a, rfl⟩ : ∃ a : Nat, m = (a : Int) := ⟨m.toNat, by omega⟩
        rw [Int.toNat_natCast] at g4
        have hav : avd x p = true := by
          unfold avd
          exact decide_eq_true ⟨g1.2, by omega, (fnd_none x p g1.2 (by omega)).2 g3⟩
        have iv := implAvoids_ev x p hx hp
        unfold avd at hav
        rw [hav] at iv
        have sw := specIsWord_ev x a hx
        have hiw : iw x a = true := by
          unfold iw; rw [g4, decide_eq_true (by omega), decide_eq_true (by omega)]; rfl
        rw [hiw] at sw
        exact Ev.if_neg (by omega) (Ev.bind iv (Ev.if_pos rfl (Ev.bind sw (Ev.if_pos rfl tail))))
      · exact tail
    have e1 := sameInts_ev x x hx
    have e2 := sameInts_ev v v hv
    rw [decide_eq_true rfl] at e1 e2
    refine Ev.bind hD (Ev.bind iL (Ev.bind sL (Ev.bind iA (Ev.bind sA ?_))))
    refine Ev.if_neg (by simp) (Ev.bind e1 (Ev.if_pos rfl (Ev.if_neg (by simp) (Ev.bind e2 (Ev.if_pos rfl (Ev.bind iU (Ev.bind sU (Ev.if_neg (by simp) (Ev.bind iU ?_)))))))))
    refine Ev.ite (fun q1 => ?_) (fun _ => j0)
    have : one = false := by
      cases one with
      | false => rfl
      | true =>
        obtain ⟨a1, a2, _⟩ := hA rfl
        rw [Bool.and_eq_true, decide_eq_true_eq] at q1
        omega
    show Ev (fun k => laws_FnAvoidance.j0 k s m p n is x one v one) true
    have j0' := j0
    rw [this] at j0' ⊢
    exact j0'
  obtain ⟨k, hk⟩ := main.rounds
  exact ⟨k, hk⟩
end Go.Proofs.Ythkkpdgadfhijaa.M
/- FnAvoidance: the plain law of the statement, out of what program and reference come to. No condition. -/
namespace Go.Proofs.Ythkkpdgadfhijaa.Pure
open Go.RowKit Go.Proofs.Ythkkpdgadfhijaa.M Go.Proofs.YthkkpdgadfhijaaW.PrintWords Go.Proofs.YthkkpdgadfhijaaW.PrintLast
theorem FnAvoidance : laws_FnAvoidance.Pure := lawAv
end Go.Proofs.Ythkkpdgadfhijaa.Pure
