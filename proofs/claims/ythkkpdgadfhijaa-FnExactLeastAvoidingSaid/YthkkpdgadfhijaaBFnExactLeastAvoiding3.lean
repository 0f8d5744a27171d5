/- Texts of the claim on FnExactLeastAvoiding, joined (part 3 of 6): walks of the functions, what they come to, and in the last part the row. No condition of mine. -/
import Derived.Test.YthkkpdgadfhijaaBFnExactLeastAvoiding0
import Derived.Test.YthkkpdgadfhijaaBFnExactLeastAvoiding1
import Derived.Test.YthkkpdgadfhijaaBFnExactLeastAvoiding2
/- Walks for this claim, written by a program of mine over the kit's print. No condition of mine. -/
namespace Go.Proofs.Ythkkpdgadfhijaa.M
open Go.RowKit Go.Proofs.Ythkkpdgadfhijaa.KW Go.Proofs.YthkkpdgadfhijaaW.PrintWords Go.Proofs.YthkkpdgadfhijaaW.PrintLast Go.Proofs.YthkkpdgadfhijaaW.PrintMore
attribute [local go_sem] max2_int min2_int max_two min_two max_three min_three max_four min_four   -- for this text's walks alone
set_option linter.unusedVariables false
set_option linter.unusedSimpArgs false

/-! ### laws_FnExactLeastAvoiding: function 10 -/
mutual
def laws_FnExactLeastAvoiding.j0 : Nat → Int → List Int → Int → List Int → Bool → List Int → List Int → Bool → Bool → Option (Bool)
 | 0, _, _, _, _, _, _, _, _, _ => none
 | k + 1, x0, x1, x2, x7, x8, x9, x10, x11, x45 => if x45 = true then (some false) else ((laws_toIntS.f k x1).bind fun t1187 => ((laws_eqIntS.f k x9 t1187).bind fun t1190 => (if t1190 = true then ((laws_markIntS.f k x9 1).bind fun bt1191 => (if bt1191.1 < 0 then (laws_FnExactLeastAvoiding.j1 k x0 x1 x2 x7 x8 x10 true) else ((laws_eqIntS.f k x10 x7).bind fun t1193 => (if t1193 = true then (laws_FnExactLeastAvoiding.j1 k x0 x1 x2 x7 x8 x10 (x11 != x8)) else (laws_FnExactLeastAvoiding.j1 k x0 x1 x2 x7 x8 x10 true))))) else (some false))))
def laws_FnExactLeastAvoiding.j1 : Nat → Int → List Int → Int → List Int → Bool → List Int → Bool → Option (Bool)
 | 0, _, _, _, _, _, _, _ => none
 | k + 1, x0, x1, x2, x7, x8, x10, x66 => if x66 = true then (some false) else ((laws_markIntS.f k x10 1).bind fun bt1194 => ((laws_heldIntS.f k bt1194.2 1).bind fun t1196 => (if t1196 < 0 then (some false) else (if t1196 = bt1194.1 then ((laws_toIntS.f k x1).bind fun t1197 => ((impl_LeastAvoiding.f k x0 t1197 x2).bind fun bt1200 => ((laws_eqIntS.f k bt1200.1 x7).bind fun t1204 => (if t1204 = true then (laws_FnExactLeastAvoiding.j2 k bt1194.2 bt1194.1 (bt1200.2 != x8)) else (laws_FnExactLeastAvoiding.j2 k bt1194.2 bt1194.1 true))))) else (some false)))))
def laws_FnExactLeastAvoiding.j2 : Nat → List Int → Int → Bool → Option (Bool)
 | 0, _, _, _ => none
 | k + 1, x10, x13, x94 => if x94 = true then (some false) else ((laws_heldIntS.f k x10 1).bind fun t1205 => (if t1205 < 0 then (some false) else (if t1205 = x13 then (some true) else (some false))))
end
def laws_FnExactLeastAvoiding.f (k : Nat) (a0 : Int) (l1 : List Int) (a2 : Int) : Option (Bool) := if (l1.length : Int) > 1048576 then (some true) else ((laws_toIntS.f k l1).bind fun t1172 => ((spec_LeastAvoiding.f k a0 t1172 a2).bind fun bt1175 => ((laws_toIntS.f k l1).bind fun t1179 => ((impl_LeastAvoiding.f k a0 t1179 a2).bind fun bt1182 => ((laws_eqIntS.f k bt1182.1 bt1175.1).bind fun t1186 => (if t1186 = true then (laws_FnExactLeastAvoiding.j0 k a0 l1 a2 bt1175.1 bt1175.2 t1179 bt1182.1 bt1182.2 (bt1182.2 != bt1175.2)) else (laws_FnExactLeastAvoiding.j0 k a0 l1 a2 bt1175.1 bt1175.2 t1179 bt1182.1 bt1182.2 true)))))))
theorem laws_FnExactLeastAvoiding.mono_l : ∀ k, (∀ y0 y1 y2 y3 y4 y5 y6 y7 y8, LeO (laws_FnExactLeastAvoiding.j0 k y0 y1 y2 y3 y4 y5 y6 y7 y8) (laws_FnExactLeastAvoiding.j0 (k + 1) y0 y1 y2 y3 y4 y5 y6 y7 y8)) ∧ (∀ y0 y1 y2 y3 y4 y5 y6, LeO (laws_FnExactLeastAvoiding.j1 k y0 y1 y2 y3 y4 y5 y6) (laws_FnExactLeastAvoiding.j1 (k + 1) y0 y1 y2 y3 y4 y5 y6)) ∧ (∀ y0 y1 y2, LeO (laws_FnExactLeastAvoiding.j2 k y0 y1 y2) (laws_FnExactLeastAvoiding.j2 (k + 1) y0 y1 y2))
 | 0 => ⟨fun _ _ _ _ _ _ _ _ _ r h => by simp [laws_FnExactLeastAvoiding.j0] at h, fun _ _ _ _ _ _ _ r h => by simp [laws_FnExactLeastAvoiding.j1] at h, fun _ _ _ r h => by simp [laws_FnExactLeastAvoiding.j2] at h⟩
 | k + 1 => by
  obtain ⟨ih0, ih1, ih2⟩ := laws_FnExactLeastAvoiding.mono_l k
  refine ⟨?_, ?_, ?_⟩
  ·intro y0 y1 y2 y3 y4 y5 y6 y7 y8
   unfold laws_FnExactLeastAvoiding.j0
   repeat' first
   | (with_reducible exact ih0 _ _ _ _ _ _ _ _ _)
   | (with_reducible exact ih1 _ _ _ _ _ _ _)
   | (with_reducible exact ih2 _ _ _)
   | (with_reducible exact impl_LeastAvoiding.mono _ _ _ _)
   | (with_reducible exact laws_eqIntS.mono _ _ _)
   | (with_reducible exact laws_heldIntS.mono _ _ _)
   | (with_reducible exact laws_markIntS.mono _ _ _)
   | (with_reducible exact laws_toIntS.mono _ _)
   | (with_reducible exact spec_LeastAvoiding.mono _ _ _ _)
   | (with_reducible exact LeO.refl _)
   | (with_reducible exact LeO.none _)
   | (with_reducible refine LeO.ite ?_ ?_)
   | (with_reducible refine LeO.bind ?_ (fun _ => ?_))
   | exact ih0 _ _ _ _ _ _ _ _ _
   | exact ih1 _ _ _ _ _ _ _
   | exact ih2 _ _ _
   | exact impl_LeastAvoiding.mono _ _ _ _
   | exact laws_eqIntS.mono _ _ _
   | exact laws_heldIntS.mono _ _ _
   | exact laws_markIntS.mono _ _ _
   | exact laws_toIntS.mono _ _
   | exact spec_LeastAvoiding.mono _ _ _ _
   | exact LeO.none _
   | refine LeO.ite ?_ ?_
   | refine LeO.bind ?_ (fun _ => ?_)
  ·intro y0 y1 y2 y3 y4 y5 y6
   unfold laws_FnExactLeastAvoiding.j1
   repeat' first
   | (with_reducible exact ih0 _ _ _ _ _ _ _ _ _)
   | (with_reducible exact ih1 _ _ _ _ _ _ _)
   | (with_reducible exact ih2 _ _ _)
   | (with_reducible exact impl_LeastAvoiding.mono _ _ _ _)
   | (with_reducible exact laws_eqIntS.mono _ _ _)
   | (with_reducible exact laws_heldIntS.mono _ _ _)
   | (with_reducible exact laws_markIntS.mono _ _ _)
   | (with_reducible exact laws_toIntS.mono _ _)
   | (with_reducible exact spec_LeastAvoiding.mono _ _ _ _)
   | (with_reducible exact LeO.refl _)
   | (with_reducible exact LeO.none _)
   | (with_reducible refine LeO.ite ?_ ?_)
   | (with_reducible refine LeO.bind ?_ (fun _ => ?_))
   | exact ih0 _ _ _ _ _ _ _ _ _
   | exact ih1 _ _ _ _ _ _ _
   | exact ih2 _ _ _
   | exact impl_LeastAvoiding.mono _ _ _ _
   | exact laws_eqIntS.mono _ _ _
   | exact laws_heldIntS.mono _ _ _
   | exact laws_markIntS.mono _ _ _
   | exact laws_toIntS.mono _ _
   | exact spec_LeastAvoiding.mono _ _ _ _
   | exact LeO.none _
   | refine LeO.ite ?_ ?_
   | refine LeO.bind ?_ (fun _ => ?_)
  ·intro y0 y1 y2
   unfold laws_FnExactLeastAvoiding.j2
   repeat' first
   | (with_reducible exact ih0 _ _ _ _ _ _ _ _ _)
   | (with_reducible exact ih1 _ _ _ _ _ _ _)
   | (with_reducible exact ih2 _ _ _)
   | (with_reducible exact impl_LeastAvoiding.mono _ _ _ _)
   | (with_reducible exact laws_eqIntS.mono _ _ _)
   | (with_reducible exact laws_heldIntS.mono _ _ _)
   | (with_reducible exact laws_markIntS.mono _ _ _)
   | (with_reducible exact laws_toIntS.mono _ _)
   | (with_reducible exact spec_LeastAvoiding.mono _ _ _ _)
   | (with_reducible exact LeO.refl _)
   | (with_reducible exact LeO.none _)
   | (with_reducible refine LeO.ite ?_ ?_)
   | (with_reducible refine LeO.bind ?_ (fun _ => ?_))
   | exact ih0 _ _ _ _ _ _ _ _ _
   | exact ih1 _ _ _ _ _ _ _
   | exact ih2 _ _ _
   | exact impl_LeastAvoiding.mono _ _ _ _
   | exact laws_eqIntS.mono _ _ _
   | exact laws_heldIntS.mono _ _ _
   | exact laws_markIntS.mono _ _ _
   | exact laws_toIntS.mono _ _
   | exact spec_LeastAvoiding.mono _ _ _ _
   | exact LeO.none _
   | refine LeO.ite ?_ ?_
   | refine LeO.bind ?_ (fun _ => ?_)
theorem laws_FnExactLeastAvoiding.mono : ∀ a0 a1 a2 k, LeO (laws_FnExactLeastAvoiding.f k a0 a1 a2) (laws_FnExactLeastAvoiding.f (k + 1) a0 a1 a2) := by
 intro a0 a1 a2 k
 obtain ⟨ih0, ih1, ih2⟩ := laws_FnExactLeastAvoiding.mono_l k
 unfold laws_FnExactLeastAvoiding.f
 repeat' first
   | (with_reducible exact ih0 _ _ _ _ _ _ _ _ _)
   | (with_reducible exact ih1 _ _ _ _ _ _ _)
   | (with_reducible exact ih2 _ _ _)
   | (with_reducible exact impl_LeastAvoiding.mono _ _ _ _)
   | (with_reducible exact laws_eqIntS.mono _ _ _)
   | (with_reducible exact laws_heldIntS.mono _ _ _)
   | (with_reducible exact laws_markIntS.mono _ _ _)
   | (with_reducible exact laws_toIntS.mono _ _)
   | (with_reducible exact spec_LeastAvoiding.mono _ _ _ _)
   | (with_reducible exact LeO.refl _)
   | (with_reducible exact LeO.none _)
   | (with_reducible refine LeO.ite ?_ ?_)
   | (with_reducible refine LeO.bind ?_ (fun _ => ?_))
   | exact ih0 _ _ _ _ _ _ _ _ _
   | exact ih1 _ _ _ _ _ _ _
   | exact ih2 _ _ _
   | exact impl_LeastAvoiding.mono _ _ _ _
   | exact laws_eqIntS.mono _ _ _
   | exact laws_heldIntS.mono _ _ _
   | exact laws_markIntS.mono _ _ _
   | exact laws_toIntS.mono _ _
   | exact spec_LeastAvoiding.mono _ _ _ _
   | exact LeO.none _
   | refine LeO.ite ?_ ?_
   | refine LeO.bind ?_ (fun _ => ?_)
set_option maxHeartbeats 8000000 in
set_option maxRecDepth 100000 in
theorem laws_FnExactLeastAvoiding.calls (k : Nat) (a0 : Int) (A1 : Option Addr) (c1 : Nat) (l1 : List Int) (a2 : Int) (r : Bool) (w : World) (hr1 : Kd.C (Kd.int .i64) w A1 l1.length l1) (hc1 : l1.length ≤ c1) (h : laws_FnExactLeastAvoiding.f k a0 l1 a2 = some r) :
  Calls Try.prog 10 #[.int .i64 a0, .slice A1 l1.length c1, .int .i64 a2] w fun e w' => e = .returned (.bool r) ∧ Below w.heap.size w w' := by
 have HR1 := Aside0.mk hr1
 have HC1 := Aside0.mk hc1
 clear hr1 hc1
 have HB := Aside0.mk (Below.refl w.heap.size w)
 have H : (if (l1.length : Int) > 1048576 then (some true) else ((laws_toIntS.f k l1).bind fun t1172 => ((spec_LeastAvoiding.f k a0 t1172 a2).bind fun bt1175 => ((laws_toIntS.f k l1).bind fun t1179 => ((impl_LeastAvoiding.f k a0 t1179 a2).bind fun bt1182 => ((laws_eqIntS.f k bt1182.1 bt1175.1).bind fun t1186 => (if t1186 = true then (laws_FnExactLeastAvoiding.j0 k a0 l1 a2 bt1175.1 bt1175.2 t1179 bt1182.1 bt1182.2 (bt1182.2 != bt1175.2)) else (laws_FnExactLeastAvoiding.j0 k a0 l1 a2 bt1175.1 bt1175.2 t1179 bt1182.1 bt1182.2 true)))))))) = some r := h
 clear h
 by_cases c4 : (l1.length : Int) > 1048576
 ·rw [if_pos c4] at H
  have c4b0 : decide (1048576 < (l1.length : Int)) = true := decide_eq_true c4
  have c4b1 : decide (1048576 < l1.length) = true := decide_eq_true (by omega)
  clear c4
  obtain rfl := Option.some.inj H
  go_enter Try.func10, Try.ntmps10
  go_wp2
  go_ret
  exact ⟨by first | rfl | (simp [errW_none, errW_some] <;> rfl) | (simp [*, errW_none, errW_some] <;> rfl), by repeat (first | (with_reducible first | exact HB.out | apply below_alloc | apply pw_below_drewN | apply below_drew1) | exact HB.out)⟩
 ·rw [if_neg c4] at H
  have c4b0 : decide (1048576 < (l1.length : Int)) = false := decide_eq_false c4
  have c4b1 : decide (1048576 < l1.length) = false := decide_eq_false (by omega)
  clear c4
  replace H := Option.bind_eq_some_iff.mp H
  obtain ⟨t1172, A50, H⟩ := H
  replace H : ((spec_LeastAvoiding.f k a0 t1172 a2).bind fun bt1175 => ((laws_toIntS.f k l1).bind fun t1179 => ((impl_LeastAvoiding.f k a0 t1179 a2).bind fun bt1182 => ((laws_eqIntS.f k bt1182.1 bt1175.1).bind fun t1186 => (if t1186 = true then (laws_FnExactLeastAvoiding.j0 k a0 l1 a2 bt1175.1 bt1175.2 t1179 bt1182.1 bt1182.2 (bt1182.2 != bt1175.2)) else (laws_FnExactLeastAvoiding.j0 k a0 l1 a2 bt1175.1 bt1175.2 t1179 bt1182.1 bt1182.2 true)))))) = some r := H
  have A5 := Aside0.mk A50
  clear A50
  replace H := Option.bind_eq_some_iff.mp H
  obtain ⟨⟨t1175, t1176⟩, A60, H⟩ := H
  replace H : ((laws_toIntS.f k l1).bind fun t1179 => ((impl_LeastAvoiding.f k a0 t1179 a2).bind fun bt1182 => ((laws_eqIntS.f k bt1182.1 t1175).bind fun t1186 => (if t1186 = true then (laws_FnExactLeastAvoiding.j0 k a0 l1 a2 t1175 t1176 t1179 bt1182.1 bt1182.2 (bt1182.2 != t1176)) else (laws_FnExactLeastAvoiding.j0 k a0 l1 a2 t1175 t1176 t1179 bt1182.1 bt1182.2 true))))) = some r := H
  have A6 := Aside0.mk A60
  clear A60
  replace H := Option.bind_eq_some_iff.mp H
  obtain ⟨t1179, A70, H⟩ := H
  replace H : ((impl_LeastAvoiding.f k a0 t1179 a2).bind fun bt1182 => ((laws_eqIntS.f k bt1182.1 t1175).bind fun t1186 => (if t1186 = true then (laws_FnExactLeastAvoiding.j0 k a0 l1 a2 t1175 t1176 t1179 bt1182.1 bt1182.2 (bt1182.2 != t1176)) else (laws_FnExactLeastAvoiding.j0 k a0 l1 a2 t1175 t1176 t1179 bt1182.1 bt1182.2 true)))) = some r := H
  have A7 := Aside0.mk A70
  clear A70
  replace H := Option.bind_eq_some_iff.mp H
  obtain ⟨⟨t1182, t1183⟩, A80, H⟩ := H
  replace H : ((laws_eqIntS.f k t1182 t1175).bind fun t1186 => (if t1186 = true then (laws_FnExactLeastAvoiding.j0 k a0 l1 a2 t1175 t1176 t1179 t1182 t1183 (t1183 != t1176)) else (laws_FnExactLeastAvoiding.j0 k a0 l1 a2 t1175 t1176 t1179 t1182 t1183 true))) = some r := H
  have A8 := Aside0.mk A80
  clear A80
  have HC9 := Aside0.mk H
  clear H
  go_enter Try.func10, Try.ntmps10
  go_upto_region 6 with (first | ((with_reducible refine gate_callee (f := 44) rfl ?_); refine goesL_ (some 23) rfl rfl Try.func44 (by kernel_rfl) rfl #[.slice A1 l1.length c1] rfl (by (try simp only [List.map_toArray, List.map_cons, List.map_nil]); first | done | rfl | (simp only [List.length_drop, List.length_take]; rfl)) ?_; (with_reducible refine (laws_toIntS.calls k _ _ l1 t1172 _ ?side1 ?side2 A5.out).mono ?_); (case side1 => repeat (first | exact HR1.out | (with_reducible refine Kd.C_alloc ?_ _) | (with_reducible refine Kd.C_drewN ?_ _) | (with_reducible refine Kd.C_drew ?_))); (case side2 => exact HC1.out); rintro e w10 ⟨v1173, rfl, ho0, hb⟩; refine ⟨_, rfl, ?_⟩; have n0_ := Aside0.mk (Kd.R_lower ho0 (below_size (by repeat (first | (with_reducible first | exact HB.out | apply below_alloc | apply pw_below_drewN | apply below_drew1) | exact HB.out)))); have n1_ := Aside0.mk (below_step (by repeat (first | (with_reducible first | exact HB.out | apply below_alloc | apply pw_below_drewN | apply below_drew1) | exact HB.out)) hb); clear HB; have HO1174 := n0_; have HB := n1_; clear n0_ n1_; (try clear hb); (try clear hb2); (try clear hk); (try clear hi); (try clear ho0); obtain ⟨Ao11, co11, eo11⟩ := Kd.R_slice HO1174.out; subst eo11) | ((with_reducible refine gate_callee (f := 52) rfl ?_); refine goesL_ (some 25) rfl rfl Try.func52 (by kernel_rfl) rfl #[.int .i64 a0, .slice Ao11 t1172.length co11, .int .i64 a2] rfl (by (try simp only [List.map_toArray, List.map_cons, List.map_nil]); first | done | rfl | (simp only [List.length_drop, List.length_take]; rfl)) ?_; (with_reducible refine (spec_LeastAvoiding.calls k a0 _ _ t1172 a2 t1175 t1176 _ ?side1 ?side2 A6.out).mono ?_); (case side1 => repeat (first | exact (Kd.R_reads' HO1174.out).2.2 | (with_reducible refine Kd.C_alloc ?_ _) | (with_reducible refine Kd.C_drewN ?_ _) | (with_reducible refine Kd.C_drew ?_))); (case side2 => exact (Kd.R_reads' HO1174.out).2.1); rintro e w12 ⟨v1177, rfl, ho0, hb⟩; refine ⟨_, rfl, ?_⟩; have n0_ := Aside0.mk (Kd.R_elder' (by (with_reducible repeat (first | apply Kd.R_alloc | apply Kd.R_drewN | apply Kd.R_drew)); exact HO1174.out) (Kd.R_base ho0) hb); have n1_ := Aside0.mk (Kd.R_lower (Kd.R_new' ho0 (Kd.R_lt (by (with_reducible repeat (first | apply Kd.R_alloc | apply Kd.R_drewN | apply Kd.R_drew)); exact HO1174.out))) (below_size (by repeat (first | (with_reducible first | exact HB.out | apply below_alloc | apply pw_below_drewN | apply below_drew1) | exact HB.out)))); have n2_ := Aside0.mk (below_step (by repeat (first | (with_reducible first | exact HB.out | apply below_alloc | apply pw_below_drewN | apply below_drew1) | exact HB.out)) hb); clear HO1174; clear HB; have HO1174 := n0_; have HO1178 := n1_; have HB := n2_; clear n0_ n1_ n2_; (try clear hb); (try clear hb2); (try clear hk); (try clear hi); (try clear ho0)) | ((with_reducible refine gate_callee (f := 44) rfl ?_); refine goesL_ (some 29) rfl rfl Try.func44 (by kernel_rfl) rfl #[.slice A1 l1.length c1] rfl (by (try simp only [List.map_toArray, List.map_cons, List.map_nil]); first | done | rfl | (simp only [List.length_drop, List.length_take]; rfl)) ?_; (with_reducible refine (laws_toIntS.calls k _ _ l1 t1179 _ ?side1 ?side2 A7.out).mono ?_); (case side1 => repeat (first | exact (Kd.C_below HR1.out HB.out) | (with_reducible refine Kd.C_alloc ?_ _) | (with_reducible refine Kd.C_drewN ?_ _) | (with_reducible refine Kd.C_drew ?_))); (case side2 => exact HC1.out); rintro e w13 ⟨v1180, rfl, ho0, hb⟩; refine ⟨_, rfl, ?_⟩; have n0_ := Aside0.mk (Kd.R_elder' (by (with_reducible repeat (first | apply Kd.R_alloc | apply Kd.R_drewN | apply Kd.R_drew)); exact HO1174.out) (Kd.R_base ho0) hb); have n1_ := Aside0.mk (Kd.R_elder' (by (with_reducible repeat (first | apply Kd.R_alloc | apply Kd.R_drewN | apply Kd.R_drew)); exact HO1178.out) (Kd.R_base ho0) hb); have n2_ := Aside0.mk (Kd.R_lower (Kd.R_new' (Kd.R_new' ho0 (Kd.R_lt (by (with_reducible repeat (first | apply Kd.R_alloc | apply Kd.R_drewN | apply Kd.R_drew)); exact HO1174.out))) (Kd.R_lt (by (with_reducible repeat (first | apply Kd.R_alloc | apply Kd.R_drewN | apply Kd.R_drew)); exact HO1178.out))) (below_size (by repeat (first | (with_reducible first | exact HB.out | apply below_alloc | apply pw_below_drewN | apply below_drew1) | exact HB.out)))); have n3_ := Aside0.mk (below_step (by repeat (first | (with_reducible first | exact HB.out | apply below_alloc | apply pw_below_drewN | apply below_drew1) | exact HB.out)) hb); clear HO1174; clear HO1178; clear HB; have HO1174 := n0_; have HO1178 := n1_; have HO1181 := n2_; have HB := n3_; clear n0_ n1_ n2_ n3_; (try clear hb); (try clear hb2); (try clear hk); (try clear hi); (try clear ho0); obtain ⟨Ao14, co14, eo14⟩ := Kd.R_slice HO1181.out; subst eo14) | ((with_reducible refine gate_callee (f := 53) rfl ?_); refine goesL_ (some 34) rfl rfl Try.func53 (by kernel_rfl) rfl #[.int .i64 a0, .slice Ao14 t1179.length co14, .int .i64 a2] rfl (by (try simp only [List.map_toArray, List.map_cons, List.map_nil]); first | done | rfl | (simp only [List.length_drop, List.length_take]; rfl)) ?_; (with_reducible refine (impl_LeastAvoiding.calls k a0 _ _ t1179 a2 t1182 t1183 _ ?side1 ?side2 A8.out).mono ?_); (case side1 => repeat (first | exact (Kd.R_reads' HO1181.out).2.2 | (with_reducible refine Kd.C_alloc ?_ _) | (with_reducible refine Kd.C_drewN ?_ _) | (with_reducible refine Kd.C_drew ?_))); (case side2 => exact (Kd.R_reads' HO1181.out).2.1); rintro e w15 ⟨v1184, rfl, ho0, hb⟩; refine ⟨_, rfl, ?_⟩; have n0_ := Aside0.mk (Kd.R_elder' (by (with_reducible repeat (first | apply Kd.R_alloc | apply Kd.R_drewN | apply Kd.R_drew)); exact HO1174.out) (Kd.R_base ho0) hb); have n1_ := Aside0.mk (Kd.R_elder' (by (with_reducible repeat (first | apply Kd.R_alloc | apply Kd.R_drewN | apply Kd.R_drew)); exact HO1178.out) (Kd.R_base ho0) hb); have n2_ := Aside0.mk (Kd.R_elder' (by (with_reducible repeat (first | apply Kd.R_alloc | apply Kd.R_drewN | apply Kd.R_drew)); exact HO1181.out) (Kd.R_base ho0) hb); have n3_ := Aside0.mk (Kd.R_lower (Kd.R_new' (Kd.R_new' (Kd.R_new' ho0 (Kd.R_lt (by (with_reducible repeat (first | apply Kd.R_alloc | apply Kd.R_drewN | apply Kd.R_drew)); exact HO1174.out))) (Kd.R_lt (by (with_reducible repeat (first | apply Kd.R_alloc | apply Kd.R_drewN | apply Kd.R_drew)); exact HO1178.out))) (Kd.R_lt (by (with_reducible repeat (first | apply Kd.R_alloc | apply Kd.R_drewN | apply Kd.R_drew)); exact HO1181.out))) (below_size (by repeat (first | (with_reducible first | exact HB.out | apply below_alloc | apply pw_below_drewN | apply below_drew1) | exact HB.out)))); have n4_ := Aside0.mk (below_step (by repeat (first | (with_reducible first | exact HB.out | apply below_alloc | apply pw_below_drewN | apply below_drew1) | exact HB.out)) hb); clear HO1174; clear HO1178; clear HO1181; clear HB; have HO1174 := n0_; have HO1178 := n1_; have HO1181 := n2_; have HO1185 := n3_; have HB := n4_; clear n0_ n1_ n2_ n3_ n4_; (try clear hb); (try clear hb2); (try clear hk); (try clear hi); (try clear ho0)))
  (try simp only [Act.put, List.setIfInBounds_toArray, List.set_cons_zero, List.set_cons_succ])
  go_cut [45] (fun v45 wc => ∃ (kq : Nat) (x45_8 : Bool), v45 = .bool x45_8 ∧ Aside0 (laws_FnExactLeastAvoiding.j0 kq a0 l1 a2 t1175 t1176 t1179 t1182 t1183 x45_8 = some r) ∧ Aside0 (kq ≤ k) ∧ Aside0 (Kd.R (Kd.int .i64) 3 wc w.heap.size (fun k_ => some k_ ≠ ((.slice Ao14 t1179.length co14) : Value).ownBlock ∧ some k_ ≠ (v1184 : Value).ownBlock) v1177 t1175) ∧ Aside0 (Kd.R (Kd.int .i64) 3 wc w.heap.size (fun k_ => some k_ ≠ (v1177 : Value).ownBlock ∧ some k_ ≠ (v1184 : Value).ownBlock) (.slice Ao14 t1179.length co14) t1179) ∧ Aside0 (Kd.R (Kd.int .i64) 3 wc w.heap.size (fun k_ => some k_ ≠ (v1177 : Value).ownBlock ∧ some k_ ≠ ((.slice Ao14 t1179.length co14) : Value).ownBlock) v1184 t1182) ∧ Aside0 (Below w.heap.size w wc))
  case first =>
   have H := HC9.out
   clear HC9
   replace H := Option.bind_eq_some_iff.mp H
   obtain ⟨t1186, A160, H⟩ := H
   replace H : (if t1186 = true then (laws_FnExactLeastAvoiding.j0 k a0 l1 a2 t1175 t1176 t1179 t1182 t1183 (t1183 != t1176)) else (laws_FnExactLeastAvoiding.j0 k a0 l1 a2 t1175 t1176 t1179 t1182 t1183 true)) = some r := H
   have A16 := Aside0.mk A160
   clear A160
   by_cases c17 : t1186 = true
   ·subst c17
    have H1 : (laws_FnExactLeastAvoiding.j0 k a0 l1 a2 t1175 t1176 t1179 t1182 t1183 (t1183 != t1176)) = some r := by rw [if_pos rfl] at H; exact H
    clear H
    have H := H1
    clear H1
    have H' := Aside0.mk H
    clear H
    obtain ⟨Ao18, co18, eo18⟩ := Kd.R_slice HO1185.out
    subst eo18
    obtain ⟨Ao19, co19, eo19⟩ := Kd.R_slice HO1178.out
    subst eo19
    go_wp2_with (first | ((with_reducible refine gate_callee (f := 16) rfl ?_); refine goesL_ (some 39) rfl rfl Try.func16 (by kernel_rfl) rfl #[.slice Ao18 t1182.length co18, .slice Ao19 t1175.length co19] rfl (by (try simp only [List.map_toArray, List.map_cons, List.map_nil]); first | done | rfl | (simp only [List.length_drop, List.length_take]; rfl)) ?_; (with_reducible refine (laws_eqIntS.calls k _ _ t1182 _ _ t1175 true _ ?side1 ?side2 ?side3 ?side4 A16.out).mono ?_); (case side1 => repeat (first | exact (Kd.R_reads' HO1185.out).2.2 | (with_reducible refine Kd.C_alloc ?_ _) | (with_reducible refine Kd.C_drewN ?_ _) | (with_reducible refine Kd.C_drew ?_))); (case side2 => exact (Kd.R_reads' HO1185.out).2.1); (case side3 => repeat (first | exact (Kd.R_reads' HO1178.out).2.2 | (with_reducible refine Kd.C_alloc ?_ _) | (with_reducible refine Kd.C_drewN ?_ _) | (with_reducible refine Kd.C_drew ?_))); (case side4 => exact (Kd.R_reads' HO1178.out).2.1); rintro e w' ⟨rfl, ⟨nd, rfl⟩⟩; refine ⟨_, rfl, ?_⟩))
    go_meet
    case rel => exact ⟨_, ((t1183 != t1176)), (by first | rfl | (simp; done) | (simp [*]; done)), H', ⟨by first | omega | exact Nat.le_refl _⟩, ⟨by (with_reducible repeat (first | apply Kd.R_alloc | apply Kd.R_drewN | apply Kd.R_drew)); exact Kd.R_mono HO1178.out (fun _ hk => ⟨hk.1.2, hk.2⟩)⟩, ⟨by (with_reducible repeat (first | apply Kd.R_alloc | apply Kd.R_drewN | apply Kd.R_drew)); exact Kd.R_mono HO1181.out (fun _ hk => ⟨hk.1.2, hk.2⟩)⟩, ⟨by (with_reducible repeat (first | apply Kd.R_alloc | apply Kd.R_drewN | apply Kd.R_drew)); exact Kd.R_mono HO1185.out (fun _ hk => ⟨hk.1.2, hk.2⟩)⟩, ⟨by repeat (first | (with_reducible first | exact HB.out | apply below_alloc | apply pw_below_drewN | apply below_drew1) | exact HB.out)⟩⟩
   ·replace c17 := Bool.eq_false_iff.mpr c17
    subst c17
    have H1 : (laws_FnExactLeastAvoiding.j0 k a0 l1 a2 t1175 t1176 t1179 t1182 t1183 true) = some r := by rw [if_neg (show ¬ (false = true) by decide)] at H; exact H
    clear H
    have H := H1
    clear H1
    have H' := Aside0.mk H
    clear H
    obtain ⟨Ao20, co20, eo20⟩ := Kd.R_slice HO1185.out
    subst eo20
    obtain ⟨Ao21, co21, eo21⟩ := Kd.R_slice HO1178.out
    subst eo21
    go_wp2_with (first | ((with_reducible refine gate_callee (f := 16) rfl ?_); refine goesL_ (some 39) rfl rfl Try.func16 (by kernel_rfl) rfl #[.slice Ao20 t1182.length co20, .slice Ao21 t1175.length co21] rfl (by (try simp only [List.map_toArray, List.map_cons, List.map_nil]); first | done | rfl | (simp only [List.length_drop, List.length_take]; rfl)) ?_; (with_reducible refine (laws_eqIntS.calls k _ _ t1182 _ _ t1175 false _ ?side1 ?side2 ?side3 ?side4 A16.out).mono ?_); (case side1 => repeat (first | exact (Kd.R_reads' HO1185.out).2.2 | (with_reducible refine Kd.C_alloc ?_ _) | (with_reducible refine Kd.C_drewN ?_ _) | (with_reducible refine Kd.C_drew ?_))); (case side2 => exact (Kd.R_reads' HO1185.out).2.1); (case side3 => repeat (first | exact (Kd.R_reads' HO1178.out).2.2 | (with_reducible refine Kd.C_alloc ?_ _) | (with_reducible refine Kd.C_drewN ?_ _) | (with_reducible refine Kd.C_drew ?_))); (case side4 => exact (Kd.R_reads' HO1178.out).2.1); rintro e w' ⟨rfl, ⟨nd, rfl⟩⟩; refine ⟨_, rfl, ?_⟩))
    go_meet
    case rel => exact ⟨_, (true), (by first | rfl | (simp; done) | (simp [*]; done)), H', ⟨by first | omega | exact Nat.le_refl _⟩, ⟨by (with_reducible repeat (first | apply Kd.R_alloc | apply Kd.R_drewN | apply Kd.R_drew)); exact Kd.R_mono HO1178.out (fun _ hk => ⟨hk.1.2, hk.2⟩)⟩, ⟨by (with_reducible repeat (first | apply Kd.R_alloc | apply Kd.R_drewN | apply Kd.R_drew)); exact Kd.R_mono HO1181.out (fun _ hk => ⟨hk.1.2, hk.2⟩)⟩, ⟨by (with_reducible repeat (first | apply Kd.R_alloc | apply Kd.R_drewN | apply Kd.R_drew)); exact Kd.R_mono HO1185.out (fun _ hk => ⟨hk.1.2, hk.2⟩)⟩, ⟨by repeat (first | (with_reducible first | exact HB.out | apply below_alloc | apply pw_below_drewN | apply below_drew1) | exact HB.out)⟩⟩
  case rest =>
   clear HC9
   try clear c1
   try clear p2
   try clear c4
   try clear c4b0
   try clear c4b1
   try clear c5
   try clear c10
   try clear c16
   try clear c17
   obtain ⟨kq, x45_8, rfl, HA, HJ8, HO_7, HO_9, HO_10, HB⟩ := hcut
   cases kq with
   | zero => exact absurd HA.out (by simp [laws_FnExactLeastAvoiding.j0])
   | succ kj8 =>
    have H := HA.out
    clear HA
    simp only [laws_FnExactLeastAvoiding.j0] at H
    by_cases c22 : x45_8 = true
    ·subst c22
     have H1 : (some false) = some r := by rw [if_pos rfl] at H; exact H
     clear H
     have H := H1
     clear H1
     obtain rfl := Option.some.inj H
     go_wp2
     go_ret
     exact ⟨by first | rfl | (simp [errW_none, errW_some] <;> rfl) | (simp [*, errW_none, errW_some] <;> rfl), by repeat (first | (with_reducible first | exact HB.out | apply below_alloc | apply pw_below_drewN | apply below_drew1) | exact HB.out)⟩
    ·replace c22 := Bool.eq_false_iff.mpr c22
     subst c22
     have H1 : ((laws_toIntS.f kj8 l1).bind fun t1187 => ((laws_eqIntS.f kj8 t1179 t1187).bind fun t1190 => (if t1190 = true then ((laws_markIntS.f kj8 t1179 1).bind fun bt1191 => (if bt1191.1 < 0 then (laws_FnExactLeastAvoiding.j1 kj8 a0 l1 a2 t1175 t1176 t1182 true) else ((laws_eqIntS.f kj8 t1182 t1175).bind fun t1193 => (if t1193 = true then (laws_FnExactLeastAvoiding.j1 kj8 a0 l1 a2 t1175 t1176 t1182 (t1183 != t1176)) else (laws_FnExactLeastAvoiding.j1 kj8 a0 l1 a2 t1175 t1176 t1182 true))))) else (some false)))) = some r := by rw [if_neg (show ¬ (false = true) by decide)] at H; exact H
     clear H
     have H := H1
     clear H1
     replace H := Option.bind_eq_some_iff.mp H
     obtain ⟨t1187, A230, H⟩ := H
     replace H : ((laws_eqIntS.f kj8 t1179 t1187).bind fun t1190 => (if t1190 = true then ((laws_markIntS.f kj8 t1179 1).bind fun bt1191 => (if bt1191.1 < 0 then (laws_FnExactLeastAvoiding.j1 kj8 a0 l1 a2 t1175 t1176 t1182 true) else ((laws_eqIntS.f kj8 t1182 t1175).bind fun t1193 => (if t1193 = true then (laws_FnExactLeastAvoiding.j1 kj8 a0 l1 a2 t1175 t1176 t1182 (t1183 != t1176)) else (laws_FnExactLeastAvoiding.j1 kj8 a0 l1 a2 t1175 t1176 t1182 true))))) else (some false))) = some r := H
     have A23 := Aside0.mk A230
     clear A230
     replace H := Option.bind_eq_some_iff.mp H
     obtain ⟨t1190, A240, H⟩ := H
     replace H : (if t1190 = true then ((laws_markIntS.f kj8 t1179 1).bind fun bt1191 => (if bt1191.1 < 0 then (laws_FnExactLeastAvoiding.j1 kj8 a0 l1 a2 t1175 t1176 t1182 true) else ((laws_eqIntS.f kj8 t1182 t1175).bind fun t1193 => (if t1193 = true then (laws_FnExactLeastAvoiding.j1 kj8 a0 l1 a2 t1175 t1176 t1182 (t1183 != t1176)) else (laws_FnExactLeastAvoiding.j1 kj8 a0 l1 a2 t1175 t1176 t1182 true))))) else (some false)) = some r := H
     have A24 := Aside0.mk A240
     clear A240
     by_cases c25 : t1190 = true
     ·subst c25
      have H1 : ((laws_markIntS.f kj8 t1179 1).bind fun bt1191 => (if bt1191.1 < 0 then (laws_FnExactLeastAvoiding.j1 kj8 a0 l1 a2 t1175 t1176 t1182 true) else ((laws_eqIntS.f kj8 t1182 t1175).bind fun t1193 => (if t1193 = true then (laws_FnExactLeastAvoiding.j1 kj8 a0 l1 a2 t1175 t1176 t1182 (t1183 != t1176)) else (laws_FnExactLeastAvoiding.j1 kj8 a0 l1 a2 t1175 t1176 t1182 true))))) = some r := by rw [if_pos rfl] at H; exact H
      clear H
      have H := H1
      clear H1
      replace H := Option.bind_eq_some_iff.mp H
      obtain ⟨⟨t1191, t1192⟩, A260, H⟩ := H
      replace H : (if t1191 < 0 then (laws_FnExactLeastAvoiding.j1 kj8 a0 l1 a2 t1175 t1176 t1182 true) else ((laws_eqIntS.f kj8 t1182 t1175).bind fun t1193 => (if t1193 = true then (laws_FnExactLeastAvoiding.j1 kj8 a0 l1 a2 t1175 t1176 t1182 (t1183 != t1176)) else (laws_FnExactLeastAvoiding.j1 kj8 a0 l1 a2 t1175 t1176 t1182 true)))) = some r := H
      have A26 := Aside0.mk A260
      clear A260
      have HC27 := Aside0.mk H
      clear H
      go_upto_region 12 with (first | ((with_reducible refine gate_callee (f := 44) rfl ?_); refine goesL_ (some 48) rfl rfl Try.func44 (by kernel_rfl) rfl #[.slice A1 l1.length c1] rfl (by (try simp only [List.map_toArray, List.map_cons, List.map_nil]); first | done | rfl | (simp only [List.length_drop, List.length_take]; rfl)) ?_; (with_reducible refine (laws_toIntS.calls kj8 _ _ l1 t1187 _ ?side1 ?side2 A23.out).mono ?_); (case side1 => repeat (first | exact (Kd.C_below HR1.out HB.out) | (with_reducible refine Kd.C_alloc ?_ _) | (with_reducible refine Kd.C_drewN ?_ _) | (with_reducible refine Kd.C_drew ?_))); (case side2 => exact HC1.out); rintro e w28 ⟨v1188, rfl, ho0, hb⟩; refine ⟨_, rfl, ?_⟩; have n0_ := Aside0.mk (Kd.R_elder' (by (with_reducible repeat (first | apply Kd.R_alloc | apply Kd.R_drewN | apply Kd.R_drew)); exact HO_7.out) (Kd.R_base ho0) hb); have n1_ := Aside0.mk (Kd.R_elder' (by (with_reducible repeat (first | apply Kd.R_alloc | apply Kd.R_drewN | apply Kd.R_drew)); exact HO_9.out) (Kd.R_base ho0) hb); have n2_ := Aside0.mk (Kd.R_elder' (by (with_reducible repeat (first | apply Kd.R_alloc | apply Kd.R_drewN | apply Kd.R_drew)); exact HO_10.out) (Kd.R_base ho0) hb); have n3_ := Aside0.mk (Kd.R_lower (Kd.R_new' (Kd.R_new' (Kd.R_new' ho0 (Kd.R_lt (by (with_reducible repeat (first | apply Kd.R_alloc | apply Kd.R_drewN | apply Kd.R_drew)); exact HO_7.out))) (Kd.R_lt (by (with_reducible repeat (first | apply Kd.R_alloc | apply Kd.R_drewN | apply Kd.R_drew)); exact HO_9.out))) (Kd.R_lt (by (with_reducible repeat (first | apply Kd.R_alloc | apply Kd.R_drewN | apply Kd.R_drew)); exact HO_10.out))) (below_size (by repeat (first | (with_reducible first | exact HB.out | apply below_alloc | apply pw_below_drewN | apply below_drew1) | exact HB.out)))); have n4_ := Aside0.mk (below_step (by repeat (first | (with_reducible first | exact HB.out | apply below_alloc | apply pw_below_drewN | apply below_drew1) | exact HB.out)) hb); clear HO_7; clear HO_9; clear HO_10; clear HB; have HO_7 := n0_; have HO_9 := n1_; have HO_10 := n2_; have HO1189 := n3_; have HB := n4_; clear n0_ n1_ n2_ n3_ n4_; (try clear hb); (try clear hb2); (try clear hk); (try clear hi); (try clear ho0); obtain ⟨Ao29, co29, eo29⟩ := Kd.R_slice HO1189.out; subst eo29) | ((with_reducible refine gate_callee (f := 16) rfl ?_); refine goesL_ (some 49) rfl rfl Try.func16 (by kernel_rfl) rfl #[.slice Ao14 t1179.length co14, .slice Ao29 t1187.length co29] rfl (by (try simp only [List.map_toArray, List.map_cons, List.map_nil]); first | done | rfl | (simp only [List.length_drop, List.length_take]; rfl)) ?_; (with_reducible refine (laws_eqIntS.calls kj8 _ _ t1179 _ _ t1187 true _ ?side1 ?side2 ?side3 ?side4 A24.out).mono ?_); (case side1 => repeat (first | exact (Kd.R_reads' HO_9.out).2.2 | (with_reducible refine Kd.C_alloc ?_ _) | (with_reducible refine Kd.C_drewN ?_ _) | (with_reducible refine Kd.C_drew ?_))); (case side2 => exact (Kd.R_reads' HO_9.out).2.1); (case side3 => repeat (first | exact (Kd.R_reads' HO1189.out).2.2 | (with_reducible refine Kd.C_alloc ?_ _) | (with_reducible refine Kd.C_drewN ?_ _) | (with_reducible refine Kd.C_drew ?_))); (case side4 => exact (Kd.R_reads' HO1189.out).2.1); rintro e w' ⟨rfl, ⟨nd, rfl⟩⟩; refine ⟨_, rfl, ?_⟩) | ((with_reducible refine gate_callee (f := 17) rfl ?_); refine goesL_ (some 53) rfl rfl Try.func17 (by kernel_rfl) rfl #[.slice Ao14 t1179.length co14, .int .i64 1] rfl (by (try simp only [List.map_toArray, List.map_cons, List.map_nil]); first | done | rfl | (simp only [List.length_drop, List.length_take]; rfl)) ?_; (with_reducible refine (laws_markIntS.calls kj8 (fun k_ => some k_ = (.slice Ao14 t1179.length co14 : Value).ownBlock) (.slice Ao14 t1179.length co14) t1179 1 t1191 t1192 w _ ?side1 ?side2 A26.out).mono ?_); (case side1 => repeat (first | (with_reducible first | exact HB.out | apply below_alloc | apply pw_below_drewN | apply below_drew1) | exact HB.out)); (case side2 => exact Kd.R_tight rfl HO_9.out); rintro e w30 ⟨rfl, hy0, hb, hkp⟩; refine ⟨_, rfl, ?_⟩; have n0_ := Aside0.mk (Kd.R_mono (ok' := fun k_ => some k_ ≠ (.slice Ao14 t1179.length co14 : Value).ownBlock ∧ some k_ ≠ (v1184 : Value).ownBlock ∧ some k_ ≠ (.slice Ao29 t1187.length co29 : Value).ownBlock) (Kd.R_keptB (HO_7.out) hkp (fun k_ hk_ hs_ => (hk_.1.1) hs_)) (fun k_ hk_ => ⟨hk_.1.1.1, hk_.1.1.2, hk_.1.2⟩)); have n1_ := Aside0.mk (Kd.R_reok rfl hy0 (fun k_ e_ => HO_9.out.1 k_ e_)); have n2_ := Aside0.mk (Kd.R_mono (ok' := fun k_ => some k_ ≠ (v1177 : Value).ownBlock ∧ some k_ ≠ (.slice Ao14 t1179.length co14 : Value).ownBlock ∧ some k_ ≠ (.slice Ao29 t1187.length co29 : Value).ownBlock) (Kd.R_keptB (HO_10.out) hkp (fun k_ hk_ hs_ => (hk_.1.2) hs_)) (fun k_ hk_ => ⟨hk_.1.1.1, hk_.1.1.2, hk_.1.2⟩)); have n3_ := Aside0.mk (Kd.R_mono (ok' := fun k_ => some k_ ≠ (v1177 : Value).ownBlock ∧ some k_ ≠ (.slice Ao14 t1179.length co14 : Value).ownBlock ∧ some k_ ≠ (v1184 : Value).ownBlock) (Kd.R_keptB (HO1189.out) hkp (fun k_ hk_ hs_ => (hk_.1.2) hs_)) (fun k_ hk_ => ⟨hk_.1.1.1.2, hk_.1.1.2, hk_.1.2⟩)); have n4_ := Aside0.mk (hb); clear HO_7; clear HO_9; clear HO_10; clear HO1189; clear HB; have HO_7 := n0_; have HO_9 := n1_; have HO_10 := n2_; have HO1189 := n3_; have HB := n4_; clear n0_ n1_ n2_ n3_ n4_; (try clear hb); (try clear hkp); (try clear hy0)))
      (try simp only [Act.put, List.setIfInBounds_toArray, List.set_cons_zero, List.set_cons_succ])
      go_cut [66] (fun v66 wc => ∃ (kq : Nat) (x66_26 : Bool), v66 = .bool x66_26 ∧ Aside0 (laws_FnExactLeastAvoiding.j1 kq a0 l1 a2 t1175 t1176 t1182 x66_26 = some r) ∧ Aside0 (kq ≤ kj8) ∧ Aside0 (Kd.R (Kd.int .i64) 3 wc w.heap.size (fun k_ => some k_ ≠ (v1184 : Value).ownBlock) v1177 t1175) ∧ Aside0 (Kd.R (Kd.int .i64) 3 wc w.heap.size (fun k_ => some k_ ≠ (v1177 : Value).ownBlock) v1184 t1182) ∧ Aside0 (Below w.heap.size w wc))
      case first =>
       have H := HC27.out
       clear HC27
       by_cases c31 : t1191 < 0
       ·rw [if_pos c31] at H
        have c31b0 : decide (t1191 < 0) = true := decide_eq_true c31
        clear c31
        (first | rw [c31b0] | (simp only [i64_w, i32_w]; rw [c31b0]) | skip)
        have H' := Aside0.mk H
        clear H
        go_wp2
        go_meet
        case rel => exact ⟨_, (true), (by first | rfl | (simp; done) | (simp [*]; done)), H', ⟨by have := HJ8.out; first | omega | exact Nat.le_refl _⟩, ⟨by (with_reducible repeat (first | apply Kd.R_alloc | apply Kd.R_drewN | apply Kd.R_drew)); exact Kd.R_mono HO_7.out (fun _ hk => hk.2.1)⟩, ⟨by (with_reducible repeat (first | apply Kd.R_alloc | apply Kd.R_drewN | apply Kd.R_drew)); exact Kd.R_mono HO_10.out (fun _ hk => hk.1)⟩, ⟨by repeat (first | (with_reducible first | exact HB.out | apply below_alloc | apply pw_below_drewN | apply below_drew1) | exact HB.out)⟩⟩
       ·rw [if_neg c31] at H
        have c31b0 : decide (t1191 < 0) = false := decide_eq_false c31
        clear c31
        (first | rw [c31b0] | (simp only [i64_w, i32_w]; rw [c31b0]) | skip)
        replace H := Option.bind_eq_some_iff.mp H
        obtain ⟨t1193, A320, H⟩ := H
        replace H : (if t1193 = true then (laws_FnExactLeastAvoiding.j1 kj8 a0 l1 a2 t1175 t1176 t1182 (t1183 != t1176)) else (laws_FnExactLeastAvoiding.j1 kj8 a0 l1 a2 t1175 t1176 t1182 true)) = some r := H
        have A32 := Aside0.mk A320
        clear A320
        by_cases c33 : t1193 = true
        ·subst c33
         have H1 : (laws_FnExactLeastAvoiding.j1 kj8 a0 l1 a2 t1175 t1176 t1182 (t1183 != t1176)) = some r := by rw [if_pos rfl] at H; exact H
         clear H
         have H := H1
         clear H1
         have H' := Aside0.mk H
         clear H
         obtain ⟨Ao34, co34, eo34⟩ := Kd.R_slice HO_10.out
         subst eo34
         obtain ⟨Ao35, co35, eo35⟩ := Kd.R_slice HO_7.out
         subst eo35
         go_wp2_with (first | (go_at_call 16; (with_reducible refine (laws_eqIntS.calls kj8 _ _ t1182 _ _ t1175 true _ ?side1 ?side2 ?side3 ?side4 A32.out).mono ?_); (case side1 => repeat (first | exact (Kd.R_reads' HO_10.out).2.2 | (with_reducible refine Kd.C_alloc ?_ _) | (with_reducible refine Kd.C_drewN ?_ _) | (with_reducible refine Kd.C_drew ?_))); (case side2 => exact (Kd.R_reads' HO_10.out).2.1); (case side3 => repeat (first | exact (Kd.R_reads' HO_7.out).2.2 | (with_reducible refine Kd.C_alloc ?_ _) | (with_reducible refine Kd.C_drewN ?_ _) | (with_reducible refine Kd.C_drew ?_))); (case side4 => exact (Kd.R_reads' HO_7.out).2.1); rintro e w' ⟨rfl, ⟨nd, rfl⟩⟩))
         go_meet
         case rel => exact ⟨_, ((t1183 != t1176)), (by first | rfl | (simp; done) | (simp [*]; done)), H', ⟨by have := HJ8.out; first | omega | exact Nat.le_refl _⟩, ⟨by (with_reducible repeat (first | apply Kd.R_alloc | apply Kd.R_drewN | apply Kd.R_drew)); exact Kd.R_mono HO_7.out (fun _ hk => hk.2.1)⟩, ⟨by (with_reducible repeat (first | apply Kd.R_alloc | apply Kd.R_drewN | apply Kd.R_drew)); exact Kd.R_mono HO_10.out (fun _ hk => hk.1)⟩, ⟨by repeat (first | (with_reducible first | exact HB.out | apply below_alloc | apply pw_below_drewN | apply below_drew1) | exact HB.out)⟩⟩
        ·replace c33 := Bool.eq_false_iff.mpr c33
         subst c33
         have H1 : (laws_FnExactLeastAvoiding.j1 kj8 a0 l1 a2 t1175 t1176 t1182 true) = some r := by rw [if_neg (show ¬ (false = true) by decide)] at H; exact H
         clear H
         have H := H1
         clear H1
         have H' := Aside0.mk H
         clear H
         obtain ⟨Ao36, co36, eo36⟩ := Kd.R_slice HO_10.out
         subst eo36
         obtain ⟨Ao37, co37, eo37⟩ := Kd.R_slice HO_7.out
         subst eo37
         go_wp2_with (first | (go_at_call 16; (with_reducible refine (laws_eqIntS.calls kj8 _ _ t1182 _ _ t1175 false _ ?side1 ?side2 ?side3 ?side4 A32.out).mono ?_); (case side1 => repeat (first | exact (Kd.R_reads' HO_10.out).2.2 | (with_reducible refine Kd.C_alloc ?_ _) | (with_reducible refine Kd.C_drewN ?_ _) | (with_reducible refine Kd.C_drew ?_))); (case side2 => exact (Kd.R_reads' HO_10.out).2.1); (case side3 => repeat (first | exact (Kd.R_reads' HO_7.out).2.2 | (with_reducible refine Kd.C_alloc ?_ _) | (with_reducible refine Kd.C_drewN ?_ _) | (with_reducible refine Kd.C_drew ?_))); (case side4 => exact (Kd.R_reads' HO_7.out).2.1); rintro e w' ⟨rfl, ⟨nd, rfl⟩⟩))
         go_meet
         case rel => exact ⟨_, (true), (by first | rfl | (simp; done) | (simp [*]; done)), H', ⟨by have := HJ8.out; first | omega | exact Nat.le_refl _⟩, ⟨by (with_reducible repeat (first | apply Kd.R_alloc | apply Kd.R_drewN | apply Kd.R_drew)); exact Kd.R_mono HO_7.out (fun _ hk => hk.2.1)⟩, ⟨by (with_reducible repeat (first | apply Kd.R_alloc | apply Kd.R_drewN | apply Kd.R_drew)); exact Kd.R_mono HO_10.out (fun _ hk => hk.1)⟩, ⟨by repeat (first | (with_reducible first | exact HB.out | apply below_alloc | apply pw_below_drewN | apply below_drew1) | exact HB.out)⟩⟩
      case rest =>
       clear HC27
       try clear c1
       try clear c2
       try clear p2
       try clear c3
       try clear c4
       try clear c4b0
       try clear c4b1
       try clear c5
       try clear c10
       try clear c16
       try clear c17
       try clear c22
       try clear c25
       try clear c31
       try clear c31b0
       try clear c33
       try clear p2
       obtain ⟨kq, x66_26, rfl, HA, HJ26, HO_7, HO_10, HB⟩ := hcut
       cases kq with
       | zero => exact absurd HA.out (by simp [laws_FnExactLeastAvoiding.j1])
       | succ kj26 =>
        have H := HA.out
        clear HA
        simp only [laws_FnExactLeastAvoiding.j1] at H
        by_cases c38 : x66_26 = true
        ·subst c38
         have H1 : (some false) = some r := by rw [if_pos rfl] at H; exact H
         clear H
         have H := H1
         clear H1
         obtain rfl := Option.some.inj H
         go_wp2
         go_ret
         exact ⟨by first | rfl | (simp [errW_none, errW_some] <;> rfl) | (simp [*, errW_none, errW_some] <;> rfl), by repeat (first | (with_reducible first | exact HB.out | apply below_alloc | apply pw_below_drewN | apply below_drew1) | exact HB.out)⟩
        ·replace c38 := Bool.eq_false_iff.mpr c38
         subst c38
         have H1 : ((laws_markIntS.f kj26 t1182 1).bind fun bt1194 => ((laws_heldIntS.f kj26 bt1194.2 1).bind fun t1196 => (if t1196 < 0 then (some false) else (if t1196 = bt1194.1 then ((laws_toIntS.f kj26 l1).bind fun t1197 => ((impl_LeastAvoiding.f kj26 a0 t1197 a2).bind fun bt1200 => ((laws_eqIntS.f kj26 bt1200.1 t1175).bind fun t1204 => (if t1204 = true then (laws_FnExactLeastAvoiding.j2 kj26 bt1194.2 bt1194.1 (bt1200.2 != t1176)) else (laws_FnExactLeastAvoiding.j2 kj26 bt1194.2 bt1194.1 true))))) else (some false))))) = some r := by rw [if_neg (show ¬ (false = true) by decide)] at H; exact H
         clear H
         have H := H1
         clear H1
         replace H := Option.bind_eq_some_iff.mp H
         obtain ⟨⟨t1194, t1195⟩, A390, H⟩ := H
         replace H : ((laws_heldIntS.f kj26 t1195 1).bind fun t1196 => (if t1196 < 0 then (some false) else (if t1196 = t1194 then ((laws_toIntS.f kj26 l1).bind fun t1197 => ((impl_LeastAvoiding.f kj26 a0 t1197 a2).bind fun bt1200 => ((laws_eqIntS.f kj26 bt1200.1 t1175).bind fun t1204 => (if t1204 = true then (laws_FnExactLeastAvoiding.j2 kj26 t1195 t1194 (bt1200.2 != t1176)) else (laws_FnExactLeastAvoiding.j2 kj26 t1195 t1194 true))))) else (some false)))) = some r := H
         have A39 := Aside0.mk A390
         clear A390
         replace H := Option.bind_eq_some_iff.mp H
         obtain ⟨t1196, A400, H⟩ := H
         replace H : (if t1196 < 0 then (some false) else (if t1196 = t1194 then ((laws_toIntS.f kj26 l1).bind fun t1197 => ((impl_LeastAvoiding.f kj26 a0 t1197 a2).bind fun bt1200 => ((laws_eqIntS.f kj26 bt1200.1 t1175).bind fun t1204 => (if t1204 = true then (laws_FnExactLeastAvoiding.j2 kj26 t1195 t1194 (bt1200.2 != t1176)) else (laws_FnExactLeastAvoiding.j2 kj26 t1195 t1194 true))))) else (some false))) = some r := H
         have A40 := Aside0.mk A400
         clear A400
         by_cases c41 : t1196 < 0
         ·rw [if_pos c41] at H
          have c41b0 : decide (t1196 < 0) = true := decide_eq_true c41
          clear c41
          obtain rfl := Option.some.inj H
          obtain ⟨Ao42, co42, eo42⟩ := Kd.R_slice HO_10.out
          subst eo42
          go_wp2_with (first | ((with_reducible refine gate_callee (f := 17) rfl ?_); refine goesL_ (some 69) rfl rfl Try.func17 (by kernel_rfl) rfl #[.slice Ao42 t1182.length co42, .int .i64 1] rfl (by (try simp only [List.map_toArray, List.map_cons, List.map_nil]); first | done | rfl | (simp only [List.length_drop, List.length_take]; rfl)) ?_; (with_reducible refine (laws_markIntS.calls kj26 (fun k_ => some k_ = (.slice Ao42 t1182.length co42 : Value).ownBlock) (.slice Ao42 t1182.length co42) t1182 1 t1194 t1195 w _ ?side1 ?side2 A39.out).mono ?_); (case side1 => repeat (first | (with_reducible first | exact HB.out | apply below_alloc | apply pw_below_drewN | apply below_drew1) | exact HB.out)); (case side2 => exact Kd.R_tight rfl HO_10.out); rintro e w43 ⟨rfl, hy0, hb, hkp⟩; refine ⟨_, rfl, ?_⟩; have n0_ := Aside0.mk (Kd.R_mono (ok' := fun k_ => some k_ ≠ (.slice Ao42 t1182.length co42 : Value).ownBlock) (Kd.R_keptB (HO_7.out) hkp (fun k_ hk_ hs_ => (hk_) hs_)) (fun k_ hk_ => hk_.1)); have n1_ := Aside0.mk (Kd.R_reok rfl hy0 (fun k_ e_ => HO_10.out.1 k_ e_)); have n2_ := Aside0.mk (hb); clear HO_7; clear HO_10; clear HB; have HO_7 := n0_; have HO_10 := n1_; have HB := n2_; clear n0_ n1_ n2_; (try clear hb); (try clear hkp); (try clear hy0)) | ((with_reducible refine gate_callee (f := 18) rfl ?_); refine goesL_ (some 72) rfl rfl Try.func18 (by kernel_rfl) rfl #[.slice Ao42 t1195.length co42, .int .i64 1] rfl (by (try simp only [List.map_toArray, List.map_cons, List.map_nil]); first | done | (rw [show t1195.length = t1182.length from (Kd.R_reads' HO_10.out).1.symm] <;> rfl) | rfl | (simp only [List.length_drop, List.length_take]; rfl)) ?_; (with_reducible refine (laws_heldIntS.calls kj26 _ _ t1195 1 t1196 _ ?side1 ?side2 A40.out).mono ?_); (case side1 => repeat (first | exact (Kd.R_reads' HO_10.out).2.2 | (with_reducible refine Kd.C_alloc ?_ _) | (with_reducible refine Kd.C_drewN ?_ _) | (with_reducible refine Kd.C_drew ?_))); (case side2 => rw [show t1195.length = t1182.length from (Kd.R_reads' HO_10.out).1.symm]; exact (Kd.R_reads' HO_10.out).2.1); rintro e w' ⟨rfl, ⟨nd, rfl⟩⟩; refine ⟨_, rfl, ?_⟩))
          go_ret
          exact ⟨by first | rfl | (simp [errW_none, errW_some] <;> rfl) | (simp [*, errW_none, errW_some] <;> rfl), by repeat (first | (with_reducible first | exact HB.out | apply below_alloc | apply pw_below_drewN | apply below_drew1) | exact HB.out)⟩
         ·rw [if_neg c41] at H
          have c41b0 : decide (t1196 < 0) = false := decide_eq_false c41
          clear c41
          by_cases c44 : t1196 = t1194
          ·rw [if_pos c44] at H
           have c44b0 : (t1196 == t1194) = true := beq_iff_eq.mpr c44
           have c44b1 : (t1196 != t1194) = false := bne_eq_false_iff_eq.mpr c44
           clear c44
           replace H := Option.bind_eq_some_iff.mp H
           obtain ⟨t1197, A450, H⟩ := H
           replace H : ((impl_LeastAvoiding.f kj26 a0 t1197 a2).bind fun bt1200 => ((laws_eqIntS.f kj26 bt1200.1 t1175).bind fun t1204 => (if t1204 = true then (laws_FnExactLeastAvoiding.j2 kj26 t1195 t1194 (bt1200.2 != t1176)) else (laws_FnExactLeastAvoiding.j2 kj26 t1195 t1194 true)))) = some r := H
           have A45 := Aside0.mk A450
           clear A450
           replace H := Option.bind_eq_some_iff.mp H
           obtain ⟨⟨t1200, t1201⟩, A460, H⟩ := H
           replace H : ((laws_eqIntS.f kj26 t1200 t1175).bind fun t1204 => (if t1204 = true then (laws_FnExactLeastAvoiding.j2 kj26 t1195 t1194 (t1201 != t1176)) else (laws_FnExactLeastAvoiding.j2 kj26 t1195 t1194 true))) = some r := H
           have A46 := Aside0.mk A460
           clear A460
           have HC47 := Aside0.mk H
           clear H
           obtain ⟨Ao48, co48, eo48⟩ := Kd.R_slice HO_10.out
           subst eo48
           go_upto_region 23 with (first | ((with_reducible refine gate_callee (f := 17) rfl ?_); refine goesL_ (some 69) rfl rfl Try.func17 (by kernel_rfl) rfl #[.slice Ao48 t1182.length co48, .int .i64 1] rfl (by (try simp only [List.map_toArray, List.map_cons, List.map_nil]); first | done | rfl | (simp only [List.length_drop, List.length_take]; rfl)) ?_; (with_reducible refine (laws_markIntS.calls kj26 (fun k_ => some k_ = (.slice Ao48 t1182.length co48 : Value).ownBlock) (.slice Ao48 t1182.length co48) t1182 1 t1194 t1195 w _ ?side1 ?side2 A39.out).mono ?_); (case side1 => repeat (first | (with_reducible first | exact HB.out | apply below_alloc | apply pw_below_drewN | apply below_drew1) | exact HB.out)); (case side2 => exact Kd.R_tight rfl HO_10.out); rintro e w49 ⟨rfl, hy0, hb, hkp⟩; refine ⟨_, rfl, ?_⟩; have n0_ := Aside0.mk (Kd.R_mono (ok' := fun k_ => some k_ ≠ (.slice Ao48 t1182.length co48 : Value).ownBlock) (Kd.R_keptB (HO_7.out) hkp (fun k_ hk_ hs_ => (hk_) hs_)) (fun k_ hk_ => hk_.1)); have n1_ := Aside0.mk (Kd.R_reok rfl hy0 (fun k_ e_ => HO_10.out.1 k_ e_)); have n2_ := Aside0.mk (hb); clear HO_7; clear HO_10; clear HB; have HO_7 := n0_; have HO_10 := n1_; have HB := n2_; clear n0_ n1_ n2_; (try clear hb); (try clear hkp); (try clear hy0)) | ((with_reducible refine gate_callee (f := 18) rfl ?_); refine goesL_ (some 72) rfl rfl Try.func18 (by kernel_rfl) rfl #[.slice Ao48 t1195.length co48, .int .i64 1] rfl (by (try simp only [List.map_toArray, List.map_cons, List.map_nil]); first | done | (rw [show t1195.length = t1182.length from (Kd.R_reads' HO_10.out).1.symm] <;> rfl) | rfl | (simp only [List.length_drop, List.length_take]; rfl)) ?_; (with_reducible refine (laws_heldIntS.calls kj26 _ _ t1195 1 t1196 _ ?side1 ?side2 A40.out).mono ?_); (case side1 => repeat (first | exact (Kd.R_reads' HO_10.out).2.2 | (with_reducible refine Kd.C_alloc ?_ _) | (with_reducible refine Kd.C_drewN ?_ _) | (with_reducible refine Kd.C_drew ?_))); (case side2 => rw [show t1195.length = t1182.length from (Kd.R_reads' HO_10.out).1.symm]; exact (Kd.R_reads' HO_10.out).2.1); rintro e w' ⟨rfl, ⟨nd, rfl⟩⟩; refine ⟨_, rfl, ?_⟩) | ((with_reducible refine gate_callee (f := 44) rfl ?_); refine goesL_ (some 81) rfl rfl Try.func44 (by kernel_rfl) rfl #[.slice A1 l1.length c1] rfl (by (try simp only [List.map_toArray, List.map_cons, List.map_nil]); first | done | rfl | (simp only [List.length_drop, List.length_take]; rfl)) ?_; (with_reducible refine (laws_toIntS.calls kj26 _ _ l1 t1197 _ ?side1 ?side2 A45.out).mono ?_); (case side1 => repeat (first | exact (Kd.C_below HR1.out (by repeat (first | (with_reducible first | exact HB.out | apply below_alloc | apply pw_below_drewN | apply below_drew1) | exact HB.out))) | (with_reducible refine Kd.C_alloc ?_ _) | (with_reducible refine Kd.C_drewN ?_ _) | (with_reducible refine Kd.C_drew ?_))); (case side2 => exact HC1.out); rintro e w50 ⟨v1198, rfl, ho0, hb⟩; refine ⟨_, rfl, ?_⟩; have n0_ := Aside0.mk (Kd.R_elder' (by (with_reducible repeat (first | apply Kd.R_alloc | apply Kd.R_drewN | apply Kd.R_drew)); exact HO_7.out) (Kd.R_base ho0) hb); have n1_ := Aside0.mk (Kd.R_elder' (by (with_reducible repeat (first | apply Kd.R_alloc | apply Kd.R_drewN | apply Kd.R_drew)); exact HO_10.out) (Kd.R_base ho0) hb); have n2_ := Aside0.mk (Kd.R_lower (Kd.R_new' (Kd.R_new' ho0 (Kd.R_lt (by (with_reducible repeat (first | apply Kd.R_alloc | apply Kd.R_drewN | apply Kd.R_drew)); exact HO_7.out))) (Kd.R_lt (by (with_reducible repeat (first | apply Kd.R_alloc | apply Kd.R_drewN | apply Kd.R_drew)); exact HO_10.out))) (below_size (by repeat (first | (with_reducible first | exact HB.out | apply below_alloc | apply pw_below_drewN | apply below_drew1) | exact HB.out)))); have n3_ := Aside0.mk (below_step (by repeat (first | (with_reducible first | exact HB.out | apply below_alloc | apply pw_below_drewN | apply below_drew1) | exact HB.out)) hb); clear HO_7; clear HO_10; clear HB; have HO_7 := n0_; have HO_10 := n1_; have HO1199 := n2_; have HB := n3_; clear n0_ n1_ n2_ n3_; (try clear hb); (try clear hb2); (try clear hk); (try clear hi); (try clear ho0); obtain ⟨Ao51, co51, eo51⟩ := Kd.R_slice HO1199.out; subst eo51) | ((with_reducible refine gate_callee (f := 53) rfl ?_); refine goesL_ (some 83) rfl rfl Try.func53 (by kernel_rfl) rfl #[.int .i64 a0, .slice Ao51 t1197.length co51, .int .i64 a2] rfl (by (try simp only [List.map_toArray, List.map_cons, List.map_nil]); first | done | rfl | (simp only [List.length_drop, List.length_take]; rfl)) ?_; (with_reducible refine (impl_LeastAvoiding.calls kj26 a0 _ _ t1197 a2 t1200 t1201 _ ?side1 ?side2 A46.out).mono ?_); (case side1 => repeat (first | exact (Kd.R_reads' HO1199.out).2.2 | (with_reducible refine Kd.C_alloc ?_ _) | (with_reducible refine Kd.C_drewN ?_ _) | (with_reducible refine Kd.C_drew ?_))); (case side2 => exact (Kd.R_reads' HO1199.out).2.1); rintro e w52 ⟨v1202, rfl, ho0, hb⟩; refine ⟨_, rfl, ?_⟩; have n0_ := Aside0.mk (Kd.R_elder' (by (with_reducible repeat (first | apply Kd.R_alloc | apply Kd.R_drewN | apply Kd.R_drew)); exact HO_7.out) (Kd.R_base ho0) hb); have n1_ := Aside0.mk (Kd.R_elder' (by (with_reducible repeat (first | apply Kd.R_alloc | apply Kd.R_drewN | apply Kd.R_drew)); exact HO_10.out) (Kd.R_base ho0) hb); have n2_ := Aside0.mk (Kd.R_elder' (by (with_reducible repeat (first | apply Kd.R_alloc | apply Kd.R_drewN | apply Kd.R_drew)); exact HO1199.out) (Kd.R_base ho0) hb); have n3_ := Aside0.mk (Kd.R_lower (Kd.R_new' (Kd.R_new' (Kd.R_new' ho0 (Kd.R_lt (by (with_reducible repeat (first | apply Kd.R_alloc | apply Kd.R_drewN | apply Kd.R_drew)); exact HO_7.out))) (Kd.R_lt (by (with_reducible repeat (first | apply Kd.R_alloc | apply Kd.R_drewN | apply Kd.R_drew)); exact HO_10.out))) (Kd.R_lt (by (with_reducible repeat (first | apply Kd.R_alloc | apply Kd.R_drewN | apply Kd.R_drew)); exact HO1199.out))) (below_size (by repeat (first | (with_reducible first | exact HB.out | apply below_alloc | apply pw_below_drewN | apply below_drew1) | exact HB.out)))); have n4_ := Aside0.mk (below_step (by repeat (first | (with_reducible first | exact HB.out | apply below_alloc | apply pw_below_drewN | apply below_drew1) | exact HB.out)) hb); clear HO_7; clear HO_10; clear HO1199; clear HB; have HO_7 := n0_; have HO_10 := n1_; have HO1199 := n2_; have HO1203 := n3_; have HB := n4_; clear n0_ n1_ n2_ n3_ n4_; (try clear hb); (try clear hb2); (try clear hk); (try clear hi); (try clear ho0)))
           (try simp only [Act.put, List.setIfInBounds_toArray, List.set_cons_zero, List.set_cons_succ])
           go_cut [94] (fun v94 wc => ∃ (kq : Nat) (x94_46 : Bool), v94 = .bool x94_46 ∧ Aside0 (laws_FnExactLeastAvoiding.j2 kq t1195 t1194 x94_46 = some r) ∧ Aside0 (kq ≤ kj26) ∧ Aside0 (Kd.R (Kd.int .i64) 3 wc w.heap.size (fun _ => True) (.slice Ao48 t1182.length co48) t1195) ∧ Aside0 (Below w.heap.size w wc))
           case first =>
            have H := HC47.out
            clear HC47
            replace H := Option.bind_eq_some_iff.mp H
            obtain ⟨t1204, A530, H⟩ := H
            replace H : (if t1204 = true then (laws_FnExactLeastAvoiding.j2 kj26 t1195 t1194 (t1201 != t1176)) else (laws_FnExactLeastAvoiding.j2 kj26 t1195 t1194 true)) = some r := H
            have A53 := Aside0.mk A530
            clear A530
            by_cases c54 : t1204 = true
            ·subst c54
             have H1 : (laws_FnExactLeastAvoiding.j2 kj26 t1195 t1194 (t1201 != t1176)) = some r := by rw [if_pos rfl] at H; exact H
             clear H
             have H := H1
             clear H1
             have H' := Aside0.mk H
             clear H
             obtain ⟨Ao55, co55, eo55⟩ := Kd.R_slice HO1203.out
             subst eo55
             obtain ⟨Ao56, co56, eo56⟩ := Kd.R_slice HO_7.out
             subst eo56
             go_wp2_with (first | ((with_reducible refine gate_callee (f := 16) rfl ?_); refine goesL_ (some 88) rfl rfl Try.func16 (by kernel_rfl) rfl #[.slice Ao55 t1200.length co55, .slice Ao56 t1175.length co56] rfl (by (try simp only [List.map_toArray, List.map_cons, List.map_nil]); first | done | rfl | (simp only [List.length_drop, List.length_take]; rfl)) ?_; (with_reducible refine (laws_eqIntS.calls kj26 _ _ t1200 _ _ t1175 true _ ?side1 ?side2 ?side3 ?side4 A53.out).mono ?_); (case side1 => repeat (first | exact (Kd.R_reads' HO1203.out).2.2 | (with_reducible refine Kd.C_alloc ?_ _) | (with_reducible refine Kd.C_drewN ?_ _) | (with_reducible refine Kd.C_drew ?_))); (case side2 => exact (Kd.R_reads' HO1203.out).2.1); (case side3 => repeat (first | exact (Kd.R_reads' HO_7.out).2.2 | (with_reducible refine Kd.C_alloc ?_ _) | (with_reducible refine Kd.C_drewN ?_ _) | (with_reducible refine Kd.C_drew ?_))); (case side4 => exact (Kd.R_reads' HO_7.out).2.1); rintro e w' ⟨rfl, ⟨nd, rfl⟩⟩; refine ⟨_, rfl, ?_⟩))
             go_meet
             case rel => exact ⟨_, ((t1201 != t1176)), (by first | rfl | (simp; done) | (simp [*]; done)), H', ⟨by have := HJ8.out; have := HJ26.out; first | omega | exact Nat.le_refl _⟩, ⟨by (with_reducible repeat (first | apply Kd.R_alloc | apply Kd.R_drewN | apply Kd.R_drew)); exact Kd.R_mono HO_10.out (fun _ hk => trivial)⟩, ⟨by repeat (first | (with_reducible first | exact HB.out | apply below_alloc | apply pw_below_drewN | apply below_drew1) | exact HB.out)⟩⟩
            ·replace c54 := Bool.eq_false_iff.mpr c54
             subst c54
             have H1 : (laws_FnExactLeastAvoiding.j2 kj26 t1195 t1194 true) = some r := by rw [if_neg (show ¬ (false = true) by decide)] at H; exact H
             clear H
             have H := H1
             clear H1
             have H' := Aside0.mk H
             clear H
             obtain ⟨Ao57, co57, eo57⟩ := Kd.R_slice HO1203.out
             subst eo57
             obtain ⟨Ao58, co58, eo58⟩ := Kd.R_slice HO_7.out
             subst eo58
             go_wp2_with (first | ((with_reducible refine gate_callee (f := 16) rfl ?_); refine goesL_ (some 88) rfl rfl Try.func16 (by kernel_rfl) rfl #[.slice Ao57 t1200.length co57, .slice Ao58 t1175.length co58] rfl (by (try simp only [List.map_toArray, List.map_cons, List.map_nil]); first | done | rfl | (simp only [List.length_drop, List.length_take]; rfl)) ?_; (with_reducible refine (laws_eqIntS.calls kj26 _ _ t1200 _ _ t1175 false _ ?side1 ?side2 ?side3 ?side4 A53.out).mono ?_); (case side1 => repeat (first | exact (Kd.R_reads' HO1203.out).2.2 | (with_reducible refine Kd.C_alloc ?_ _) | (with_reducible refine Kd.C_drewN ?_ _) | (with_reducible refine Kd.C_drew ?_))); (case side2 => exact (Kd.R_reads' HO1203.out).2.1); (case side3 => repeat (first | exact (Kd.R_reads' HO_7.out).2.2 | (with_reducible refine Kd.C_alloc ?_ _) | (with_reducible refine Kd.C_drewN ?_ _) | (with_reducible refine Kd.C_drew ?_))); (case side4 => exact (Kd.R_reads' HO_7.out).2.1); rintro e w' ⟨rfl, ⟨nd, rfl⟩⟩; refine ⟨_, rfl, ?_⟩))
             go_meet
             case rel => exact ⟨_, (true), (by first | rfl | (simp; done) | (simp [*]; done)), H', ⟨by have := HJ8.out; have := HJ26.out; first | omega | exact Nat.le_refl _⟩, ⟨by (with_reducible repeat (first | apply Kd.R_alloc | apply Kd.R_drewN | apply Kd.R_drew)); exact Kd.R_mono HO_10.out (fun _ hk => trivial)⟩, ⟨by repeat (first | (with_reducible first | exact HB.out | apply below_alloc | apply pw_below_drewN | apply below_drew1) | exact HB.out)⟩⟩
           case rest =>
            clear HC47
            try clear c1
            try clear c2
            try clear p2
            try clear c3
            try clear c4
            try clear c4b0
            try clear c4b1
            try clear c5
            try clear c10
            try clear c16
            try clear c17
            try clear c18
            try clear c22
            try clear c25
            try clear c31
            try clear c31b0
            try clear c33
            try clear c38
            try clear c41
            try clear c41b0
            try clear c44
            try clear c44b0
            try clear c44b1
            try clear c52
            try clear c53
            try clear c54
            try clear p2
            obtain ⟨kq, x94_46, rfl, HA, HJ46, HO_10, HB⟩ := hcut
            have hl10_46 := (Kd.R_reads' HO_10.out).1
            rw [hl10_46] at HO_10
            (try simp only [hl10_46])
            cases kq with
            | zero => exact absurd HA.out (by simp [laws_FnExactLeastAvoiding.j2])
            | succ kj46 =>
             have H := HA.out
             clear HA
             simp only [laws_FnExactLeastAvoiding.j2] at H
             by_cases c59 : x94_46 = true
             ·subst c59
              have H1 : (some false) = some r := by rw [if_pos rfl] at H; exact H
              clear H
              have H := H1
              clear H1
              obtain rfl := Option.some.inj H
              go_wp2
              go_ret
              exact ⟨by first | rfl | (simp [errW_none, errW_some] <;> rfl) | (simp [*, errW_none, errW_some] <;> rfl), by repeat (first | (with_reducible first | exact HB.out | apply below_alloc | apply pw_below_drewN | apply below_drew1) | exact HB.out)⟩
             ·replace c59 := Bool.eq_false_iff.mpr c59
              subst c59
              have H1 : ((laws_heldIntS.f kj46 t1195 1).bind fun t1205 => (if t1205 < 0 then (some false) else (if t1205 = t1194 then (some true) else (some false)))) = some r := by rw [if_neg (show ¬ (false = true) by decide)] at H; exact H
              clear H
              have H := H1
              clear H1
              replace H := Option.bind_eq_some_iff.mp H
              obtain ⟨t1205, A600, H⟩ := H
              replace H : (if t1205 < 0 then (some false) else (if t1205 = t1194 then (some true) else (some false))) = some r := H
              have A60 := Aside0.mk A600
              clear A600
              by_cases c61 : t1205 < 0
              ·rw [if_pos c61] at H
               have c61b0 : decide (t1205 < 0) = true := decide_eq_true c61
               clear c61
               obtain rfl := Option.some.inj H
               go_wp2_with (first | ((with_reducible refine gate_callee (f := 18) rfl ?_); refine goesL_ (some 97) rfl rfl Try.func18 (by kernel_rfl) rfl #[.slice Ao48 t1195.length co48, .int .i64 1] rfl (by (try simp only [List.map_toArray, List.map_cons, List.map_nil]); first | done | rfl | (simp only [List.length_drop, List.length_take]; rfl)) ?_; (with_reducible refine (laws_heldIntS.calls kj46 _ _ t1195 1 t1205 _ ?side1 ?side2 A60.out).mono ?_); (case side1 => repeat (first | exact (Kd.R_reads' HO_10.out).2.2 | (with_reducible refine Kd.C_alloc ?_ _) | (with_reducible refine Kd.C_drewN ?_ _) | (with_reducible refine Kd.C_drew ?_))); (case side2 => exact (Kd.R_reads' HO_10.out).2.1); rintro e w' ⟨rfl, ⟨nd, rfl⟩⟩; refine ⟨_, rfl, ?_⟩))
               go_ret
               exact ⟨by first | rfl | (simp [errW_none, errW_some] <;> rfl) | (simp [*, errW_none, errW_some] <;> rfl), by repeat (first | (with_reducible first | exact HB.out | apply below_alloc | apply pw_below_drewN | apply below_drew1) | exact HB.out)⟩
              ·rw [if_neg c61] at H
               have c61b0 : decide (t1205 < 0) = false := decide_eq_false c61
               clear c61
               by_cases c62 : t1205 = t1194
               ·rw [if_pos c62] at H
                have c62b0 : (t1205 == t1194) = true := beq_iff_eq.mpr c62
                have c62b1 : (t1205 != t1194) = false := bne_eq_false_iff_eq.mpr c62
                clear c62
                obtain rfl := Option.some.inj H
                go_wp2_with (first | ((with_reducible refine gate_callee (f := 18) rfl ?_); refine goesL_ (some 97) rfl rfl Try.func18 (by kernel_rfl) rfl #[.slice Ao48 t1195.length co48, .int .i64 1] rfl (by (try simp only [List.map_toArray, List.map_cons, List.map_nil]); first | done | rfl | (simp only [List.length_drop, List.length_take]; rfl)) ?_; (with_reducible refine (laws_heldIntS.calls kj46 _ _ t1195 1 t1205 _ ?side1 ?side2 A60.out).mono ?_); (case side1 => repeat (first | exact (Kd.R_reads' HO_10.out).2.2 | (with_reducible refine Kd.C_alloc ?_ _) | (with_reducible refine Kd.C_drewN ?_ _) | (with_reducible refine Kd.C_drew ?_))); (case side2 => exact (Kd.R_reads' HO_10.out).2.1); rintro e w' ⟨rfl, ⟨nd, rfl⟩⟩; refine ⟨_, rfl, ?_⟩))
                go_ret
                exact ⟨by first | rfl | (simp [errW_none, errW_some] <;> rfl) | (simp [*, errW_none, errW_some] <;> rfl), by repeat (first | (with_reducible first | exact HB.out | apply below_alloc | apply pw_below_drewN | apply below_drew1) | exact HB.out)⟩
               ·rw [if_neg c62] at H
                have c62b0 : (t1205 == t1194) = false := beq_eq_false_iff_ne.mpr c62
                have c62b1 : (t1205 != t1194) = true := bne_iff_ne.mpr c62
                obtain rfl := Option.some.inj H
                go_wp2_with (first | ((with_reducible refine gate_callee (f := 18) rfl ?_); refine goesL_ (some 97) rfl rfl Try.func18 (by kernel_rfl) rfl #[.slice Ao48 t1195.length co48, .int .i64 1] rfl (by (try simp only [List.map_toArray, List.map_cons, List.map_nil]); first | done | rfl | (simp only [List.length_drop, List.length_take]; rfl)) ?_; (with_reducible refine (laws_heldIntS.calls kj46 _ _ t1195 1 t1205 _ ?side1 ?side2 A60.out).mono ?_); (case side1 => repeat (first | exact (Kd.R_reads' HO_10.out).2.2 | (with_reducible refine Kd.C_alloc ?_ _) | (with_reducible refine Kd.C_drewN ?_ _) | (with_reducible refine Kd.C_drew ?_))); (case side2 => exact (Kd.R_reads' HO_10.out).2.1); rintro e w' ⟨rfl, ⟨nd, rfl⟩⟩; refine ⟨_, rfl, ?_⟩))
                go_ret
                exact ⟨by first | rfl | (simp [errW_none, errW_some] <;> rfl) | (simp [*, errW_none, errW_some] <;> rfl), by repeat (first | (with_reducible first | exact HB.out | apply below_alloc | apply pw_below_drewN | apply below_drew1) | exact HB.out)⟩
          ·rw [if_neg c44] at H
           have c44b0 : (t1196 == t1194) = false := beq_eq_false_iff_ne.mpr c44
           have c44b1 : (t1196 != t1194) = true := bne_iff_ne.mpr c44
           obtain rfl := Option.some.inj H
           obtain ⟨Ao63, co63, eo63⟩ := Kd.R_slice HO_10.out
           subst eo63
           go_wp2_with (first | ((with_reducible refine gate_callee (f := 17) rfl ?_); refine goesL_ (some 69) rfl rfl Try.func17 (by kernel_rfl) rfl #[.slice Ao63 t1182.length co63, .int .i64 1] rfl (by (try simp only [List.map_toArray, List.map_cons, List.map_nil]); first | done | rfl | (simp only [List.length_drop, List.length_take]; rfl)) ?_; (with_reducible refine (laws_markIntS.calls kj26 (fun k_ => some k_ = (.slice Ao63 t1182.length co63 : Value).ownBlock) (.slice Ao63 t1182.length co63) t1182 1 t1194 t1195 w _ ?side1 ?side2 A39.out).mono ?_); (case side1 => repeat (first | (with_reducible first | exact HB.out | apply below_alloc | apply pw_below_drewN | apply below_drew1) | exact HB.out)); (case side2 => exact Kd.R_tight rfl HO_10.out); rintro e w64 ⟨rfl, hy0, hb, hkp⟩; refine ⟨_, rfl, ?_⟩; have n0_ := Aside0.mk (Kd.R_mono (ok' := fun k_ => some k_ ≠ (.slice Ao63 t1182.length co63 : Value).ownBlock) (Kd.R_keptB (HO_7.out) hkp (fun k_ hk_ hs_ => (hk_) hs_)) (fun k_ hk_ => hk_.1)); have n1_ := Aside0.mk (Kd.R_reok rfl hy0 (fun k_ e_ => HO_10.out.1 k_ e_)); have n2_ := Aside0.mk (hb); clear HO_7; clear HO_10; clear HB; have HO_7 := n0_; have HO_10 := n1_; have HB := n2_; clear n0_ n1_ n2_; (try clear hb); (try clear hkp); (try clear hy0)) | ((with_reducible refine gate_callee (f := 18) rfl ?_); refine goesL_ (some 72) rfl rfl Try.func18 (by kernel_rfl) rfl #[.slice Ao63 t1195.length co63, .int .i64 1] rfl (by (try simp only [List.map_toArray, List.map_cons, List.map_nil]); first | done | (rw [show t1195.length = t1182.length from (Kd.R_reads' HO_10.out).1.symm] <;> rfl) | rfl | (simp only [List.length_drop, List.length_take]; rfl)) ?_; (with_reducible refine (laws_heldIntS.calls kj26 _ _ t1195 1 t1196 _ ?side1 ?side2 A40.out).mono ?_); (case side1 => repeat (first | exact (Kd.R_reads' HO_10.out).2.2 | (with_reducible refine Kd.C_alloc ?_ _) | (with_reducible refine Kd.C_drewN ?_ _) | (with_reducible refine Kd.C_drew ?_))); (case side2 => rw [show t1195.length = t1182.length from (Kd.R_reads' HO_10.out).1.symm]; exact (Kd.R_reads' HO_10.out).2.1); rintro e w' ⟨rfl, ⟨nd, rfl⟩⟩; refine ⟨_, rfl, ?_⟩))
           go_ret
           exact ⟨by first | rfl | (simp [errW_none, errW_some] <;> rfl) | (simp [*, errW_none, errW_some] <;> rfl), by repeat (first | (with_reducible first | exact HB.out | apply below_alloc | apply pw_below_drewN | apply below_drew1) | exact HB.out)⟩
     ·replace c25 := Bool.eq_false_iff.mpr c25
      subst c25
      have H1 : (some false) = some r := by rw [if_neg (show ¬ (false = true) by decide)] at H; exact H
      clear H
      have H := H1
      clear H1
      obtain rfl := Option.some.inj H
      go_wp2_with (first | ((with_reducible refine gate_callee (f := 44) rfl ?_); refine goesL_ (some 48) rfl rfl Try.func44 (by kernel_rfl) rfl #[.slice A1 l1.length c1] rfl (by (try simp only [List.map_toArray, List.map_cons, List.map_nil]); first | done | rfl | (simp only [List.length_drop, List.length_take]; rfl)) ?_; (with_reducible refine (laws_toIntS.calls kj8 _ _ l1 t1187 _ ?side1 ?side2 A23.out).mono ?_); (case side1 => repeat (first | exact (Kd.C_below HR1.out HB.out) | (with_reducible refine Kd.C_alloc ?_ _) | (with_reducible refine Kd.C_drewN ?_ _) | (with_reducible refine Kd.C_drew ?_))); (case side2 => exact HC1.out); rintro e w65 ⟨v1188, rfl, ho0, hb⟩; refine ⟨_, rfl, ?_⟩; have n0_ := Aside0.mk (Kd.R_elder' (by (with_reducible repeat (first | apply Kd.R_alloc | apply Kd.R_drewN | apply Kd.R_drew)); exact HO_7.out) (Kd.R_base ho0) hb); have n1_ := Aside0.mk (Kd.R_elder' (by (with_reducible repeat (first | apply Kd.R_alloc | apply Kd.R_drewN | apply Kd.R_drew)); exact HO_9.out) (Kd.R_base ho0) hb); have n2_ := Aside0.mk (Kd.R_elder' (by (with_reducible repeat (first | apply Kd.R_alloc | apply Kd.R_drewN | apply Kd.R_drew)); exact HO_10.out) (Kd.R_base ho0) hb); have n3_ := Aside0.mk (Kd.R_lower (Kd.R_new' (Kd.R_new' (Kd.R_new' ho0 (Kd.R_lt (by (with_reducible repeat (first | apply Kd.R_alloc | apply Kd.R_drewN | apply Kd.R_drew)); exact HO_7.out))) (Kd.R_lt (by (with_reducible repeat (first | apply Kd.R_alloc | apply Kd.R_drewN | apply Kd.R_drew)); exact HO_9.out))) (Kd.R_lt (by (with_reducible repeat (first | apply Kd.R_alloc | apply Kd.R_drewN | apply Kd.R_drew)); exact HO_10.out))) (below_size (by repeat (first | (with_reducible first | exact HB.out | apply below_alloc | apply pw_below_drewN | apply below_drew1) | exact HB.out)))); have n4_ := Aside0.mk (below_step (by repeat (first | (with_reducible first | exact HB.out | apply below_alloc | apply pw_below_drewN | apply below_drew1) | exact HB.out)) hb); clear HO_7; clear HO_9; clear HO_10; clear HB; have HO_7 := n0_; have HO_9 := n1_; have HO_10 := n2_; have HO1189 := n3_; have HB := n4_; clear n0_ n1_ n2_ n3_ n4_; (try clear hb); (try clear hb2); (try clear hk); (try clear hi); (try clear ho0); obtain ⟨Ao66, co66, eo66⟩ := Kd.R_slice HO1189.out; subst eo66) | ((with_reducible refine gate_callee (f := 16) rfl ?_); refine goesL_ (some 49) rfl rfl Try.func16 (by kernel_rfl) rfl #[.slice Ao14 t1179.length co14, .slice Ao66 t1187.length co66] rfl (by (try simp only [List.map_toArray, List.map_cons, List.map_nil]); first | done | rfl | (simp only [List.length_drop, List.length_take]; rfl)) ?_; (with_reducible refine (laws_eqIntS.calls kj8 _ _ t1179 _ _ t1187 false _ ?side1 ?side2 ?side3 ?side4 A24.out).mono ?_); (case side1 => repeat (first | exact (Kd.R_reads' HO_9.out).2.2 | (with_reducible refine Kd.C_alloc ?_ _) | (with_reducible refine Kd.C_drewN ?_ _) | (with_reducible refine Kd.C_drew ?_))); (case side2 => exact (Kd.R_reads' HO_9.out).2.1); (case side3 => repeat (first | exact (Kd.R_reads' HO1189.out).2.2 | (with_reducible refine Kd.C_alloc ?_ _) | (with_reducible refine Kd.C_drewN ?_ _) | (with_reducible refine Kd.C_drew ?_))); (case side4 => exact (Kd.R_reads' HO1189.out).2.1); rintro e w' ⟨rfl, ⟨nd, rfl⟩⟩; refine ⟨_, rfl, ?_⟩))
      go_ret
      exact ⟨by first | rfl | (simp [errW_none, errW_some] <;> rfl) | (simp [*, errW_none, errW_some] <;> rfl), by repeat (first | (with_reducible first | exact HB.out | apply below_alloc | apply pw_below_drewN | apply below_drew1) | exact HB.out)⟩

/-- THE ONE PURE STATEMENT of laws_FnExactLeastAvoiding: yours. -/
def laws_FnExactLeastAvoiding.Pure : Prop := ∀ (a0 : Int) (l1 : List Int) (a2 : Int), (Lit.int .i64 a0).wf = true → l1.length ≤ maxLen → l1.length * 8 ≤ 140737488351232 → (∀ x ∈ l1, (Lit.int .i64 x).wf = true) → (Lit.int .i64 a2).wf = true → ∃ k, laws_FnExactLeastAvoiding.f k a0 l1 a2 = some true
theorem laws_FnExactLeastAvoiding.walk (P : laws_FnExactLeastAvoiding.Pure) (a0 : Int) (a1 : Option Addr) (len1 cap1 : Nat) (z1 : List Int) (a2 : Int) (w : World) (w0 : (Lit.int .i64 a0).wf = true) (w1 : (a1 = none ∧ len1 = 0 ∧ cap1 = 0 ∧ z1 = []) ∨ ∃ x, a1 = some x ∧ len1 ≤ cap1 ∧ cap1 ≤ maxLen ∧ z1.length = cap1 ∧ (∀ i, i < z1.length → w.cell? (x.add i) = some (.int .i64 (z1.getD i 0))) ∧ ∀ n ∈ z1, (Lit.int .i64 n).wf = true) (y1 : len1 * 8 ≤ 140737488351232) (w2 : (Lit.int .i64 a2).wf = true) :
  Calls Try.prog 10 #[.int .i64 a0, .slice a1 len1 cap1, .int .i64 a2] w fun e w' => e = .returned (.bool true) ∧ Below w.heap.size w w' := by
 obtain ⟨l1, rfl, hr1, hm1, hw1, hc1⟩ := ReadsInt.ofRowC w1
 obtain ⟨k, h⟩ := P a0 l1 a2 w0 hm1 y1 hw1 w2
 refine (laws_FnExactLeastAvoiding.calls k a0 _ _ l1 a2 true w (Kd.C_of_reads (d := (0 : Int)) (h1 := fun _ => rfl) hr1) hc1 h).mono ?_
 rintro e w' ⟨rfl, hd⟩
 exact ⟨rfl, hd⟩

end Go.Proofs.Ythkkpdgadfhijaa.M
/- Patterns and matches as values: program and reference tell the same. No condition but lengths that fit. -/
namespace Go.Proofs.Ythkkpdgadfhijaa.M
open Go.RowKit Go.Proofs.YthkkpdgadfhijaaW.PrintWords Go.Proofs.Ythkkpdgadfhijaa.K
set_option linter.unusedVariables false
theorem in_val (x a b : Int) : spec_l1In.f x a b = some (decide (a ≤ x ∧ x ≤ b)) := by
  unfold spec_l1In.f
  by_cases h : x ≥ a
  · rw [_root_.if_pos h]
    by_cases k : x ≤ b
    · rw [decide_eq_true k, decide_eq_true ⟨h, k⟩]
    · rw [decide_eq_false k, decide_eq_false (fun q => k q.2)]
  · rw [_root_.if_neg h, decide_eq_false (fun q => h q.1)]

/-- The letters of a pattern, counted as they come; none: it is no pattern. -/
def ngo : List Int → Nat → Option Nat
  | [], m => some m
  | x :: p, m => if x < 0 ∨ (m : Int) < x then none else ngo p (if x = (m : Int) then m + 1 else m)
def isPat (p : List Int) : Bool := match ngo p 0 with
  | none => false
  | some m => decide (p.length ≤ 6 ∧ m ≤ 3 ∧ 1 ≤ m)
def nl (p : List Int) : Nat := (ngo p 0).getD 0
theorem ngo_le (p : List Int) : ∀ m m', ngo p m = some m' → m ≤ m' ∧ m' ≤ m + p.length := by
  induction p with
  | nil => intro m m' h; simp only [ngo] at h; obtain rfl := Option.some.inj h; simp
  | cons x p ih =>
    intro m m' h
    simp only [ngo] at h
    split at h
    · cases h
    · have := ih _ _ h
      simp only [List.length_cons]
      split at this <;> omega
theorem ngo_pos (p : List Int) (m' : Nat) (h : ngo p 0 = some m') : 1 ≤ m' ↔ 1 ≤ p.length := by
  cases p with
  | nil => simp only [ngo] at h; obtain rfl := Option.some.inj h; simp
  | cons x p =>
    simp only [ngo] at h
    split at h
    · cases h
    · rename_i q
      have hx : x = 0 := by omega
      subst hx
      have := ngo_le _ _ _ h
      rw [_root_.if_pos (by rfl)] at this
      simp only [List.length_cons]; omega
theorem ngo_mem (p : List Int) : ∀ m m', ngo p m = some m' → (∀ x ∈ p, 0 ≤ x ∧ x < (m' : Int)) ∧ ∀ j : Nat, m ≤ j → j < m' → (j : Int) ∈ p := by
  induction p with
  | nil => intro m m' h; simp only [ngo] at h; obtain rfl := Option.some.inj h; exact ⟨by simp, fun j h1 h2 => by omega⟩
  | cons x p ih =>
    intro m m' h
    simp only [ngo] at h
    split at h
    · cases h
    · rename_i q
      obtain ⟨h1, h2⟩ := ih _ _ h
      have h3 := ngo_le _ _ _ h
      refine ⟨fun y hy => ?_, fun j hj hj' => ?_⟩
      · rcases List.mem_cons.1 hy with rfl | hy
        · split at h3 <;> omega
        · exact h1 y hy
      · by_cases e : x = (m : Int)
        · rw [_root_.if_pos e] at h2
          by_cases e2 : j = m
          · subst e2; rw [e]; exact List.mem_cons_self ..
          · exact List.mem_cons_of_mem _ (h2 j (by omega) hj')
        · rw [_root_.if_neg e] at h2
          exact List.mem_cons_of_mem _ (h2 j hj hj')
theorem specIsPattern_ev (p : List Int) (hp : p.length ≤ 1048576) : Ev (fun k => spec_IsPattern.f k p) (isPat p) := by
  have key : ∀ i, i ≤ p.length → ∀ m : Nat, m ≤ 3 → m ≤ i → Ev (fun k => spec_IsPattern.l0 k p (m : Int) (i : Int)) (match ngo (p.drop i) m with | none => false | some m' => decide (p.length ≤ 6 ∧ m' ≤ 3 ∧ 1 ≤ p.length)) := by
    refine down p.length ?_ ?_
    · intro m hm hi
      refine Ev.step (fun k => by simp only [spec_IsPattern.l0]; rw [_root_.if_neg (by omega)]) ?_
      refine Ev.bind (Ev.val (in_val _ _ _)) ?_
      rw [List.drop_length]
      simp only [ngo]
      refine Ev.same (Ev.some _) ?_
      exact decide_eq_decide.2 (by omega)
    · intro i hi ih m hm hmi
      rw [drop_eq p i hi]
      simp only [ngo]
      have bad : ∀ b, b = true → Ev (fun k => spec_IsPattern.j1 k p (m : Int) (i : Int) b) false := fun b hb => by
        refine Ev.step (fun k => by simp only [spec_IsPattern.j1]; rw [_root_.if_pos hb]) ?_
        exact Ev.some _
      refine Ev.step (fun k => by simp only [spec_IsPattern.l0]; rw [_root_.if_pos (by omega), _root_.if_pos (by omega), rd_get p i hi]) ?_
      refine Ev.ite (fun q1 => ?_) (fun q1 => ?_)
      · rw [_root_.if_pos (Or.inl q1)]; exact bad _ rfl
      · refine Ev.ite (fun q2 => ?_) (fun q2 => ?_)
        · rw [_root_.if_pos (Or.inr q2)]; exact bad _ rfl
        · rw [_root_.if_neg (by omega)]
          by_cases q3 : p[i] > 2
          · rw [decide_eq_true q3]
            refine Ev.same (bad _ rfl) ?_
            have e1 : p[i] = (m : Int) := by omega
            rw [_root_.if_pos e1]
            split
            · rfl
            · rename_i m' h
              have := ngo_le _ _ _ h
              rw [decide_eq_false (by omega)]
          · rw [decide_eq_false q3]
            refine Ev.step (fun k => by simp only [spec_IsPattern.j1]; rw [_root_.if_neg (by simp), _root_.if_pos (by omega), _root_.if_pos (by omega), rd_get p i hi, wsucc (i := m) (by omega), wsucc (i := i) (by omega)]) ?_
            refine Ev.ite (fun e => ?_) (fun e => ?_)
            · rw [_root_.if_pos e]; exact ih (m + 1) (by omega) (by omega)
            · rw [_root_.if_neg e]; exact ih m hm (by omega)
  have := key 0 (by omega) 0 (by omega) (by omega)
  unfold spec_IsPattern.f
  refine Ev.same this ?_
  unfold isPat
  rw [List.drop_zero]
  split
  · rfl
  · rename_i m h
    have := ngo_pos p m h
    exact decide_eq_decide.2 (by omega)
theorem implLetters_ev (p : List Int) (hp : p.length ≤ 1048576) : Ev (fun k => impl_patternLetters.f k p) (if isPat p = true then (nl p : Int) else 0) := by
  have key : ∀ i, i ≤ p.length → ∀ m : Nat, m ≤ i → Ev (fun k => impl_patternLetters.l0 k p (m : Int) p (p.length : Int) (i : Int)) (match ngo (p.drop i) m with | none => 0 | some m' => if p.length ≤ 6 ∧ m' ≤ 3 then (m' : Int) else 0) := by
    refine down p.length ?_ ?_
    · intro m hm
      refine Ev.step (fun k => by simp only [impl_patternLetters.l0]; rw [_root_.if_neg (by omega)]) ?_
      rw [List.drop_length]
      simp only [ngo]
      refine Ev.ite (fun q => ?_) (fun q => ?_)
      · rw [_root_.if_neg (by omega)]; exact Ev.some _
      · refine Ev.ite (fun q2 => ?_) (fun q2 => ?_)
        · rw [_root_.if_neg (by omega)]; exact Ev.some _
        · rw [_root_.if_pos (by omega)]; exact Ev.some _
    · intro i hi ih m hmi
      rw [drop_eq p i hi]
      simp only [ngo]
      have bad : ∀ b, b = true → Ev (fun k => impl_patternLetters.j1 k p (m : Int) p[i] p (p.length : Int) (i : Int) b) 0 := fun b hb => by
        refine Ev.step (fun k => by simp only [impl_patternLetters.j1]; rw [_root_.if_pos hb]) ?_
        exact Ev.some _
      refine Ev.step (fun k => by simp only [impl_patternLetters.l0]; rw [_root_.if_pos (by omega), _root_.if_pos (by omega), _root_.if_pos (by omega), rd_get p i hi]) ?_
      refine Ev.ite (fun q1 => ?_) (fun q1 => ?_)
      · rw [_root_.if_pos (Or.inl q1)]; exact bad _ rfl
      · by_cases q2 : p[i] > (m : Int)
        · rw [decide_eq_true q2, _root_.if_pos (Or.inr q2)]; exact bad _ rfl
        · rw [decide_eq_false q2, _root_.if_neg (by omega)]
          refine Ev.step (fun k => by simp only [impl_patternLetters.j1]; rw [_root_.if_neg (by simp), wsucc (i := m) (by omega), wsucc (i := i) (by omega)]) ?_
          refine Ev.ite (fun e => ?_) (fun e => ?_)
          · rw [_root_.if_pos e]; exact ih (m + 1) (by omega)
          · rw [_root_.if_neg e]; exact ih m (by omega)
  have := key 0 (by omega) 0 (by omega)
  unfold impl_patternLetters.f
  refine Ev.same this ?_
  unfold isPat nl
  rw [List.drop_zero]
  cases h : ngo p 0 with
  | none => rfl
  | some m =>
    simp only [Option.getD_some]
    by_cases q : p.length ≤ 6 ∧ m ≤ 3
    · rw [_root_.if_pos q]
      by_cases q2 : 1 ≤ m
      · rw [decide_eq_true ⟨q.1, q.2, q2⟩, _root_.if_pos rfl]
      · rw [decide_eq_false (fun x => q2 x.2.2), _root_.if_neg (by simp)]; omega
    · rw [_root_.if_neg q, decide_eq_false (fun x => q ⟨x.1, x.2.1⟩), _root_.if_neg (by simp)]
theorem isPat_nl {p : List Int} (h : isPat p = true) : ngo p 0 = some (nl p) ∧ p.length ≤ 6 ∧ nl p ≤ 3 ∧ 1 ≤ nl p := by
  unfold isPat at h
  unfold nl
  cases q : ngo p 0 with
  | none => rw [q] at h; cases h
  | some m => rw [q] at h; exact ⟨rfl, of_decide_eq_true h⟩
theorem implIsPattern_ev (p : List Int) (hp : p.length ≤ 1048576) : Ev (fun k => impl_IsPattern.f k p) (isPat p) := by
  unfold impl_IsPattern.f
  refine Ev.bind (implLetters_ev p hp) (Ev.same (Ev.some _) ?_)
  cases h : isPat p with
  | false => simp
  | true => rw [_root_.if_pos rfl]; have := (isPat_nl h).2.2.2; exact decide_eq_true (by omega)
/-- For a pattern alone. -/
theorem specLetters_ev (p : List Int) (h : isPat p = true) : Ev (fun k => spec_l28Letters.f k p) (nl p : Int) := by
  obtain ⟨h0, h6, h3, h1⟩ := isPat_nl h
  have key : ∀ i, i ≤ p.length → ∀ m : Nat, m ≤ 10 → ngo (p.drop i) m = some (nl p) → Ev (fun k => spec_l28Letters.l0 k p (m : Int) (i : Int)) (nl p : Int) := by
    refine down p.length ?_ ?_
    · intro m hm hn
      refine Ev.step (fun k => by simp only [spec_l28Letters.l0]; rw [_root_.if_neg (by omega)]) ?_
      rw [List.drop_length] at hn
      simp only [ngo] at hn
      obtain e := Option.some.inj hn
      rw [e]; exact Ev.some _
    · intro i hi ih m hm hn
      rw [drop_eq p i hi] at hn
      simp only [ngo] at hn
      split at hn
      · cases hn
      · rename_i q
        have hle := ngo_le _ _ _ hn
        have e : mx (m : Int) (wrap64 (p[i] + 1)) = ((if p[i] = (m : Int) then m + 1 else m : Nat) : Int) := by
          rw [w_id (by omega) (by omega)]
          unfold mx
          split <;> split <;> omega
        refine Ev.step (fun k => by simp only [spec_l28Letters.l0]; rw [_root_.if_pos (by omega), _root_.if_pos (by omega), rd_get p i hi, e, wsucc (i := i) (by omega)]) ?_
        exact ih _ (by split at hle <;> split <;> omega) hn
  exact key 0 (by omega) 0 (by omega) (by rw [List.drop_zero]; exact h0)
/-- Lengths that fit a pattern. -/
def okL (p L : List Int) : Bool := isPat p && (decide (L.length = nl p) && L.all fun y => decide (1 ≤ y ∧ y ≤ 40))
theorem specLengths_ev (p L : List Int) (hp : p.length ≤ 1048576) (hL : L.length ≤ 1048576) : Ev (fun k => spec_l28Lengths.f k p L) (okL p L) := by
  have key : ∀ i, i ≤ L.length → Ev (fun k => spec_l28Lengths.l0 k p L (i : Int)) (isPat p && (decide (L.length = nl p) && (L.drop i).all fun y => decide (1 ≤ y ∧ y ≤ 40))) := by
    refine down L.length ?_ ?_
    · refine Ev.step (fun k => by simp only [spec_l28Lengths.l0]; rw [_root_.if_neg (by omega)]) ?_
      refine Ev.bind (specIsPattern_ev p hp) ?_
      rw [List.drop_length]
      cases h : isPat p with
      | false => exact Ev.if_neg (by simp) (Ev.some _)
      | true =>
        refine Ev.if_pos rfl (Ev.bind (specLetters_ev p h) (Ev.same (Ev.some _) ?_))
        rw [List.all_nil, Bool.and_true, Bool.true_and, Bool.eq_iff_iff, beq_iff_eq, decide_eq_true_iff]
        omega
    · intro i hi ih
      rw [drop_eq L i hi, List.all_cons]
      refine Ev.step (fun k => by simp only [spec_l28Lengths.l0]; rw [_root_.if_pos (by omega), _root_.if_pos (by omega), rd_get L i hi, wsucc (i := i) (by omega)]) ?_
      refine Ev.bind (Ev.val (in_val _ _ _)) ?_
      by_cases q : 1 ≤ L[i] ∧ L[i] ≤ 40
      · rw [decide_eq_true q, Bool.true_and]; exact Ev.if_pos rfl ih
      · rw [decide_eq_false q, Bool.false_and, Bool.and_false, Bool.and_false]; exact Ev.if_neg (by simp) (Ev.some _)
  exact key 0 (by omega)
theorem implLengths_ev (p L : List Int) (hp : p.length ≤ 1048576) (hL : L.length ≤ 1048576) : Ev (fun k => impl_areLengths.f k p L) (okL p L) := by
  have bad : ∀ b, b = true → Ev (fun k => impl_areLengths.j0 k L b) false := fun b hb => by
    refine Ev.step (fun k => by simp only [impl_areLengths.j0]; rw [_root_.if_pos hb]) ?_
    exact Ev.some _
  unfold impl_areLengths.f okL
  refine Ev.bind (implIsPattern_ev p hp) ?_
  cases h : isPat p with
  | false => exact Ev.if_neg (by simp) (bad _ rfl)
  | true =>
    refine Ev.if_pos rfl (Ev.bind (implLetters_ev p hp) ?_)
    rw [_root_.if_pos h, Bool.true_and]
    by_cases e : L.length = nl p
    · rw [e, decide_eq_true rfl, Bool.true_and]
      have hne : ((nl p : Int) != (nl p : Int)) = false := by simp
      rw [hne]
      have key : ∀ i, i ≤ L.length → Ev (fun k => impl_areLengths.l0 k L (L.length : Int) (i : Int)) ((L.drop i).all fun y => decide (1 ≤ y ∧ y ≤ 40)) := by
        refine down L.length ?_ ?_
        · refine Ev.step (fun k => by simp only [impl_areLengths.l0]; rw [_root_.if_neg (by omega)]) ?_
          rw [List.drop_length]; exact Ev.some _
        · intro i hi ih
          rw [drop_eq L i hi, List.all_cons]
          refine Ev.step (fun k => by simp only [impl_areLengths.l0]; rw [_root_.if_pos (by omega), _root_.if_pos (by omega), _root_.if_pos (by omega), rd_get L i hi, wsucc (i := i) (by omega)]) ?_
          refine Ev.ite (fun q => ?_) (fun q => ?_)
          · rw [decide_eq_false (by omega), Bool.false_and]; exact Ev.some _
          · refine Ev.ite (fun q2 => ?_) (fun q2 => ?_)
            · rw [decide_eq_false (by omega), Bool.false_and]; exact Ev.some _
            · rw [decide_eq_true (by omega), Bool.true_and]; exact ih
      refine Ev.step (fun k => by simp only [impl_areLengths.j0]; rw [_root_.if_neg (by simp)]) ?_
      exact key 0 (by omega)
    · rw [decide_eq_false e, Bool.false_and]
      exact bad _ (by rw [bne_iff_ne]; omega)
end Go.Proofs.Ythkkpdgadfhijaa.M
/- Matches of patterns as values: program and reference tell the same. No condition but lengths that fit. -/
namespace Go.Proofs.Ythkkpdgadfhijaa.M
open Go.RowKit Go.Proofs.YthkkpdgadfhijaaW.PrintWords Go.Proofs.Ythkkpdgadfhijaa.K
set_option linter.unusedVariables false
/-- How long a match is. -/
def tot (L : List Int) : List Int → Nat
  | [] => 0
  | x :: p => (L.getD x.toNat 0).toNat + tot L p
theorem tot_append (L p q : List Int) : tot L (p ++ q) = tot L p + tot L q := by
  induction p with
  | nil => simp [tot]
  | cons x p ih => simp only [List.cons_append, tot, ih]; omega
theorem okL_at {p L : List Int} (h : okL p L = true) : isPat p = true ∧ L.length = nl p ∧ (∀ y ∈ L, 1 ≤ y ∧ y ≤ 40) ∧ ∀ x ∈ p, 0 ≤ x ∧ x < (L.length : Int) ∧ x < 3 := by
  unfold okL at h
  rw [Bool.and_eq_true, Bool.and_eq_true, List.all_eq_true] at h
  obtain ⟨h1, h2, h3⟩ := h
  have h2 := of_decide_eq_true h2
  obtain ⟨h0, h6, hn3, hn1⟩ := isPat_nl h1
  refine ⟨h1, h2, fun y hy => of_decide_eq_true (h3 y hy), fun x hx => ?_⟩
  have := (ngo_mem p 0 _ h0).1 x hx
  omega
theorem tot_le (L : List Int) (hL : ∀ y ∈ L, 1 ≤ y ∧ y ≤ 40) (p : List Int) (hp : ∀ x ∈ p, 0 ≤ x ∧ x < (L.length : Int)) : p.length ≤ tot L p ∧ tot L p ≤ 40 * p.length := by
  induction p with
  | nil => simp [tot]
  | cons x p ih =>
    have h1 := ih (fun y hy => hp y (List.mem_cons_of_mem _ hy))
    have h2 := hp x (List.mem_cons_self ..)
    have h3 : x.toNat < L.length := by omega
    have h4 := hL _ (List.getElem_mem h3)
    simp only [tot, List.length_cons]
    rw [List.getD_eq_getElem?_getD, List.getElem?_eq_getElem h3]
    simp only [Option.getD_some]
    omega
theorem specMatchLength_ev (p L : List Int) (hp : p.length ≤ 1048576) (hL : L.length ≤ 1048576) : Ev (fun k => spec_MatchLength.f k p L) (if okL p L = true then (tot L p : Int) else -1) := by
  unfold spec_MatchLength.f
  refine Ev.bind (specLengths_ev p L hp hL) ?_
  refine Ev.ite (fun h => ?_) (fun h => ?_)
  · rw [_root_.if_pos h]
    obtain ⟨h1, h2, h3, h4⟩ := okL_at h
    have h6 := (isPat_nl h1).2.1
    have key : ∀ i, i ≤ p.length → Ev (fun k => spec_MatchLength.l0 k p L (tot L (p.take i) : Int) (i : Int)) (tot L p : Int) := by
      refine down p.length ?_ ?_
      · refine Ev.step (fun k => by simp only [spec_MatchLength.l0]; rw [_root_.if_neg (by omega)]) ?_
        rw [List.take_length]; exact Ev.some _
      · intro i hi ih
        have h5 := h4 p[i] (List.getElem_mem hi)
        obtain ⟨x, hx⟩ : ∃ x : Nat, p[i] = (x : Int) := ⟨p[i].toNat, by omega⟩
        have hxl : x < L.length := by omega
        have h7 := h3 _ (List.getElem_mem hxl)
        obtain ⟨n, hn⟩ : ∃ n : Nat, L[x] = (n : Int) := ⟨L[x].toNat, by omega⟩
        have h8 := (tot_le L h3 (p.take i) (fun y hy => ⟨(h4 y (List.mem_of_mem_take hy)).1, (h4 y (List.mem_of_mem_take hy)).2.1⟩)).2
        rw [List.length_take] at h8
        rw [take_succ p i hi, tot_append] at ih
        simp only [tot] at ih
        rw [hx, Int.toNat_natCast, List.getD_eq_getElem?_getD, List.getElem?_eq_getElem hxl, Option.getD_some, hn, Int.toNat_natCast] at ih
        refine Ev.step (fun k => by
          simp only [spec_MatchLength.l0]
          rw [_root_.if_pos (by omega), _root_.if_pos (by omega), rd_get p i hi, hx, _root_.if_pos (by omega), _root_.if_pos (by omega), rd_get L x hxl, hn, wsucc (i := i) (by omega), w_id (by omega) (by omega), show ((tot L (p.take i) : Nat) : Int) + (n : Int) = ((tot L (p.take i) + (n + 0) : Nat) : Int) from by omega]) ih
    have := key 0 (by omega)
    rw [List.take_zero] at this
    exact this
  · rw [_root_.if_neg h]; exact Ev.some _

/-- Held against the word: does a pattern match at a place with lengths. -/
def mAt (w p : List Int) (at_ : Nat) (L : List Int) : Bool := okL p L && (decide (at_ ≤ w.length) && mgo w L p at_ (List.replicate L.length none))
theorem mgo_long (w L : List Int) (p : List Int) : ∀ i us, i ≤ w.length → w.length < i + tot L p → mgo w L p i us = false := by
  induction p with
  | nil => intro i us h1 h2; simp only [tot] at h2; omega
  | cons x p ih =>
    intro i us h1 h2
    simp only [tot] at h2
    simp only [mgo]
    by_cases q : w.length < i + (L.getD x.toNat 0).toNat
    · rw [_root_.if_pos q]
    · rw [_root_.if_neg q]
      split
      · exact ih _ _ (by omega) (by omega)
      · split
        · exact ih _ _ (by omega) (by omega)
        · rfl
/-- What the two ways keep in mind tells the same. -/
def Same (w L : List Int) (us : List (Option (List Int))) (fs : List Int) : Prop :=
  us.length = L.length ∧ fs.length = 3 ∧ ∀ j : Nat, j < L.length → match us.getD j none with
    | none => fs.getD j 0 < 0
    | some u => 0 ≤ fs.getD j 0 ∧ (fs.getD j 0).toNat + (L.getD j 0).toNat ≤ w.length ∧ u = (w.take ((fs.getD j 0).toNat + (L.getD j 0).toNat)).drop (fs.getD j 0).toNat
theorem sgo_mgo (w L : List Int) (p : List Int) (hp : ∀ x ∈ p, 0 ≤ x ∧ x < (L.length : Int) ∧ x < 3) : ∀ i us fs, Same w L us fs → i + tot L p ≤ w.length → sgo w L p i fs = some (mgo w L p i us) := by
  induction p with
  | nil => intro i us fs _ _; rfl
  | cons x p ih =>
    intro i us fs hS ht
    obtain ⟨hl, hf, hS⟩ := hS
    have hx := hp x (List.mem_cons_self ..)
    have hx' : x.toNat < L.length := by omega
    have ih := ih (fun y hy => hp y (List.mem_cons_of_mem _ hy))
    simp only [tot] at ht
    simp only [sgo, mgo]
    have h1 := hS x.toNat hx'
    have hn : ¬ w.length < i + (L.getD x.toNat 0).toNat := by omega
    rw [_root_.if_neg hn, _root_.if_neg hn]
    cases hu : us.getD x.toNat none with
    | none =>
      rw [hu] at h1
      simp only at h1 ⊢
      rw [_root_.if_pos h1]
      refine ih _ _ _ ⟨by rw [List.length_set]; exact hl, by rw [List.length_set]; exact hf, fun j hj => ?_⟩ (by omega)
      have h2 := hS j hj
      by_cases e : x.toNat = j
      · subst e
        have e1 : ∀ V, (us.set x.toNat (some V)).getD x.toNat none = some V := fun V => by rw [List.getD_eq_getElem?_getD, List.getElem?_set_self (by omega)]; rfl
        have e2 : (fs.set x.toNat (i : Int)).getD x.toNat 0 = (i : Int) := by rw [List.getD_eq_getElem?_getD, List.getElem?_set_self (by omega)]; rfl
        rw [e1, e2]
        simp only [Int.toNat_natCast]
        exact ⟨by omega, by omega, trivial⟩
      · have e1 : ∀ V, (us.set x.toNat (some V)).getD j none = us.getD j none := fun V => by rw [List.getD_eq_getElem?_getD, List.getElem?_set_ne e, ← List.getD_eq_getElem?_getD]
        have e2 : (fs.set x.toNat (i : Int)).getD j 0 = fs.getD j 0 := by rw [List.getD_eq_getElem?_getD, List.getElem?_set_ne e, ← List.getD_eq_getElem?_getD]
        rw [e1, e2]
        exact h2
    | some u =>
      rw [hu] at h1
      simp only at h1 ⊢
      obtain ⟨h2, h3, h4⟩ := h1
      rw [_root_.if_neg (show ¬ fs.getD x.toNat 0 < 0 by omega), _root_.if_neg (show ¬ w.length < (fs.getD x.toNat 0).toNat + (L.getD x.toNat 0).toNat by omega), ← h4]
      by_cases e : u = (w.take (i + (L.getD x.toNat 0).toNat)).drop i
      · rw [_root_.if_pos e, _root_.if_pos e]
        exact ih _ _ _ ⟨hl, hf, hS⟩ (by omega)
      · rw [_root_.if_neg e, _root_.if_neg e]
theorem mAt_len {w p L : List Int} {at_ : Nat} (h : mAt w p at_ L = true) : okL p L = true ∧ at_ + tot L p ≤ w.length := by
  unfold mAt at h
  rw [Bool.and_eq_true, Bool.and_eq_true] at h
  obtain ⟨h1, h2, h3⟩ := h
  have h2 := of_decide_eq_true h2
  refine ⟨h1, ?_⟩
  apply Nat.le_of_not_lt
  intro q
  rw [mgo_long w L p at_ _ h2 q] at h3
  cases h3
theorem implMatchAt_ev (w p : List Int) (at_ : Nat) (L : List Int) (hw : w.length ≤ 1000000) (hp : p.length ≤ 1048576) (hL : L.length ≤ 1048576) : Ev (fun k => impl_MatchAt.f k w p (at_ : Int) L) (mAt w p at_ L) := by
  unfold impl_MatchAt.f mAt
  refine Ev.bind (implLengths_ev p L hp hL) ?_
  by_cases h : okL p L = true
  · obtain ⟨h1, h2, h3, h4⟩ := okL_at h
    rw [h, Bool.true_and]
    by_cases h5 : at_ ≤ w.length
    · rw [decide_eq_true h5, Bool.true_and]
      have hok : matOk w p L := ⟨fun x hx => ⟨(h4 x hx).1, (h4 x hx).2.1⟩, h3, hw, by have := (isPat_nl h1).2.1; omega, by have := (isPat_nl h1).2.2.1; omega⟩
      refine Ev.if_pos ⟨rfl, by omega, by omega⟩ (Ev.if_pos hok ?_)
      rw [Int.toNat_natCast]; exact Ev.some _
    · rw [decide_eq_false h5, Bool.false_and]
      exact Ev.if_neg (fun q => h5 (by omega)) (Ev.some _)
  · rw [Bool.eq_false_iff.2 h, Bool.false_and]
    exact Ev.if_neg (by simp) (Ev.some _)
theorem specMatchAt_ev (w p : List Int) (at_ : Nat) (L : List Int) (hw : w.length ≤ 1000000) (hp : p.length ≤ 1048576) (hL : L.length ≤ 1048576) : Ev (fun k => spec_MatchAt.f k w p (at_ : Int) L) (mAt w p at_ L) := by
  unfold spec_MatchAt.f
  refine Ev.bind (specMatchLength_ev p L hp hL) ?_
  by_cases h : okL p L = true
  · rw [_root_.if_pos h]
    obtain ⟨h1, h2, h3, h4⟩ := okL_at h
    have h6 := (isPat_nl h1).2.1
    have h7 := (tot_le L h3 p (fun y hy => ⟨(h4 y hy).1, (h4 y hy).2.1⟩)).2
    by_cases h5 : at_ ≤ w.length
    · refine Ev.if_neg (by omega) (Ev.if_neg (fun q => q ⟨hw, by omega⟩) ?_)
      unfold mAt
      rw [h, decide_eq_true h5, Bool.true_and, Bool.true_and]
      by_cases h8 : w.length < at_ + tot L p
      · rw [mgo_long w L p at_ _ h5 h8]
        exact Ev.if_pos (by omega) (Ev.some _)
      · have hok : smatOk w p L := ⟨h4, h3, hw, by omega, by have := (isPat_nl h1).2.2.1; omega⟩
        refine Ev.if_neg (by omega) (Ev.if_pos hok ?_)
        rw [Int.toNat_natCast, sgo_mgo w L p h4 at_ (List.replicate L.length none) [-1, -1, -1] ⟨List.length_replicate, rfl, fun j hj => ?_⟩ (by omega)]
        · exact Ev.some _
        · rw [List.getD_eq_getElem?_getD]
          have hj3 : j < 3 := by have := (isPat_nl h1).2.2.1; omega
          simp only [List.getElem?_replicate, hj, if_true, Option.getD_some]
          rcases j with _ | _ | _ | j
          · decide
          · decide
          · decide
          · omega
    · unfold mAt
      rw [decide_eq_false h5, Bool.false_and, Bool.and_false]
      exact Ev.if_pos (by omega) (Ev.some _)
  · rw [_root_.if_neg h]
    unfold mAt
    rw [Bool.eq_false_iff.2 h, Bool.false_and]
    exact Ev.if_pos (by omega) (Ev.some _)

/-- The first of the lists that begin as pre, go on with a number from a to K and d more from 1 to K, at which F tells something. -/
def srch (K : Nat) (F : List Int → Option (List Int)) : Nat → List Int → Nat → Option (List Int)
  | 0, pre, a => (List.range' a (K + 1 - a)).findSome? fun (j : Nat) => F (pre ++ [(j : Int)])
  | d + 1, pre, a => (List.range' a (K + 1 - a)).findSome? fun (j : Nat) => srch K F d (pre ++ [(j : Int)]) 1
def inner (K : Nat) (F : List Int → Option (List Int)) : Nat → List Int → Nat → Option (List Int)
  | 0, pre, j => F (pre ++ [(j : Int)])
  | d + 1, pre, j => srch K F d (pre ++ [(j : Int)]) 1
theorem srch_def (K : Nat) (F : List Int → Option (List Int)) (d : Nat) (pre : List Int) (a : Nat) : srch K F d pre a = (List.range' a (K + 1 - a)).findSome? (inner K F d pre) := by cases d <;> rfl
theorem srch_end (K : Nat) (F : List Int → Option (List Int)) (d : Nat) (pre : List Int) (a : Nat) (h : K < a) : srch K F d pre a = none := by
  rw [srch_def, show K + 1 - a = 0 from by omega]; rfl
theorem srch_step (K : Nat) (F : List Int → Option (List Int)) (d : Nat) (pre : List Int) (a : Nat) (h : a ≤ K) : srch K F d pre a = (inner K F d pre a).or (srch K F d pre (a + 1)) := by
  rw [srch_def, srch_def, show K + 1 - a = (K + 1 - (a + 1)) + 1 from by omega, List.range'_succ, List.findSome?_cons]
  cases inner K F d pre a <;> rfl
theorem srch_some (K : Nat) (F : List Int → Option (List Int)) : ∀ d pre a, (srch K F d pre a).isSome = true ↔ ∃ (j : Nat) (s : List Int), a ≤ j ∧ j ≤ K ∧ s.length = d ∧ (∀ y ∈ s, 1 ≤ y ∧ y ≤ (K : Int)) ∧ (F (pre ++ (j : Int) :: s)).isSome = true := by
  intro d
  induction d with
  | zero =>
    intro pre a
    rw [srch_def, List.findSome?_isSome_iff]
    constructor
    · rintro ⟨j, hj, h⟩
      rw [List.mem_range'_1] at hj
      exact ⟨j, [], hj.1, by omega, rfl, by simp, h⟩
    · rintro ⟨j, s, h1, h2, h3, _, h4⟩
      obtain rfl := List.length_eq_zero_iff.1 h3
      exact ⟨j, by rw [List.mem_range'_1]; omega, h4⟩
  | succ d ih =>
    intro pre a
    rw [srch_def, List.findSome?_isSome_iff]
    constructor
    · rintro ⟨j, hj, h⟩
      rw [List.mem_range'_1] at hj
      obtain ⟨i, s, h1, h2, h3, h4, h5⟩ := (ih _ _).1 h
      refine ⟨j, (i : Int) :: s, hj.1, by omega, by simp [h3], fun y hy => ?_, by simpa using h5⟩
      rcases List.mem_cons.1 hy with rfl | hy
      · omega
      · exact h4 y hy
    · rintro ⟨j, s, h1, h2, h3, h4, h5⟩
      cases s with
      | nil => simp at h3
      | cons i s =>
        have hi := h4 i (List.mem_cons_self ..)
        refine ⟨j, by rw [List.mem_range'_1]; omega, (ih _ _).2 ⟨i.toNat, s, by omega, by omega, by simpa using h3, fun y hy => h4 y (List.mem_cons_of_mem _ hy), ?_⟩⟩
        rw [show ((i.toNat : Nat) : Int) = i from by omega]
        simpa using h5
theorem srch_none (K : Nat) (F : List Int → Option (List Int)) (d : Nat) (pre : List Int) (a : Nat) (h : ∀ (j : Nat) (s : List Int), a ≤ j → j ≤ K → s.length = d → F (pre ++ (j : Int) :: s) = none) : srch K F d pre a = none := by
  cases q : srch K F d pre a with
  | none => rfl
  | some x =>
    obtain ⟨j, s, h1, h2, h3, h4, h5⟩ := (srch_some K F d pre a).1 (by rw [q]; rfl)
    rw [h j s h1 h2 h3] at h5
    cases h5
/-- Numbers above K' are tried in vain. -/
theorem srch_cut (K K' : Nat) (hK : K' ≤ K) (F : List Int → Option (List Int)) (hF : ∀ L, (∃ y ∈ L, (K' : Int) < y) → F L = none) : ∀ d pre a, srch K F d pre a = srch K' F d pre a := by
  intro d
  induction d with
  | zero =>
    intro pre a
    by_cases ha : a ≤ K + 1
    · have key : ∀ b, b ≤ K + 1 → srch K F 0 pre b = srch K' F 0 pre b := by
        refine down (K + 1) ?_ ?_
        · rw [srch_end _ _ _ _ _ (by omega), srch_end _ _ _ _ _ (by omega)]
        · intro b hb ih
          by_cases q : b ≤ K'
          · rw [srch_step _ _ _ _ _ (by omega), srch_step _ _ _ _ _ q, ih]; rfl
          · rw [srch_end K' _ _ _ _ (by omega)]
            refine srch_none _ _ _ _ _ (fun j s h1 h2 h3 => hF _ ⟨(j : Int), by simp, by omega⟩)
      exact key a ha
    · rw [srch_end _ _ _ _ _ (by omega), srch_end _ _ _ _ _ (by omega)]
  | succ d ih =>
    intro pre a
    by_cases ha : a ≤ K + 1
    · have key : ∀ b, b ≤ K + 1 → srch K F (d + 1) pre b = srch K' F (d + 1) pre b := by
        refine down (K + 1) ?_ ?_
        · rw [srch_end _ _ _ _ _ (by omega), srch_end _ _ _ _ _ (by omega)]
        · intro b hb ih2
          by_cases q : b ≤ K'
          · rw [srch_step _ _ _ _ _ (by omega), srch_step _ _ _ _ _ q, ih2]
            simp only [inner]
            rw [ih]
          · rw [srch_end K' _ _ _ _ (by omega)]
            refine srch_none _ _ _ _ _ (fun j s h1 h2 h3 => hF _ ⟨(j : Int), by simp, by omega⟩)
      exact key a ha
    · rw [srch_end _ _ _ _ _ (by omega), srch_end _ _ _ _ _ (by omega)]
end Go.Proofs.Ythkkpdgadfhijaa.M
/- Finding a pattern, as values: program and reference find the same first match. No condition but lengths that fit. -/
namespace Go.Proofs.Ythkkpdgadfhijaa.M
open Go.RowKit Go.Proofs.YthkkpdgadfhijaaW.PrintWords Go.Proofs.Ythkkpdgadfhijaa.K
set_option linter.unusedVariables false
theorem odo1 (K : Nat) (F : List Int → Option (List Int)) (P : Nat → Option (List Int) → Prop) (hend : P (K + 1) none) (h1 : ∀ a, a ≤ K → ∀ v, P (a + 1) v → P a ((F [(a : Int)]).or v)) : P 1 (srch K F 0 [] 1) := by
  have key : ∀ a, a ≤ K + 1 → P a (srch K F 0 [] a) := by
    refine down (K + 1) ?_ ?_
    · rw [srch_end _ _ _ _ _ (by omega)]; exact hend
    · intro a ha ih
      rw [srch_step _ _ _ _ _ (by omega)]
      exact h1 a (by omega) _ ih
  exact key 1 (by omega)
theorem odo2 (K : Nat) (F : List Int → Option (List Int)) (P : Nat → Nat → Option (List Int) → Prop) (hend : ∀ b, P (K + 1) b none) (h1 : ∀ a b, a ≤ K → b < K → ∀ v, P a (b + 1) v → P a b ((F [(a : Int), (b : Int)]).or v)) (h2 : ∀ a, a ≤ K → ∀ v, P (a + 1) 1 v → P a K ((F [(a : Int), (K : Int)]).or v)) : P 1 1 (srch K F 1 [] 1) := by
  have key : ∀ a, a ≤ K + 1 → 1 ≤ a → P a 1 (srch K F 1 [] a) := by
    refine down (K + 1) ?_ ?_
    · intro _; rw [srch_end _ _ _ _ _ (by omega)]; exact hend 1
    · intro a ha ih ha1
      have ih := ih (by omega)
      have in_ : ∀ b, b ≤ K → P a b ((srch K F 0 [(a : Int)] b).or (srch K F 1 [] (a + 1))) := by
        refine down K ?_ ?_
        · rw [srch_step _ _ _ _ _ (Nat.le_refl _), srch_end _ _ _ _ _ (by omega), Option.or_none]
          exact h2 a (by omega) _ ih
        · intro b hb ih2
          rw [srch_step _ _ _ _ _ (by omega), Option.or_assoc]
          exact h1 a b (by omega) hb _ ih2
      rw [srch_step _ _ _ _ _ (by omega)]
      exact in_ 1 (by omega)
  exact key 1 (by omega) (by omega)
theorem odo3 (K : Nat) (F : List Int → Option (List Int)) (P : Nat → Nat → Nat → Option (List Int) → Prop) (hend : ∀ b c, P (K + 1) b c none) (h1 : ∀ a b c, a ≤ K → b ≤ K → c < K → ∀ v, P a b (c + 1) v → P a b c ((F [(a : Int), (b : Int), (c : Int)]).or v)) (h2 : ∀ a b, a ≤ K → b < K → ∀ v, P a (b + 1) 1 v → P a b K ((F [(a : Int), (b : Int), (K : Int)]).or v)) (h3 : ∀ a, a ≤ K → ∀ v, P (a + 1) 1 1 v → P a K K ((F [(a : Int), (K : Int), (K : Int)]).or v)) : P 1 1 1 (srch K F 2 [] 1) := by
  have key : ∀ a, a ≤ K + 1 → 1 ≤ a → P a 1 1 (srch K F 2 [] a) := by
    refine down (K + 1) ?_ ?_
    · intro _; rw [srch_end _ _ _ _ _ (by omega)]; exact hend 1 1
    · intro a ha ih ha1
      have ih := ih (by omega)
      have mid_ : ∀ b, b ≤ K → P a b 1 ((srch K F 1 [(a : Int)] b).or (srch K F 2 [] (a + 1))) := by
        refine down K ?_ ?_
        · have in_ : ∀ c, c ≤ K → P a K c ((srch K F 0 [(a : Int), (K : Int)] c).or (srch K F 2 [] (a + 1))) := by
            refine down K ?_ ?_
            · rw [srch_step _ _ _ _ _ (Nat.le_refl _), srch_end _ _ _ _ _ (by omega), Option.or_none]
              exact h3 a (by omega) _ ih
            · intro c hc ih2
              rw [srch_step _ _ _ _ _ (by omega), Option.or_assoc]
              exact h1 a K c (by omega) (Nat.le_refl _) hc _ ih2
          rw [srch_step _ _ _ _ _ (Nat.le_refl _), srch_end K F 1 _ _ (by omega), Option.or_none]
          exact in_ 1 (by omega)
        · intro b hb ih2
          have in_ : ∀ c, c ≤ K → P a b c ((srch K F 0 [(a : Int), (b : Int)] c).or ((srch K F 1 [(a : Int)] (b + 1)).or (srch K F 2 [] (a + 1)))) := by
            refine down K ?_ ?_
            · rw [srch_step _ _ _ _ _ (Nat.le_refl _), srch_end _ _ _ _ _ (by omega), Option.or_none]
              exact h2 a b (by omega) hb _ ih2
            · intro c hc ih3
              rw [srch_step _ _ _ _ _ (by omega), Option.or_assoc]
              exact h1 a b c (by omega) (by omega) hc _ ih3
          rw [srch_step _ _ _ _ _ (by omega), Option.or_assoc]
          exact in_ 1 (by omega)
      rw [srch_step _ _ _ _ _ (by omega)]
      exact mid_ 1 (by omega)
  exact key 1 (by omega) (by omega)

def FA (w p : List Int) (at_ : Nat) (L : List Int) : Option (List Int) := if mAt w p at_ L = true then some L else none
def mres : Option (List Int) → List Int × Bool
  | none => ([], false)
  | some L => (L, true)
theorem implML_leaf (w p : List Int) (at_ : Nat) (hw : w.length ≤ 1000000) (hp : p.length ≤ 1048576) (h : isPat p = true) (L : List Int) (hL : L.length = nl p) : Ev (fun k => impl_matchLengths.f k w p (at_ : Int) L) (L, mAt w p at_ L) := by
  refine Ev.step (fun k => by simp only [impl_matchLengths.f]; rfl) ?_
  have := (isPat_nl h).2.2.1
  refine Ev.bind (implLetters_ev p hp) (Ev.if_pos (by rw [_root_.if_pos h, hL]) (Ev.bind (implMatchAt_ev w p at_ L hw hp (by omega)) (Ev.some _)))
theorem implML_step (w p : List Int) (at_ : Nat) (hw : w.length ≤ 1000000) (hat : at_ ≤ w.length) (hp : p.length ≤ 1048576) (h : isPat p = true) : ∀ d (L : List Int), L.length + d + 1 = nl p → Ev (fun k => impl_matchLengths.f k w p (at_ : Int) L) (mres (srch (w.length - at_) (FA w p at_) d L 1)) := by
  have h3 := (isPat_nl h).2.2.1
  have loop : ∀ d (L : List Int), L.length + d + 1 = nl p → (∀ a : Nat, Ev (fun k => impl_matchLengths.f k w p (at_ : Int) (L ++ [(a : Int)])) (match inner (w.length - at_) (FA w p at_) d L a with | none => ((if d = 0 then L ++ [(a : Int)] else []), false) | some L' => (L', true))) → Ev (fun k => impl_matchLengths.f k w p (at_ : Int) L) (mres (srch (w.length - at_) (FA w p at_) d L 1)) := by
    intro d L hL hin
    have key : ∀ a, a ≤ w.length - at_ + 1 → Ev (fun k => impl_matchLengths.l0 k w p (at_ : Int) L (a : Int)) (mres (srch (w.length - at_) (FA w p at_) d L a)) := by
      refine down (w.length - at_ + 1) ?_ ?_
      · rw [srch_end _ _ _ _ _ (by omega)]
        refine Ev.step (fun k => by simp only [impl_matchLengths.l0]; rw [w_id (by omega) (by omega), _root_.if_neg (by omega)]) ?_
        exact Ev.some _
      · intro a ha ih
        refine Ev.step (fun k => by simp only [impl_matchLengths.l0, slices_Clone_int_int.f]; rw [w_id (by omega) (by omega), _root_.if_pos (by omega), _root_.if_pos (show L.length < 17592186044416 by omega), Option.bind_some, _root_.if_pos (show L.length < 17592186044416 by omega), wsucc (i := a) (by omega)]) ?_
        rw [srch_step _ _ _ _ _ (by omega)]
        have hb := hin a
        refine Ev.bind hb ?_
        cases inner (w.length - at_) (FA w p at_) d L a with
        | none => exact Ev.if_neg (by simp) ih
        | some L' => exact Ev.if_pos rfl (Ev.some _)
    refine Ev.step (fun k => by simp only [impl_matchLengths.f]; rfl) ?_
    refine Ev.bind (implLetters_ev p hp) (Ev.if_neg (by rw [_root_.if_pos h]; omega) ?_)
    exact key 1 (by omega)
  intro d
  induction d with
  | zero =>
    intro L hL
    refine loop 0 L hL (fun a => ?_)
    have := implML_leaf w p at_ hw hp h (L ++ [(a : Int)]) (by simp; omega)
    refine Ev.same this ?_
    simp only [inner, FA]
    by_cases q : mAt w p at_ (L ++ [(a : Int)]) = true
    · rw [_root_.if_pos q, q]
    · rw [_root_.if_neg q, Bool.eq_false_iff.2 q]; rfl
  | succ d ih =>
    intro L hL
    refine loop (d + 1) L hL (fun a => ?_)
    refine Ev.same (ih (L ++ [(a : Int)]) (by simp; omega)) ?_
    simp only [inner]
    cases srch (w.length - at_) (FA w p at_) d (L ++ [(a : Int)]) 1 <;> rfl

/-- The first match from a place on. -/
def fFrom (w p : List Int) (a : Nat) : Option (Nat × List Int) := (List.range' a (w.length - a)).findSome? fun i => (srch (w.length - i) (FA w p i) (nl p - 1) [] 1).map fun L => (i, L)
theorem fFrom_end (w p : List Int) (a : Nat) (h : w.length ≤ a) : fFrom w p a = none := by
  unfold fFrom; rw [show w.length - a = 0 from by omega]; rfl
theorem fFrom_step (w p : List Int) (a : Nat) (h : a < w.length) : fFrom w p a = ((srch (w.length - a) (FA w p a) (nl p - 1) [] 1).map fun L => (a, L)).or (fFrom w p (a + 1)) := by
  unfold fFrom
  rw [show w.length - a = (w.length - (a + 1)) + 1 from by omega, List.range'_succ, List.findSome?_cons, show w.length - (a + 1) + 1 = w.length - a from by omega]
  cases srch (w.length - a) (FA w p a) (nl p - 1) [] 1 <;> rfl
def fres : Option (Nat × List Int) → Int × List Int × Bool
  | none => (0, [], false)
  | some (i, L) => ((i : Int), L, true)
def fnd (w p : List Int) : Option (Nat × List Int) := if isPat p = true ∧ w.length ≤ 24 then fFrom w p 0 else none
theorem implFind_ev (w p : List Int) (hw : w.length ≤ 1048576) (hp : p.length ≤ 1048576) : Ev (fun k => impl_FindPattern.f k w p) (fres (fnd w p)) := by
  have bad : ∀ b, b = true → Ev (fun k => impl_FindPattern.j0 k w p b) (fres none) := fun b hb => by
    refine Ev.step (fun k => by simp only [impl_FindPattern.j0]; rw [_root_.if_pos hb]) ?_
    exact Ev.some _
  unfold impl_FindPattern.f fnd
  refine Ev.bind (implIsPattern_ev p hp) ?_
  by_cases h : isPat p = true
  · refine Ev.if_pos h ?_
    by_cases h2 : w.length ≤ 24
    · rw [_root_.if_pos ⟨h, h2⟩, decide_eq_false (by omega)]
      have hn := isPat_nl h
      have key : ∀ a, a ≤ w.length → Ev (fun k => impl_FindPattern.l0 k w p (w.length : Int) (a : Int)) (fres (fFrom w p a)) := by
        refine down w.length ?_ ?_
        · refine Ev.step (fun k => by simp only [impl_FindPattern.l0]; rw [_root_.if_neg (by omega)]) ?_
          rw [fFrom_end _ _ _ (Nat.le_refl _)]; exact Ev.some _
        · intro a ha ih
          refine Ev.step (fun k => by simp only [impl_FindPattern.l0]; rw [_root_.if_pos (by omega), wsucc (i := a) (by omega)]) ?_
          rw [fFrom_step _ _ _ ha]
          refine Ev.bind (implML_step w p a (by omega) (by omega) hp h (nl p - 1) [] (by simp only [List.length_nil]; omega)) ?_
          cases srch (w.length - a) (FA w p a) (nl p - 1) [] 1 with
          | none => exact Ev.if_neg (by simp [mres]) ih
          | some L => exact Ev.if_pos rfl (Ev.some _)
      refine Ev.step (fun k => by simp only [impl_FindPattern.j0]; rw [_root_.if_neg (by simp)]) ?_
      exact key 0 (by omega)
    · rw [_root_.if_neg (fun q => h2 q.2), decide_eq_true (by omega)]; exact bad _ rfl
  · rw [_root_.if_neg (fun q => h q.1)]
    exact Ev.if_neg h (bad _ rfl)
theorem implAvoids_ev (w p : List Int) (hw : w.length ≤ 1048576) (hp : p.length ≤ 1048576) : Ev (fun k => impl_AvoidsPattern.f k w p) (decide (isPat p = true ∧ w.length ≤ 24 ∧ fnd w p = none)) := by
  unfold impl_AvoidsPattern.f
  refine Ev.bind (implIsPattern_ev p hp) ?_
  refine Ev.ite (fun h => ?_) (fun h => ?_)
  · refine Ev.ite (fun h2 => ?_) (fun h2 => ?_)
    · rw [decide_eq_false (by omega)]; exact Ev.some _
    · refine Ev.bind (implFind_ev w p hw hp) (Ev.same (Ev.some _) ?_)
      cases q : fnd w p with
      | none => rw [decide_eq_true ⟨h, by omega, rfl⟩]; rfl
      | some x => rw [decide_eq_false (by simp)]; obtain ⟨i, L⟩ := x; rfl
  · rw [decide_eq_false (fun q => h q.1)]; exact Ev.some _

theorem tot_mem (L p : List Int) (x : Int) (hx : x ∈ p) : (L.getD x.toNat 0).toNat ≤ tot L p := by
  induction p with
  | nil => cases hx
  | cons y p ih =>
    simp only [tot]
    rcases List.mem_cons.1 hx with rfl | hx
    · omega
    · have := ih hx; omega
theorem mAt_small {w p : List Int} {at_ : Nat} {L : List Int} (h : mAt w p at_ L = true) : ∀ y ∈ L, y ≤ ((w.length - at_ : Nat) : Int) := by
  obtain ⟨h1, h2⟩ := mAt_len h
  obtain ⟨h3, h4, h5, h6⟩ := okL_at h1
  intro y hy
  obtain ⟨j, hj, rfl⟩ := List.getElem_of_mem hy
  have hm := (ngo_mem p 0 _ (isPat_nl h3).1).2 j (by omega) (by omega)
  have := tot_mem L p _ hm
  rw [Int.toNat_natCast, List.getD_eq_getElem?_getD, List.getElem?_eq_getElem hj, Option.getD_some] at this
  omega
/-- The reference tries all lengths up to the word's own. -/
theorem srch_all (w p : List Int) (at_ : Nat) (d : Nat) (pre : List Int) (a : Nat) : srch w.length (FA w p at_) d pre a = srch (w.length - at_) (FA w p at_) d pre a := by
  refine srch_cut _ _ (by omega) _ (fun L ⟨y, hy, hlt⟩ => ?_) d pre a
  unfold FA
  refine _root_.if_neg (fun h => ?_)
  have := mAt_small h y hy
  omega
end Go.Proofs.Ythkkpdgadfhijaa.M
/- Walks for this claim, written by a program of mine over the kit's print. No condition of mine. -/
namespace Go.Proofs.Ythkkpdgadfhijaa.M
open Go.RowKit Go.Proofs.Ythkkpdgadfhijaa.KW Go.Proofs.YthkkpdgadfhijaaW.PrintWords Go.Proofs.YthkkpdgadfhijaaW.PrintLast Go.Proofs.YthkkpdgadfhijaaW.PrintMore
attribute [local go_sem] max2_int min2_int max_two min_two max_three min_three max_four min_four   -- for this text's walks alone
set_option linter.unusedVariables false
set_option linter.unusedSimpArgs false

/-! ### spec_FindPattern: function 61 -/
mutual
def spec_FindPattern.j0 : Nat → List Int → List Int → Bool → Option (Int × List Int × Bool)
 | 0, _, _, _ => none
 | k + 1, x0, x1, x17 => if x17 = true then (some (0, ([] : List Int), false)) else ((spec_l28Letters.f k x1).bind fun t905 => (spec_FindPattern.l0 k x0 x1 t905 0))
def spec_FindPattern.l0 : Nat → List Int → List Int → Int → Int → Option (Int × List Int × Bool)
 | 0, _, _, _, _ => none
 | k + 1, x0, x1, x6, x7 => if x7 < (x0.length : Int) then (spec_FindPattern.l1 k x0 x1 x6 x7 (([1, 1, 1] : List Int))) else (some (0, ([] : List Int), false))
def spec_FindPattern.l1 : Nat → List Int → List Int → Int → Int → List Int → Option (Int × List Int × Bool)
 | 0, _, _, _, _, _ => none
 | k + 1, x0, x1, x6, x7, x8 => if 0 < (x8.length : Int) then (if (rd x8 0) ≤ (x0.length : Int) then (if 0 ≤ x6 then (if x6 ≤ (x8.length : Int) then ((spec_MatchAt.f k x0 x1 x7 (x8.take (x6 : Int).toNat)).bind fun t914 => (if t914 = true then ((some (([] : List Int) : List Int)).bind fun y915 => ((some (x8.take (x6 : Int).toNat : List Int)).bind fun y918 => (if y915.length + y918.length < 17592186044416 then (some (x7, (y915 ++ y918), true)) else (none)))) else (if 0 ≤ (wrap64 (x6 - 1)) then (if (wrap64 (x6 - 1)) < (x8.length : Int) then (spec_FindPattern.l2 k x0 x1 x6 x7 (x8.set ((wrap64 (x6 - 1)) : Int).toNat (wrap64 ((rd x8 (wrap64 (x6 - 1))) + 1))) (wrap64 (x6 - 1))) else (none)) else (none)))) else (none)) else (none)) else (spec_FindPattern.l0 k x0 x1 x6 (wrap64 (x7 + 1)))) else (none)
def spec_FindPattern.l2 : Nat → List Int → List Int → Int → Int → List Int → Int → Option (Int × List Int × Bool)
 | 0, _, _, _, _, _, _ => none
 | k + 1, x0, x1, x6, x7, x8, x9 => if x9 > 0 then (if 0 ≤ x9 then (if x9 < (x8.length : Int) then (if (rd x8 x9) > (x0.length : Int) then ((some (x8.set (x9 : Int).toNat 1 : List Int)).bind fun y928 => (if 0 ≤ (wrap64 (x9 - 1)) then (if (wrap64 (x9 - 1)) < (x8.length : Int) then (spec_FindPattern.l2 k x0 x1 x6 x7 (y928.set ((wrap64 (x9 - 1)) : Int).toNat (wrap64 ((rd y928 (wrap64 (x9 - 1))) + 1))) (wrap64 (x9 - 1))) else (none)) else (none))) else (spec_FindPattern.l1 k x0 x1 x6 x7 x8)) else (none)) else (none)) else (spec_FindPattern.l1 k x0 x1 x6 x7 x8)
end
def spec_FindPattern.f (k : Nat) (l0 : List Int) (l1 : List Int) : Option (Int × List Int × Bool) := (spec_IsPattern.f k l1).bind fun t904 => (if t904 = true then (spec_FindPattern.j0 k l0 l1 (decide ((l0.length : Int) > 24))) else (spec_FindPattern.j0 k l0 l1 true))
theorem spec_FindPattern.mono_l : ∀ k, (∀ y0 y1 y2, LeO (spec_FindPattern.j0 k y0 y1 y2) (spec_FindPattern.j0 (k + 1) y0 y1 y2)) ∧ (∀ y0 y1 y2 y3, LeO (spec_FindPattern.l0 k y0 y1 y2 y3) (spec_FindPattern.l0 (k + 1) y0 y1 y2 y3)) ∧ (∀ y0 y1 y2 y3 y4, LeO (spec_FindPattern.l1 k y0 y1 y2 y3 y4) (spec_FindPattern.l1 (k + 1) y0 y1 y2 y3 y4)) ∧ (∀ y0 y1 y2 y3 y4 y5, LeO (spec_FindPattern.l2 k y0 y1 y2 y3 y4 y5) (spec_FindPattern.l2 (k + 1) y0 y1 y2 y3 y4 y5))
 | 0 => ⟨fun _ _ _ r h => by simp [spec_FindPattern.j0] at h, fun _ _ _ _ r h => by simp [spec_FindPattern.l0] at h, fun _ _ _ _ _ r h => by simp [spec_FindPattern.l1] at h, fun _ _ _ _ _ _ r h => by simp [spec_FindPattern.l2] at h⟩
 | k + 1 => by
  obtain ⟨ih0, ih1, ih2, ih3⟩ := spec_FindPattern.mono_l k
  refine ⟨?_, ?_, ?_, ?_⟩
  ·intro y0 y1 y2
   unfold spec_FindPattern.j0
   repeat' first
   | (with_reducible exact ih0 _ _ _)
   | (with_reducible exact ih1 _ _ _ _)
   | (with_reducible exact ih2 _ _ _ _ _)
   | (with_reducible exact ih3 _ _ _ _ _ _)
   | (with_reducible exact spec_IsPattern.mono _ _)
   | (with_reducible exact spec_MatchAt.mono _ _ _ _ _)
   | (with_reducible exact spec_l28Letters.mono _ _)
   | (with_reducible exact LeO.refl _)
   | (with_reducible exact LeO.none _)
   | (with_reducible refine LeO.ite ?_ ?_)
   | (with_reducible refine LeO.bind ?_ (fun _ => ?_))
   | exact ih0 _ _ _
   | exact ih1 _ _ _ _
   | exact ih2 _ _ _ _ _
   | exact ih3 _ _ _ _ _ _
   | exact spec_IsPattern.mono _ _
   | exact spec_MatchAt.mono _ _ _ _ _
   | exact spec_l28Letters.mono _ _
   | exact LeO.none _
   | refine LeO.ite ?_ ?_
   | refine LeO.bind ?_ (fun _ => ?_)
  ·intro y0 y1 y2 y3
   unfold spec_FindPattern.l0
   repeat' first
   | (with_reducible exact ih0 _ _ _)
   | (with_reducible exact ih1 _ _ _ _)
   | (with_reducible exact ih2 _ _ _ _ _)
   | (with_reducible exact ih3 _ _ _ _ _ _)
   | (with_reducible exact spec_IsPattern.mono _ _)
   | (with_reducible exact spec_MatchAt.mono _ _ _ _ _)
   | (with_reducible exact spec_l28Letters.mono _ _)
   | (with_reducible exact LeO.refl _)
   | (with_reducible exact LeO.none _)
   | (with_reducible refine LeO.ite ?_ ?_)
   | (with_reducible refine LeO.bind ?_ (fun _ => ?_))
   | exact ih0 _ _ _
   | exact ih1 _ _ _ _
   | exact ih2 _ _ _ _ _
   | exact ih3 _ _ _ _ _ _
   | exact spec_IsPattern.mono _ _
   | exact spec_MatchAt.mono _ _ _ _ _
   | exact spec_l28Letters.mono _ _
   | exact LeO.none _
   | refine LeO.ite ?_ ?_
   | refine LeO.bind ?_ (fun _ => ?_)
  ·intro y0 y1 y2 y3 y4
   unfold spec_FindPattern.l1
   repeat' first
   | (with_reducible exact ih0 _ _ _)
   | (with_reducible exact ih1 _ _ _ _)
   | (with_reducible exact ih2 _ _ _ _ _)
   | (with_reducible exact ih3 _ _ _ _ _ _)
   | (with_reducible exact spec_IsPattern.mono _ _)
   | (with_reducible exact spec_MatchAt.mono _ _ _ _ _)
   | (with_reducible exact spec_l28Letters.mono _ _)
   | (with_reducible exact LeO.refl _)
   | (with_reducible exact LeO.none _)
   | (with_reducible refine LeO.ite ?_ ?_)
   | (with_reducible refine LeO.bind ?_ (fun _ => ?_))
   | exact ih0 _ _ _
   | exact ih1 _ _ _ _
   | exact ih2 _ _ _ _ _
   | exact ih3 _ _ _ _ _ _
   | exact spec_IsPattern.mono _ _
   | exact spec_MatchAt.mono _ _ _ _ _
   | exact spec_l28Letters.mono _ _
   | exact LeO.none _
   | refine LeO.ite ?_ ?_
   | refine LeO.bind ?_ (fun _ => ?_)
  ·intro y0 y1 y2 y3 y4 y5
   unfold spec_FindPattern.l2
   repeat' first
   | (with_reducible exact ih0 _ _ _)
   | (with_reducible exact ih1 _ _ _ _)
   | (with_reducible exact ih2 _ _ _ _ _)
   | (with_reducible exact ih3 _ _ _ _ _ _)
   | (with_reducible exact spec_IsPattern.mono _ _)
   | (with_reducible exact spec_MatchAt.mono _ _ _ _ _)
   | (with_reducible exact spec_l28Letters.mono _ _)
   | (with_reducible exact LeO.refl _)
   | (with_reducible exact LeO.none _)
   | (with_reducible refine LeO.ite ?_ ?_)
   | (with_reducible refine LeO.bind ?_ (fun _ => ?_))
   | exact ih0 _ _ _
   | exact ih1 _ _ _ _
   | exact ih2 _ _ _ _ _
   | exact ih3 _ _ _ _ _ _
   | exact spec_IsPattern.mono _ _
   | exact spec_MatchAt.mono _ _ _ _ _
   | exact spec_l28Letters.mono _ _
   | exact LeO.none _
   | refine LeO.ite ?_ ?_
   | refine LeO.bind ?_ (fun _ => ?_)
theorem spec_FindPattern.mono : ∀ a0 a1 k, LeO (spec_FindPattern.f k a0 a1) (spec_FindPattern.f (k + 1) a0 a1) := by
 intro a0 a1 k
 obtain ⟨ih0, ih1, ih2, ih3⟩ := spec_FindPattern.mono_l k
 unfold spec_FindPattern.f
 repeat' first
   | (with_reducible exact ih0 _ _ _)
   | (with_reducible exact ih1 _ _ _ _)
   | (with_reducible exact ih2 _ _ _ _ _)
   | (with_reducible exact ih3 _ _ _ _ _ _)
   | (with_reducible exact spec_IsPattern.mono _ _)
   | (with_reducible exact spec_MatchAt.mono _ _ _ _ _)
   | (with_reducible exact spec_l28Letters.mono _ _)
   | (with_reducible exact LeO.refl _)
   | (with_reducible exact LeO.none _)
   | (with_reducible refine LeO.ite ?_ ?_)
   | (with_reducible refine LeO.bind ?_ (fun _ => ?_))
   | exact ih0 _ _ _
   | exact ih1 _ _ _ _
   | exact ih2 _ _ _ _ _
   | exact ih3 _ _ _ _ _ _
   | exact spec_IsPattern.mono _ _
   | exact spec_MatchAt.mono _ _ _ _ _
   | exact spec_l28Letters.mono _ _
   | exact LeO.none _
   | refine LeO.ite ?_ ?_
   | refine LeO.bind ?_ (fun _ => ?_)
set_option maxHeartbeats 8000000 in
set_option maxRecDepth 100000 in
theorem spec_FindPattern.calls (k : Nat) (A0 : Option Addr) (c0 : Nat) (l0 : List Int) (A1 : Option Addr) (c1 : Nat) (l1 : List Int) (r1 : Int) (r2 : List Int) (r3 : Bool) (w : World) (hr0 : Kd.C (Kd.int .i64) w A0 l0.length l0) (hc0 : l0.length ≤ c0) (hr1 : Kd.C (Kd.int .i64) w A1 l1.length l1) (hc1 : l1.length ≤ c1) (h : spec_FindPattern.f k l0 l1 = some (r1, r2, r3)) :
  Calls Try.prog 61 #[.slice A0 l0.length c0, .slice A1 l1.length c1] w fun e w' => ∃ v1_ : Value, e = .returned (.tuple #[.agg #[.int .i64 r1, v1_], .bool r3]) ∧ Kd.R (Kd.int .i64) 3 w' w.heap.size (fun _ => True) v1_ r2 ∧ Below w.heap.size w w' := by
 have hu75 := Try.underlying75
 have HR0 := Aside0.mk hr0
 have HC0 := Aside0.mk hc0
 clear hr0 hc0
 have HR1 := Aside0.mk hr1
 have HC1 := Aside0.mk hc1
 clear hr1 hc1
 have HB := Aside0.mk (Below.refl w.heap.size w)
 have H : ((spec_IsPattern.f k l1).bind fun t904 => (if t904 = true then (spec_FindPattern.j0 k l0 l1 (decide ((l0.length : Int) > 24))) else (spec_FindPattern.j0 k l0 l1 true))) = some (r1, r2, r3) := h
 clear h
 have HC3 := Aside0.mk H
 clear H
 go_enter Try.func61, Try.ntmps61
 go_upto_region 1 with (first | ((with_reducible refine gate_dst (N := 4) rfl ?_); (try (refine gate_guard (by rfl) ?_; dsimp only)); refine box_event ?hg (N := 4) ?hd (cs := #[.int .i64 0, .slice none 0 0]) (t := 75) ?hr ?_; (case hd => rfl); (case hg => rfl); (case hr => first | (go_simp; done) | (go_simp; rfl)); intro gb903 hg w4 hbox hb; have n0_ := Aside0.mk (below_step (by repeat (first | (with_reducible first | exact HB.out | apply below_alloc | apply pw_below_drewN | apply below_drew1) | exact HB.out)) hb); have n1_ := Aside0.mk (hbox); have n2_ := Aside0.mk ((by rw [hg]; exact (below_size (by repeat (first | (with_reducible first | exact HB.out | apply below_alloc | apply pw_below_drewN | apply below_drew1) | exact HB.out))) : w.heap.size ≤ gb903)); have n3_ := Aside0.mk ((by rw [hg]; exact (below_size (by repeat (first | (with_reducible first | exact HB.out | apply below_alloc | apply pw_below_drewN | apply below_drew1) | exact HB.out))) : w.heap.size ≤ gb903)); clear HB; have HB := n0_; have BK903 := n1_; have GW903 := n2_; have GE903 := n3_; clear n0_ n1_ n2_ n3_; clear hb hbox hg))
 (try simp only [Act.put, List.setIfInBounds_toArray, List.set_cons_zero, List.set_cons_succ])
 go_cut [17] (fun v17 wc => ∃ (kq : Nat) (x17_2 : Bool), v17 = .bool x17_2 ∧ Aside0 (spec_FindPattern.j0 kq l0 l1 x17_2 = some (r1, r2, r3)) ∧ Aside0 (kq ≤ k) ∧ Aside0 (wc.heap[gb903]? = some (.cells #[.int .i64 0, (.slice none 0 0)] 75 (0, 0))) ∧ Aside0 (Below w.heap.size w wc))
 case first =>
  have H := HC3.out
  clear HC3
  replace H := Option.bind_eq_some_iff.mp H
  obtain ⟨t904, A50, H⟩ := H
  replace H : (if t904 = true then (spec_FindPattern.j0 k l0 l1 (decide ((l0.length : Int) > 24))) else (spec_FindPattern.j0 k l0 l1 true)) = some (r1, r2, r3) := H
  have A5 := Aside0.mk A50
  clear A50
  by_cases c6 : t904 = true
  ·subst c6
   have H1 : (spec_FindPattern.j0 k l0 l1 (decide ((l0.length : Int) > 24))) = some (r1, r2, r3) := by rw [if_pos rfl] at H; exact H
   clear H
   have H := H1
   clear H1
   have H' := Aside0.mk H
   clear H
   go_wp2_with (first | ((with_reducible refine gate_callee (f := 63) rfl ?_); refine goesL_ (some 11) rfl rfl Try.func63 (by kernel_rfl) rfl #[.slice A1 l1.length c1] rfl (by (try simp only [List.map_toArray, List.map_cons, List.map_nil]); first | done | rfl | (simp only [List.length_drop, List.length_take]; rfl)) ?_; (with_reducible refine (spec_IsPattern.calls k _ _ l1 true _ ?side1 ?side2 A5.out).mono ?_); (case side1 => repeat (first | exact (Kd.C_below HR1.out HB.out) | (with_reducible refine Kd.C_alloc ?_ _) | (with_reducible refine Kd.C_drewN ?_ _) | (with_reducible refine Kd.C_drew ?_))); (case side2 => exact HC1.out); rintro e w' ⟨rfl, ⟨nd, rfl⟩⟩; refine ⟨_, rfl, ?_⟩))
   go_meet
   case rel => exact ⟨_, (decide ((l0.length : Int) > 24)), (by first | rfl | (simp; done) | (simp [*]; done)), H', ⟨by first | omega | exact Nat.le_refl _⟩, ⟨by (with_reducible repeat (first | refine blk_drewN ?_ _ | refine blk_drew ?_ | refine blk_alloc ?_ _)); exact BK903.out⟩, ⟨by repeat (first | (with_reducible first | exact HB.out | apply below_alloc | apply pw_below_drewN | apply below_drew1 | refine below_set ?_ GE903.out) | exact HB.out)⟩⟩
  ·replace c6 := Bool.eq_false_iff.mpr c6
   subst c6
   have H1 : (spec_FindPattern.j0 k l0 l1 true) = some (r1, r2, r3) := by rw [if_neg (show ¬ (false = true) by decide)] at H; exact H
   clear H
   have H := H1
   clear H1
   have H' := Aside0.mk H
   clear H
   go_wp2_with (first | ((with_reducible refine gate_callee (f := 63) rfl ?_); refine goesL_ (some 11) rfl rfl Try.func63 (by kernel_rfl) rfl #[.slice A1 l1.length c1] rfl (by (try simp only [List.map_toArray, List.map_cons, List.map_nil]); first | done | rfl | (simp only [List.length_drop, List.length_take]; rfl)) ?_; (with_reducible refine (spec_IsPattern.calls k _ _ l1 false _ ?side1 ?side2 A5.out).mono ?_); (case side1 => repeat (first | exact (Kd.C_below HR1.out HB.out) | (with_reducible refine Kd.C_alloc ?_ _) | (with_reducible refine Kd.C_drewN ?_ _) | (with_reducible refine Kd.C_drew ?_))); (case side2 => exact HC1.out); rintro e w' ⟨rfl, ⟨nd, rfl⟩⟩; refine ⟨_, rfl, ?_⟩))
   go_meet
   case rel => exact ⟨_, (true), (by first | rfl | (simp; done) | (simp [*]; done)), H', ⟨by first | omega | exact Nat.le_refl _⟩, ⟨by (with_reducible repeat (first | refine blk_drewN ?_ _ | refine blk_drew ?_ | refine blk_alloc ?_ _)); exact BK903.out⟩, ⟨by repeat (first | (with_reducible first | exact HB.out | apply below_alloc | apply pw_below_drewN | apply below_drew1 | refine below_set ?_ GE903.out) | exact HB.out)⟩⟩
 case rest =>
  clear HC3
  try clear c1
  try clear p2
  try clear c6
  obtain ⟨kq, x17_2, rfl, HA, HJ2, BK903, HB⟩ := hcut
  cases kq with
  | zero => exact absurd HA.out (by simp [spec_FindPattern.j0])
  | succ kj2 =>
   have H := HA.out
   clear HA
   simp only [spec_FindPattern.j0] at H
   by_cases c7 : x17_2 = true
   ·subst c7
    have H1 : (some (0, ([] : List Int), false)) = some (r1, r2, r3) := by rw [if_pos rfl] at H; exact H
    clear H
    have H := H1
    clear H1
    simp only [Option.some.injEq, Prod.mk.injEq] at H
    obtain ⟨rfl, rfl, rfl⟩ := H
    have hcz8_0 : wc.cell? ⟨gb903, 0, none⟩ = some (.int .i64 0) := (blk_cell BK903.out 0).trans rfl
    have hcz8_1 : wc.cell? ⟨gb903, 1, none⟩ = some (.slice none 0 0) := (blk_cell BK903.out 1).trans rfl
    have hfz8_0 := blk_frozen BK903.out 0
    have hfz8_1 := blk_frozen BK903.out 1
    go_wp2
    refine bodyPost_ret (results_ct rfl _ _ gb903 75 #[.int .i64 0, .slice none 0 0] (0, 0) _ rfl (by (with_reducible repeat (first | refine blk_drewN ?_ _ | refine blk_drew ?_ | refine blk_alloc ?_ _)); refine blk_put (cs := #[.int .i64 0, .slice none 0 0]) ?_ 1 _ rfl; (with_reducible repeat (first | refine blk_drewN ?_ _ | refine blk_drew ?_ | refine blk_alloc ?_ _)); refine blk_put (cs := #[.int .i64 0, .slice none 0 0]) ?_ 0 _ rfl; (with_reducible repeat (first | refine blk_drewN ?_ _ | refine blk_drew ?_ | refine blk_alloc ?_ _)); exact BK903.out) Try.underlying75 rfl (by kernel_rfl)) rfl ?_
    exact ⟨_, by first | rfl | (simp [errW_none, errW_some] <;> rfl) | (simp [*, errW_none, errW_some] <;> rfl), by first | exact Kd.R_nil _ _ _ _ _ | exact Kd.N_nil _ _ _ _ _ | exact Kd.V_nil _ _ _ _ _ | exact Kd.Q_nil _ _ _ _ _ | exact Kd.S_nil _ _ _ _ _, by repeat (first | (with_reducible first | exact HB.out | apply below_alloc | apply pw_below_drewN | apply below_drew1 | refine below_set ?_ GE903.out) | exact HB.out)⟩
   ·replace c7 := Bool.eq_false_iff.mpr c7
    subst c7
    have H1 : ((spec_l28Letters.f kj2 l1).bind fun t905 => (spec_FindPattern.l0 kj2 l0 l1 t905 0)) = some (r1, r2, r3) := by rw [if_neg (show ¬ (false = true) by decide)] at H; exact H
    clear H
    have H := H1
    clear H1
    replace H := Option.bind_eq_some_iff.mp H
    obtain ⟨t905, A90, H⟩ := H
    replace H : (spec_FindPattern.l0 kj2 l0 l1 t905 0) = some (r1, r2, r3) := H
    have A9 := Aside0.mk A90
    clear A90
    have H' := Aside0.mk H
    clear H
    go_wp2_with (first | ((with_reducible refine gate_callee (f := 120) rfl ?_); refine goesL_ (some 20) rfl rfl Try.func120 (by kernel_rfl) rfl #[.slice A1 l1.length c1] rfl (by (try simp only [List.map_toArray, List.map_cons, List.map_nil]); first | done | rfl | (simp only [List.length_drop, List.length_take]; rfl)) ?_; (with_reducible refine (spec_l28Letters.calls kj2 _ _ l1 t905 _ ?side1 ?side2 A9.out).mono ?_); (case side1 => repeat (first | exact (Kd.C_below HR1.out HB.out) | (with_reducible refine Kd.C_alloc ?_ _) | (with_reducible refine Kd.C_drewN ?_ _) | (with_reducible refine Kd.C_drew ?_))); (case side2 => exact HC1.out); rintro e w10 ⟨rfl, hb⟩; refine ⟨_, rfl, ?_⟩; have n0_ := Aside0.mk (blk_below (g := gb903) (o := .cells #[.int .i64 0, .slice none 0 0] 75 (0, 0)) (by (with_reducible repeat (first | refine blk_drewN ?_ _ | refine blk_drew ?_ | refine blk_alloc ?_ _)); exact BK903.out) hb); have n1_ := Aside0.mk (below_step (by repeat (first | (with_reducible first | exact HB.out | apply below_alloc | apply pw_below_drewN | apply below_drew1 | refine below_set ?_ GE903.out) | exact HB.out)) hb); clear BK903; clear HB; have BK903 := n0_; have HB := n1_; clear n0_ n1_; (try clear hb); (try clear hb2); (try clear hk); (try clear hi)))
    go_loopg [7] kj2 (fun kq v7 w' => ∃ (x7_2 : Int) (x904000_2 : Int), v7 = .int .i64 x7_2 ∧ Aside0 (spec_FindPattern.l0 kq l0 l1 t905 x7_2 = some (r1, r2, r3)) ∧ Aside0 (kq ≤ kj2) ∧ Aside0 (w'.heap[gb903]? = some (.cells #[.int .i64 x904000_2, (.slice none 0 0)] 75 (0, 0))) ∧ Aside0 (Below w.heap.size w w'))
    case atStart => exact ⟨(0), (0), (by first | rfl | (simp; done) | (simp [*]; done)), H', ⟨Nat.le_refl _⟩, ⟨by (with_reducible repeat (first | refine blk_drewN ?_ _ | refine blk_drew ?_ | refine blk_alloc ?_ _)); exact BK903.out⟩, ⟨by repeat (first | (with_reducible first | exact HB.out | apply below_alloc | apply pw_below_drewN | apply below_drew1 | refine below_set ?_ GE903.out) | exact HB.out)⟩⟩
    case round =>
     clear H'
     try clear c1
     try clear p2
     try clear c6
     try clear c7
     try clear hcz8_0
     try clear hcz8_1
     try clear hfz8_0
     try clear hfz8_1
     try clear p2
     obtain ⟨x7_2, x904000_2, rfl, HA, HK2, BK903, HB⟩ := hrel
     cases gk with
     | zero => exact absurd HA.out (by simp [spec_FindPattern.l0])
     | succ k2 =>
      have H := HA.out
      clear HA
      simp only [spec_FindPattern.l0] at H
      by_cases c11 : x7_2 < (l0.length : Int)
      ·rw [if_pos c11] at H
       have c11b0 : decide (x7_2 < (l0.length : Int)) = true := decide_eq_true c11
       clear c11
       obtain ⟨y906, hy906⟩ : ∃ y_ : List Int, y_ = (([1, 1, 1] : List Int)) := ⟨_, rfl⟩
       replace H : (spec_FindPattern.l1 k2 l0 l1 t905 x7_2 y906) = some (r1, r2, r3) := by first | (rw [hy906]; with_reducible exact H) | (have H2_ := (Option.bind_some _ _).symm.trans H; rw [hy906]; with_reducible exact H2_) | (have H2_ := (Option.bind_some _ _).symm.trans H; with_reducible exact H2_) | with_reducible exact H | (rw [hy906]; exact H) | exact H
       have Ny906 := Aside0.mk hy906
       clear hy906
       have H' := Aside0.mk H
       clear H
       go_wp2_with (first | ((with_reducible refine gate_dst (N := 27) rfl ?_); (try (refine gate_guard (by rfl) ?_; dsimp only)); refine Kd.R_lit (Kd.int .i64) _ 3 ?hg (N := 27) ?hd (xs := ([1, 1, 1] : List Int)) (inner := [.int .i64 1, .int .i64 1, .int .i64 1]) (ok := fun _ => True) (okp := fun _ => True) ?hr ?hp (fun _ hk => hk) trivial (Below.refl _ _) (Nat.le_refl _) (by simp) ?_; (case hd => rfl); (case hg => rfl); (case hr => first | (go_simp; done) | (go_simp; rfl)); (case hp => exact (Reps.one (show Kd.M (Kd.int .i64) _ _ _ 1 [.int .i64 1] from rfl) (Reps.one (show Kd.M (Kd.int .i64) _ _ _ 1 [.int .i64 1] from rfl) (Reps.one (show Kd.M (Kd.int .i64) _ _ _ 1 [.int .i64 1] from rfl) (Reps.none _ _))))); intro v907 w12 ho13 hb hg_ hnew_; clear hg_ hnew_; (first | rw [← Ny906.out] at ho13 | (simp only [Int.reduceToNat] at ho13; rw [← Ny906.out] at ho13)); have n0_ := Aside0.mk (Kd.R_lower ho13 (below_size (by repeat (first | (with_reducible first | exact HB.out | apply below_alloc | apply pw_below_drewN | apply below_drew1 | refine below_set ?_ GE903.out) | exact HB.out)))); have n1_ := Aside0.mk (blk_below (g := gb903) (o := .cells #[.int .i64 x904000_2, .slice none 0 0] 75 (0, 0)) (by (with_reducible repeat (first | refine blk_drewN ?_ _ | refine blk_drew ?_ | refine blk_alloc ?_ _)); exact BK903.out) hb); have n2_ := Aside0.mk (below_step (by repeat (first | (with_reducible first | exact HB.out | apply below_alloc | apply pw_below_drewN | apply below_drew1 | refine below_set ?_ GE903.out) | exact HB.out)) hb); clear BK903; clear HB; have HO908 := n0_; have BK903 := n1_; have HB := n2_; clear n0_ n1_ n2_; clear hb ho13))
       go_loopg [] k2 (fun kq w' => ∃ (x8_3 : List Int) (x904000_3 : Int), Aside0 (spec_FindPattern.l1 kq l0 l1 t905 x7_2 x8_3 = some (r1, r2, r3)) ∧ Aside0 (kq ≤ k2) ∧ Aside0 (Kd.R (Kd.int .i64) 3 w' w.heap.size (fun _ => True) v907 x8_3) ∧ Aside0 (w'.heap[gb903]? = some (.cells #[.int .i64 x904000_3, (.slice none 0 0)] 75 (0, 0))) ∧ Aside0 (Below w.heap.size w w'))
       case atStart => exact ⟨(y906), (x904000_2), H', ⟨Nat.le_refl _⟩, ⟨by (with_reducible repeat (first | apply Kd.R_alloc | apply Kd.R_drewN | apply Kd.R_drew)); exact HO908.out⟩, ⟨by (with_reducible repeat (first | refine blk_drewN ?_ _ | refine blk_drew ?_ | refine blk_alloc ?_ _)); exact BK903.out⟩, ⟨by repeat (first | (with_reducible first | exact HB.out | apply below_alloc | apply pw_below_drewN | apply below_drew1 | refine below_set ?_ GE903.out) | exact HB.out)⟩⟩
       case round =>
        clear H'
        try clear c1
        try clear p2
        try clear c6
        try clear c7
        try clear c11
        try clear c11b0
        try clear c12
        try clear hcz8_0
        try clear hcz8_1
        try clear hfz8_0
        try clear hfz8_1
        try clear p2
        obtain ⟨x8_3, x904000_3, HA, HK3, HO_8, BK903, HB⟩ := hrel
        cases gk with
        | zero => exact absurd HA.out (by simp [spec_FindPattern.l1])
        | succ k3 =>
         have H := HA.out
         clear HA
         simp only [spec_FindPattern.l1] at H
         by_cases c14 : 0 < (x8_3.length : Int)
         ·rw [if_pos c14] at H
          have c14b0 : decide (0 < (x8_3.length : Int)) = true := decide_eq_true c14
          have c14b1 : decide (0 < x8_3.length) = true := decide_eq_true (by omega)
          clear c14
          by_cases c15 : (rd x8_3 0) ≤ (l0.length : Int)
          ·rw [if_pos c15] at H
           have c15b0 : decide ((rd x8_3 0) ≤ (l0.length : Int)) = true := decide_eq_true c15
           clear c15
           by_cases c16 : 0 ≤ t905
           ·rw [if_pos c16] at H
            have c16b0 := eq_true c16
            have c16b1 : decide (0 ≤ t905) = true := decide_eq_true c16
            clear c16
            by_cases c17 : t905 ≤ (x8_3.length : Int)
            ·rw [if_pos c17] at H
             have c17b0 := eq_true c17
             have c17b1 : decide (t905 ≤ (x8_3.length : Int)) = true := decide_eq_true c17
             clear c17
             obtain ⟨y910, hy910⟩ : ∃ y_ : List Int, y_ = (x8_3.take (t905 : Int).toNat) := ⟨_, rfl⟩
             replace H : ((spec_MatchAt.f k3 l0 l1 x7_2 y910).bind fun t914 => (if t914 = true then ((some (([] : List Int) : List Int)).bind fun y915 => ((some (x8_3.take (t905 : Int).toNat : List Int)).bind fun y918 => (if y915.length + y918.length < 17592186044416 then (some (x7_2, (y915 ++ y918), true)) else (none)))) else (if 0 ≤ (wrap64 (t905 - 1)) then (if (wrap64 (t905 - 1)) < (x8_3.length : Int) then (spec_FindPattern.l2 k3 l0 l1 t905 x7_2 (x8_3.set ((wrap64 (t905 - 1)) : Int).toNat (wrap64 ((rd x8_3 (wrap64 (t905 - 1))) + 1))) (wrap64 (t905 - 1))) else (none)) else (none)))) = some (r1, r2, r3) := by first | (rw [hy910]; with_reducible exact H) | (have H2_ := (Option.bind_some _ _).symm.trans H; rw [hy910]; with_reducible exact H2_) | (have H2_ := (Option.bind_some _ _).symm.trans H; with_reducible exact H2_) | with_reducible exact H | (rw [hy910]; exact H) | exact H
             have Ny910 := Aside0.mk hy910
             clear hy910
             replace H := Option.bind_eq_some_iff.mp H
             obtain ⟨t914, A180, H⟩ := H
             replace H : (if t914 = true then ((some (([] : List Int) : List Int)).bind fun y915 => ((some (x8_3.take (t905 : Int).toNat : List Int)).bind fun y918 => (if y915.length + y918.length < 17592186044416 then (some (x7_2, (y915 ++ y918), true)) else (none)))) else (if 0 ≤ (wrap64 (t905 - 1)) then (if (wrap64 (t905 - 1)) < (x8_3.length : Int) then (spec_FindPattern.l2 k3 l0 l1 t905 x7_2 (x8_3.set ((wrap64 (t905 - 1)) : Int).toNat (wrap64 ((rd x8_3 (wrap64 (t905 - 1))) + 1))) (wrap64 (t905 - 1))) else (none)) else (none))) = some (r1, r2, r3) := H
             have A18 := Aside0.mk A180
             clear A180
             by_cases c19 : t914 = true
             ·subst c19
              have H1 : ((some (([] : List Int) : List Int)).bind fun y915 => ((some (x8_3.take (t905 : Int).toNat : List Int)).bind fun y918 => (if y915.length + y918.length < 17592186044416 then (some (x7_2, (y915 ++ y918), true)) else (none)))) = some (r1, r2, r3) := by rw [if_pos rfl] at H; exact H
              clear H
              have H := H1
              clear H1
              obtain ⟨y915, hy915⟩ : ∃ y_ : List Int, y_ = (([] : List Int)) := ⟨_, rfl⟩
              replace H : ((some (x8_3.take (t905 : Int).toNat : List Int)).bind fun y918 => (if y915.length + y918.length < 17592186044416 then (some (x7_2, (y915 ++ y918), true)) else (none))) = some (r1, r2, r3) := by first | (rw [hy915]; with_reducible exact H) | (have H2_ := (Option.bind_some _ _).symm.trans H; rw [hy915]; with_reducible exact H2_) | (have H2_ := (Option.bind_some _ _).symm.trans H; with_reducible exact H2_) | with_reducible exact H | (rw [hy915]; exact H) | exact H
              have Ny915 := Aside0.mk hy915
              clear hy915
              have c20b0 := eq_true (of_decide_eq_true (by first | (with_reducible assumption) | assumption) : 0 ≤ t905)
              have c21b0 := eq_true (of_decide_eq_true (by first | (with_reducible assumption) | assumption) : t905 ≤ (x8_3.length : Int))
              obtain ⟨y918, hy918⟩ : ∃ y_ : List Int, y_ = (x8_3.take (t905 : Int).toNat) := ⟨_, rfl⟩
              replace H : (if y915.length + y918.length < 17592186044416 then (some (x7_2, (y915 ++ y918), true)) else (none)) = some (r1, r2, r3) := by first | (rw [hy918]; with_reducible exact H) | (have H2_ := (Option.bind_some _ _).symm.trans H; rw [hy918]; with_reducible exact H2_) | (have H2_ := (Option.bind_some _ _).symm.trans H; with_reducible exact H2_) | with_reducible exact H | (rw [hy918]; exact H) | exact H
              have Ny918 := Aside0.mk hy918
              clear hy918
              by_cases c22 : y915.length + y918.length < 17592186044416
              ·rw [if_pos c22] at H
               have LMc22 := Aside0.mk c22
               clear c22
               obtain ⟨y922, hy922⟩ : ∃ y_ : List Int, y_ = (y915 ++ y918) := ⟨_, rfl⟩
               replace H : (some (x7_2, y922, true)) = some (r1, r2, r3) := by first | (rw [hy922]; with_reducible exact H) | (have H2_ := (Option.bind_some _ _).symm.trans H; rw [hy922]; with_reducible exact H2_) | (have H2_ := (Option.bind_some _ _).symm.trans H; with_reducible exact H2_) | with_reducible exact H | (rw [hy922]; exact H) | exact H
               have Ny922 := Aside0.mk hy922
               clear hy922
               simp only [Option.some.injEq, Prod.mk.injEq] at H
               obtain ⟨rfl, rfl, rfl⟩ := H
               obtain ⟨Ao23, co23, eo23⟩ := Kd.R_slice HO_8.out
               subst eo23
               have p909 : 0 ≤ (0 : Int) := (by omega)
               have q909 : 0 < (x8_3.length : Int) := of_decide_eq_true (by first | (with_reducible assumption) | assumption)
               obtain ⟨ad909, e909, hx909_0⟩ := Kd.at_int (Kd.R_reads' HO_8.out).2.2 0 p909 q909
               cases e909
               have qi909 : (0 < x8_3.length) = True := eq_true (by omega)
               (try rw [show ((0 : Int)).toNat = 0 from rfl] at hx909_0)
               (try rw [Addr.add_zero'] at hx909_0)
               replace p909 := eq_true p909
               replace q909 := eq_true q909
               have q24 : (t905 : Int) ≤ ((x8_3.length : Int) : Int) := of_decide_eq_true (by first | (with_reducible assumption) | assumption)
               obtain ⟨i024, hi024, _, hsz24, _⟩ := info_parts info3
               have hroom24 : x8_3.length ≤ co23 := (Kd.R_reads' HO_8.out).2.1
               have hC24 : Kd.C (Kd.int .i64) _ (some ad909) x8_3.length x8_3 := (Kd.R_reads' HO_8.out).2.2
               have hcut24 := cut_to (P := Try.prog) 22 3 .i64 Try.underlying22 hi024 (some ad909) x8_3.length co23 t905 (of_decide_eq_true (by first | (with_reducible assumption) | assumption)) q24 hroom24
               have hr24 := Kd.C_take (m := (t905 : Int).toNat) hC24 (by omega)
               have hy24 : y910.length = (t905 : Int).toNat := (by rw [Ny910.out, List.length_take]; omega)
               rw [← Ny910.out] at hr24
               rw [← hy24] at hcut24
               have HR913 := Aside0.mk hr24
               have HC913 := Aside0.mk (show y910.length ≤ co23 from by omega)
               clear hr24 hC24 hroom24 hi024 hsz24
               have KY24 := Aside0.mk hy24
               clear hy24
               have KL24 := Aside0.mk (show (t905 : Int).toNat ≤ x8_3.length from by omega)
               replace q24 := eq_true q24
               go_wp2_with (first | ((with_reducible refine gate_callee (f := 71) rfl ?_); refine goesL_ (some 40) rfl rfl Try.func71 (by kernel_rfl) rfl #[.slice A0 l0.length c0, .slice A1 l1.length c1, .int .i64 x7_2, .slice (some ad909) y910.length co23] rfl (by (try simp only [List.map_toArray, List.map_cons, List.map_nil]); first | done | rfl | (simp only [List.length_drop, List.length_take]; rfl)) ?_; (with_reducible refine (spec_MatchAt.calls k3 _ _ l0 _ _ l1 x7_2 _ _ y910 true _ ?side1 ?side2 ?side3 ?side4 ?side5 ?side6 A18.out).mono ?_); (case side1 => repeat (first | exact (Kd.C_below HR0.out HB.out) | (with_reducible refine Kd.C_alloc ?_ _) | (with_reducible refine Kd.C_drewN ?_ _) | (with_reducible refine Kd.C_drew ?_))); (case side2 => exact HC0.out); (case side3 => repeat (first | exact (Kd.C_below HR1.out HB.out) | (with_reducible refine Kd.C_alloc ?_ _) | (with_reducible refine Kd.C_drewN ?_ _) | (with_reducible refine Kd.C_drew ?_))); (case side4 => exact HC1.out); (case side5 => repeat (first | exact (by repeat (first | (with_reducible exact HR913.out) | (with_reducible refine Kd.C_alloc ?_ _) | (with_reducible refine Kd.C_drewN ?_ _) | (with_reducible refine Kd.C_drew ?_) | exact HR913.out)) | (with_reducible refine Kd.C_alloc ?_ _) | (with_reducible refine Kd.C_drewN ?_ _) | (with_reducible refine Kd.C_drew ?_))); (case side6 => exact HC913.out); rintro e w25 ⟨rfl, hb⟩; refine ⟨_, rfl, ?_⟩; have n0_ := Aside0.mk (Kd.R_below (by (with_reducible repeat (first | apply Kd.R_alloc | apply Kd.R_drewN | apply Kd.R_drew)); exact HO_8.out) hb); have n1_ := Aside0.mk (blk_below (g := gb903) (o := .cells #[.int .i64 x904000_3, .slice none 0 0] 75 (0, 0)) (by (with_reducible repeat (first | refine blk_drewN ?_ _ | refine blk_drew ?_ | refine blk_alloc ?_ _)); exact BK903.out) hb); have n2_ := Aside0.mk (Kd.C_below (by repeat (first | (with_reducible exact HR913.out) | (with_reducible refine Kd.C_alloc ?_ _) | (with_reducible refine Kd.C_drewN ?_ _) | (with_reducible refine Kd.C_drew ?_) | exact HR913.out)) hb); have n3_ := Aside0.mk (below_step (by repeat (first | (with_reducible first | exact HB.out | apply below_alloc | apply pw_below_drewN | apply below_drew1 | refine below_set ?_ GE903.out) | exact HB.out)) hb); clear HO_8; clear BK903; clear HR913; clear HB; have HO_8 := n0_; have BK903 := n1_; have HR913 := n2_; have HB := n3_; clear n0_ n1_ n2_ n3_; (try clear hb); (try clear hb2); (try clear hk); (try clear hi)) | ((with_reducible refine gate_dst (N := 42) rfl ?_); (try (refine gate_guard (by rfl) ?_; dsimp only)); refine Kd.R_lit (Kd.int .i64) _ 3 ?hg (N := 42) ?hd (xs := ([] : List Int)) (inner := []) (ok := fun _ => True) (okp := fun _ => True) ?hr ?hp (fun _ hk => hk) trivial (Below.refl _ _) (Nat.le_refl _) (by simp) ?_; (case hd => rfl); (case hg => rfl); (case hr => first | (go_simp; done) | (go_simp; rfl)); (case hp => exact (Reps.none _ _)); intro v916 w26 ho27 hb hg_ hnew_; clear hg_ hnew_; (first | rw [← Ny915.out] at ho27 | (simp only [Int.reduceToNat] at ho27; rw [← Ny915.out] at ho27)); have n0_ := Aside0.mk (Kd.R_elder' (by (with_reducible repeat (first | apply Kd.R_alloc | apply Kd.R_drewN | apply Kd.R_drew)); exact HO_8.out) (Kd.R_base ho27) hb); have n1_ := Aside0.mk (Kd.R_lower (Kd.R_new' ho27 (Kd.R_lt (by (with_reducible repeat (first | apply Kd.R_alloc | apply Kd.R_drewN | apply Kd.R_drew)); exact HO_8.out))) (below_size (by repeat (first | (with_reducible first | exact HB.out | apply below_alloc | apply pw_below_drewN | apply below_drew1 | refine below_set ?_ GE903.out) | exact HB.out)))); have n2_ := Aside0.mk (blk_below (g := gb903) (o := .cells #[.int .i64 x904000_3, .slice none 0 0] 75 (0, 0)) (by (with_reducible repeat (first | refine blk_drewN ?_ _ | refine blk_drew ?_ | refine blk_alloc ?_ _)); exact BK903.out) hb); have n3_ := Aside0.mk (Kd.C_below (by repeat (first | (with_reducible exact HR913.out) | (with_reducible refine Kd.C_alloc ?_ _) | (with_reducible refine Kd.C_drewN ?_ _) | (with_reducible refine Kd.C_drew ?_) | exact HR913.out)) hb); have n4_ := Aside0.mk (below_step (by repeat (first | (with_reducible first | exact HB.out | apply below_alloc | apply pw_below_drewN | apply below_drew1 | refine below_set ?_ GE903.out) | exact HB.out)) hb); clear HO_8; clear BK903; clear HR913; clear HB; have HO_8 := n0_; have HO917 := n1_; have BK903 := n2_; have HR913 := n3_; have HB := n4_; clear n0_ n1_ n2_ n3_ n4_; clear hb ho27; have q28 : (t905 : Int) ≤ ((x8_3.length : Int) : Int) := of_decide_eq_true (by first | (with_reducible assumption) | assumption); obtain ⟨i028, hi028, _, hsz28, _⟩ := info_parts info3; have hroom28 : x8_3.length ≤ co23 := (Kd.R_reads' HO_8.out).2.1; have hC28 : Kd.C (Kd.int .i64) _ (some ad909) x8_3.length x8_3 := (Kd.R_reads' HO_8.out).2.2; (try clear hcut24); have hcut28 := cut_to (P := Try.prog) 22 3 .i64 Try.underlying22 hi028 (some ad909) x8_3.length co23 t905 (of_decide_eq_true (by first | (with_reducible assumption) | assumption)) q28 hroom28; have hr28 := Kd.C_take (m := (t905 : Int).toNat) hC28 (by omega); have hy28 : y918.length = (t905 : Int).toNat := (by rw [Ny918.out, List.length_take]; omega); rw [← Ny918.out] at hr28; rw [← hy28] at hcut28; have HR921 := Aside0.mk hr28; have HC921 := Aside0.mk (show y918.length ≤ co23 from by omega); clear hr28 hC28 hroom28 hi028 hsz28; have KY28 := Aside0.mk hy28; clear hy28; have KL28 := Aside0.mk (show (t905 : Int).toNat ≤ x8_3.length from by omega); replace q28 := eq_true q28) | ((with_reducible refine gate_builtin (b := .append) (xs := #[.tmp 42, .tmp 45]) rfl ?_); (try (refine gate_guard (by rfl) ?_; dsimp only)); at_builtin; refine Kd.R_append_rows (Kd.int .i64) (w0 := w) w.heap.size rfl (.tmp 42) (.tmp 45) 22 3 (.int .i64 0) 8 rfl Try.underlying22 info3 rfl (by decide) (by omega) v916 y915 y918 _ _ _ (fun k_ => some k_ ≠ (.slice (some ad909) x8_3.length co23 : Value).ownBlock) (fun _ => False) rfl rfl ?aO ?aR (fun _ _ h => h) (fun _ h => h.elim) ?aF ?aB ?aS ?aL ?_; (case aR => repeat (first | exact (by repeat (first | (with_reducible exact HR921.out) | (with_reducible refine Kd.C_alloc ?_ _) | (with_reducible refine Kd.C_drewN ?_ _) | (with_reducible refine Kd.C_drew ?_) | exact HR921.out)) | (with_reducible refine Kd.C_alloc ?_ _) | (with_reducible refine Kd.C_drewN ?_ _) | (with_reducible refine Kd.C_drew ?_))); (case aB => exact (by repeat (first | (with_reducible first | exact HB.out | apply below_alloc | apply pw_below_drewN | apply below_drew1 | refine below_set ?_ GE903.out) | exact HB.out))); (case aF => exact (fun k_ hk => Kd.fresh' (Kd.R_lt (by (with_reducible repeat (first | apply Kd.R_alloc | apply Kd.R_drewN | apply Kd.R_drew)); exact HO_8.out)) k_ hk)); (case aO => exact (by (with_reducible repeat (first | apply Kd.R_alloc | apply Kd.R_drewN | apply Kd.R_drew)); exact Kd.R_mono HO917.out (fun _ hk => hk.2))); (case aS => exact (below_size (by repeat (first | (with_reducible first | exact HB.out | apply below_alloc | apply pw_below_drewN | apply below_drew1 | refine below_set ?_ GE903.out) | exact HB.out)))); (case aL => have := LMc22.out; omega); intro v923 w29 ho hb hg hat; rw [← Ny922.out] at ho; have n0_ := Aside0.mk (Kd.R_after (ok := (fun _ => True)) (by (with_reducible repeat (first | apply Kd.R_alloc | apply Kd.R_drewN | apply Kd.R_drew)); exact HO_8.out) hg hat); have n1_ := Aside0.mk (blk_grown (g := gb903) (o := .cells #[.int .i64 x904000_3, .slice none 0 0] 75 (0, 0)) (by (with_reducible repeat (first | refine blk_drewN ?_ _ | refine blk_drew ?_ | refine blk_alloc ?_ _)); exact BK903.out) hg (Kd.R_ne HO917.out BK903.out (by decide))); have n2_ := Aside0.mk (hb); have n3_ := Aside0.mk ((show Kd.C (Kd.int .i64) w29 (some ad909) y910.length y910 from by rw [Ny910.out]; exact Kd.C_take (m := (t905 : Int).toNat) ((Kd.R_reads' (Kd.R_after (ok := (fun _ => True)) (by (with_reducible repeat (first | apply Kd.R_alloc | apply Kd.R_drewN | apply Kd.R_drew)); exact HO_8.out) hg hat)).2.2) KL24.out)); have n4_ := Aside0.mk ((show Kd.C (Kd.int .i64) w29 (some ad909) y918.length y918 from by rw [Ny918.out]; exact Kd.C_take (m := (t905 : Int).toNat) ((Kd.R_reads' (Kd.R_after (ok := (fun _ => True)) (by (with_reducible repeat (first | apply Kd.R_alloc | apply Kd.R_drewN | apply Kd.R_drew)); exact HO_8.out) hg hat)).2.2) KL28.out)); have n5_ := Aside0.mk (ho); clear HO_8; clear BK903; clear HB; clear HR913; clear HR921; clear HO917; have HO_8 := n0_; have BK903 := n1_; have HB := n2_; have HR913 := n3_; have HR921 := n4_; have HO924 := n5_; clear n0_ n1_ n2_ n3_ n4_ n5_; clear ho hb hg hat; obtain ⟨Ao30, co30, eo30⟩ := Kd.R_slice HO924.out; subst eo30; have hcz31_0 : w29.cell? ⟨gb903, 0, none⟩ = some (.int .i64 x904000_3) := (blk_cell BK903.out 0).trans rfl; have hcz31_1 : w29.cell? ⟨gb903, 1, none⟩ = some (.slice none 0 0) := (blk_cell BK903.out 1).trans rfl; have hfz31_0 := blk_frozen BK903.out 0; have hfz31_1 := blk_frozen BK903.out 1))
               refine bodyPost_ret (results_ct rfl _ _ gb903 75 #[.int .i64 x7_2, .slice Ao30 y922.length co30] (0, 0) _ rfl (by (with_reducible repeat (first | refine blk_drewN ?_ _ | refine blk_drew ?_ | refine blk_alloc ?_ _)); refine blk_put (cs := #[.int .i64 x7_2, .slice none 0 0]) ?_ 1 _ rfl; (with_reducible repeat (first | refine blk_drewN ?_ _ | refine blk_drew ?_ | refine blk_alloc ?_ _)); refine blk_put (cs := #[.int .i64 x904000_3, .slice none 0 0]) ?_ 0 _ rfl; (with_reducible repeat (first | refine blk_drewN ?_ _ | refine blk_drew ?_ | refine blk_alloc ?_ _)); exact BK903.out) Try.underlying75 rfl (by kernel_rfl)) rfl ?_
               exact ⟨_, by first | rfl | (simp [errW_none, errW_some] <;> rfl) | (simp [*, errW_none, errW_some] <;> rfl), by (with_reducible repeat (first | apply Kd.R_alloc | apply Kd.R_drewN | apply Kd.R_drew)); exact Kd.R_mono (Kd.R_far (p := ⟨gb903, 1, none⟩) (Kd.R_far (p := ⟨gb903, 0, none⟩) (Kd.R_types HO924.out BK903.out (by decide)) (fun _ hk => hk.2) (.int .i64 x7_2)) (fun _ hk => hk.2) (.slice Ao30 y922.length co30)) (fun _ hk => trivial), by repeat (first | (with_reducible first | exact HB.out | apply below_alloc | apply pw_below_drewN | apply below_drew1 | refine below_set ?_ GE903.out) | exact HB.out)⟩
              ·rw [if_neg c22] at H
               exact absurd H (by simp)
             ·replace c19 := Bool.eq_false_iff.mpr c19
              subst c19
              have H1 : (if 0 ≤ (wrap64 (t905 - 1)) then (if (wrap64 (t905 - 1)) < (x8_3.length : Int) then (spec_FindPattern.l2 k3 l0 l1 t905 x7_2 (x8_3.set ((wrap64 (t905 - 1)) : Int).toNat (wrap64 ((rd x8_3 (wrap64 (t905 - 1))) + 1))) (wrap64 (t905 - 1))) else (none)) else (none)) = some (r1, r2, r3) := by rw [if_neg (show ¬ (false = true) by decide)] at H; exact H
              clear H
              have H := H1
              clear H1
              obtain ⟨ji32, hji32⟩ : ∃ j_ : Int, (wrap64 (t905 - 1)) = j_ := ⟨_, rfl⟩
              replace H : (if 0 ≤ (ji32) then (if (ji32) < (x8_3.length : Int) then (spec_FindPattern.l2 k3 l0 l1 t905 x7_2 (x8_3.set ((ji32) : Int).toNat (wrap64 ((rd x8_3 (ji32)) + 1))) ji32) else (none)) else (none)) = some (r1, r2, r3) := by first | (rw [hji32] at H; exact H) | (simp only [hji32] at H ⊢; exact H)
              (try rw [hji32] at A18)
              have hji32w : (IntKind.i64.wrap (t905 - 1)) = ji32 := (i64_w _).trans hji32
              by_cases c33 : 0 ≤ (ji32)
              ·rw [if_pos c33] at H
               have c33b0 : decide (0 ≤ (ji32)) = true := decide_eq_true c33
               clear c33
               by_cases c34 : (ji32) < (x8_3.length : Int)
               ·rw [if_pos c34] at H
                have c34b0 : decide ((ji32) < (x8_3.length : Int)) = true := decide_eq_true c34
                clear c34
                obtain ⟨y926, hy926⟩ : ∃ y_ : List Int, y_ = (x8_3.set ((ji32) : Int).toNat (wrap64 ((rd x8_3 (ji32)) + 1))) := ⟨_, rfl⟩
                replace H : (spec_FindPattern.l2 k3 l0 l1 t905 x7_2 y926 ji32) = some (r1, r2, r3) := by first | (rw [hy926]; with_reducible exact H) | (have H2_ := (Option.bind_some _ _).symm.trans H; rw [hy926]; with_reducible exact H2_) | (have H2_ := (Option.bind_some _ _).symm.trans H; with_reducible exact H2_) | with_reducible exact H | (rw [hy926]; exact H) | exact H
                have Ny926 := Aside0.mk hy926
                clear hy926
                have H' := Aside0.mk H
                clear H
                obtain ⟨Ao36, co36, eo36⟩ := Kd.R_slice HO_8.out
                subst eo36
                have p909 : 0 ≤ (0 : Int) := (by omega)
                have q909 : 0 < (x8_3.length : Int) := of_decide_eq_true (by first | (with_reducible assumption) | assumption)
                obtain ⟨ad909, e909, hx909_0⟩ := Kd.at_int (Kd.R_reads' HO_8.out).2.2 0 p909 q909
                cases e909
                have qi909 : (0 < x8_3.length) = True := eq_true (by omega)
                (try rw [show ((0 : Int)).toNat = 0 from rfl] at hx909_0)
                (try rw [Addr.add_zero'] at hx909_0)
                replace p909 := eq_true p909
                replace q909 := eq_true q909
                have q37 : (t905 : Int) ≤ ((x8_3.length : Int) : Int) := of_decide_eq_true (by first | (with_reducible assumption) | assumption)
                obtain ⟨i037, hi037, _, hsz37, _⟩ := info_parts info3
                have hroom37 : x8_3.length ≤ co36 := (Kd.R_reads' HO_8.out).2.1
                have hC37 : Kd.C (Kd.int .i64) _ (some ad909) x8_3.length x8_3 := (Kd.R_reads' HO_8.out).2.2
                have hcut37 := cut_to (P := Try.prog) 22 3 .i64 Try.underlying22 hi037 (some ad909) x8_3.length co36 t905 (of_decide_eq_true (by first | (with_reducible assumption) | assumption)) q37 hroom37
                have hr37 := Kd.C_take (m := (t905 : Int).toNat) hC37 (by omega)
                have hy37 : y910.length = (t905 : Int).toNat := (by rw [Ny910.out, List.length_take]; omega)
                rw [← Ny910.out] at hr37
                rw [← hy37] at hcut37
                have HR913 := Aside0.mk hr37
                have HC913 := Aside0.mk (show y910.length ≤ co36 from by omega)
                clear hr37 hC37 hroom37 hi037 hsz37
                have KY37 := Aside0.mk hy37
                clear hy37
                have KL37 := Aside0.mk (show (t905 : Int).toNat ≤ x8_3.length from by omega)
                replace q37 := eq_true q37
                go_wp2_with (first | ((with_reducible refine gate_callee (f := 71) rfl ?_); refine goesL_ (some 40) rfl rfl Try.func71 (by kernel_rfl) rfl #[.slice A0 l0.length c0, .slice A1 l1.length c1, .int .i64 x7_2, .slice (some ad909) y910.length co36] rfl (by (try simp only [List.map_toArray, List.map_cons, List.map_nil]); first | done | rfl | (simp only [List.length_drop, List.length_take]; rfl)) ?_; (with_reducible refine (spec_MatchAt.calls k3 _ _ l0 _ _ l1 x7_2 _ _ y910 false _ ?side1 ?side2 ?side3 ?side4 ?side5 ?side6 A18.out).mono ?_); (case side1 => repeat (first | exact (Kd.C_below HR0.out HB.out) | (with_reducible refine Kd.C_alloc ?_ _) | (with_reducible refine Kd.C_drewN ?_ _) | (with_reducible refine Kd.C_drew ?_))); (case side2 => exact HC0.out); (case side3 => repeat (first | exact (Kd.C_below HR1.out HB.out) | (with_reducible refine Kd.C_alloc ?_ _) | (with_reducible refine Kd.C_drewN ?_ _) | (with_reducible refine Kd.C_drew ?_))); (case side4 => exact HC1.out); (case side5 => repeat (first | exact (by repeat (first | (with_reducible exact HR913.out) | (with_reducible refine Kd.C_alloc ?_ _) | (with_reducible refine Kd.C_drewN ?_ _) | (with_reducible refine Kd.C_drew ?_) | exact HR913.out)) | (with_reducible refine Kd.C_alloc ?_ _) | (with_reducible refine Kd.C_drewN ?_ _) | (with_reducible refine Kd.C_drew ?_))); (case side6 => exact HC913.out); rintro e w38 ⟨rfl, hb⟩; refine ⟨_, rfl, ?_⟩; have n0_ := Aside0.mk (Kd.R_below (by (with_reducible repeat (first | apply Kd.R_alloc | apply Kd.R_drewN | apply Kd.R_drew)); exact HO_8.out) hb); have n1_ := Aside0.mk (blk_below (g := gb903) (o := .cells #[.int .i64 x904000_3, .slice none 0 0] 75 (0, 0)) (by (with_reducible repeat (first | refine blk_drewN ?_ _ | refine blk_drew ?_ | refine blk_alloc ?_ _)); exact BK903.out) hb); have n2_ := Aside0.mk (Kd.C_below (by repeat (first | (with_reducible exact HR913.out) | (with_reducible refine Kd.C_alloc ?_ _) | (with_reducible refine Kd.C_drewN ?_ _) | (with_reducible refine Kd.C_drew ?_) | exact HR913.out)) hb); have n3_ := Aside0.mk (below_step (by repeat (first | (with_reducible first | exact HB.out | apply below_alloc | apply pw_below_drewN | apply below_drew1 | refine below_set ?_ GE903.out) | exact HB.out)) hb); clear HO_8; clear BK903; clear HR913; clear HB; have HO_8 := n0_; have BK903 := n1_; have HR913 := n2_; have HB := n3_; clear n0_ n1_ n2_ n3_; (try clear hb); (try clear hb2); (try clear hk); (try clear hi); have p925 : 0 ≤ ((ji32) : Int) := of_decide_eq_true (by first | (with_reducible assumption) | assumption); have q925 : (ji32) < (x8_3.length : Int) := of_decide_eq_true (by first | (with_reducible assumption) | assumption); obtain ⟨ad925, e925, hx925_0⟩ := Kd.at_int (Kd.R_reads' HO_8.out).2.2 (ji32) p925 q925; obtain rfl : ad909 = ad925 := (by injection e925); replace p925 := eq_true p925; replace q925 := eq_true q925; have p35 : 0 ≤ ((ji32) : Int) := of_decide_eq_true (by first | (with_reducible assumption) | assumption); have q35 : ((ji32) : Int) < ((x8_3.length : Int) : Int) := of_decide_eq_true (by first | (with_reducible assumption) | assumption); obtain ⟨go35, co35, eo35, gb35, gl35, cl35, HG35⟩ := Kd.R_form HO_8.out (by omega); (first | cases eo35 | (injection eo35 with ea_ en_ ec_; (first | subst ea_ | (injection ea_ with ea_; subst ea_)); subst ec_; clear en_)); have GB35 := Aside0.mk gb35; have GG35 := Aside0.mk HG35; clear gb35 gl35 HG35; (first | simp only [add_plain] at hx909_0 | skip); (first | simp only [add_plain] at hx925_0 | skip); obtain ⟨hx35_0, hf35_0⟩ := Kd.R_celln 0 HO_8.out ((ji32) : Int) p35 q35; replace p35 := eq_true p35; replace q35 := eq_true q35; obtain ⟨hy39_, hz39_⟩ := Kd.R_celln 0 HO_8.out ((ji32) : Int) (of_decide_eq_true (by first | (with_reducible assumption) | assumption)) (of_decide_eq_true (by first | (with_reducible assumption) | assumption)); have HP39 := Kd.R_putg HO_8.out ((ji32) : Int) (wrap64 ((rd x8_3 (ji32)) + 1))) | ((with_reducible refine gate_store (t := 3) (p := 57) rfl ?_); refine store_event (t := 3) (p := 57) (v := ?vo_w40) (w1 := (w38.setCell ⟨go35, ((ji32) : Int).toNat, none⟩ (.int .i64 (wrap64 ((rd x8_3 (ji32)) + 1))))) ?hg ?ho ?hn ?hr ?_; (case ho => rfl); (case hg => rfl); (case hn => rfl); (case hr => first | (go_simp; done) | (go_simp; rfl)); intro w40 hw; have hg : w38.grownBy w40 (some go35) := (by rw [hw]; exact HP39.2); have hp_ : Kd.R (Kd.int .i64) 3 w40 w.heap.size (fun _ => True) (.slice (some ⟨go35, 0, none⟩) x8_3.length co36) y926 := (by rw [hw, Ny926.out]; exact HP39.1); clear HP39; have n0_ := Aside0.mk (hp_); have n1_ := Aside0.mk (blk_grown (g := gb903) (o := .cells #[.int .i64 x904000_3, .slice none 0 0] 75 (0, 0)) (by (with_reducible repeat (first | refine blk_drewN ?_ _ | refine blk_drew ?_ | refine blk_alloc ?_ _)); exact BK903.out) hg (Kd.R_ne HO_8.out BK903.out (by decide))); have n2_ := Aside0.mk ((by rw [hw]; exact below_set (HB.out) GB35.out : Below w.heap.size w w40)); clear HO_8; clear BK903; clear HB; have HO_8 := n0_; have BK903 := n1_; have HB := n2_; clear n0_ n1_ n2_; clear hg hw hp_))
                go_loopg [9] k3 (fun kq v9 w' => ∃ (x8_4 : List Int) (x9_4 : Int), v9 = .int .i64 x9_4 ∧ Aside0 (spec_FindPattern.l2 kq l0 l1 t905 x7_2 x8_4 x9_4 = some (r1, r2, r3)) ∧ Aside0 (kq ≤ k3) ∧ Aside0 (Kd.R (Kd.int .i64) 3 w' w.heap.size (fun _ => True) (.slice (some ⟨go35, 0, none⟩) x8_3.length co36) x8_4) ∧ Aside0 (w'.heap[gb903]? = some (.cells #[.int .i64 x904000_3, (.slice none 0 0)] 75 (0, 0))) ∧ Aside0 (Below w.heap.size w w'))
                case atStart => exact ⟨(y926), (ji32), (by first | rfl | (simp; done) | (simp only [← hji32] <;> (first | rfl | simp)) | (simp [*]; done)), H', ⟨Nat.le_refl _⟩, ⟨by (with_reducible repeat (first | apply Kd.R_alloc | apply Kd.R_drewN | apply Kd.R_drew)); exact HO_8.out⟩, ⟨by (with_reducible repeat (first | refine blk_drewN ?_ _ | refine blk_drew ?_ | refine blk_alloc ?_ _)); exact BK903.out⟩, ⟨by repeat (first | (with_reducible first | exact HB.out | apply below_alloc | apply pw_below_drewN | apply below_drew1 | refine below_set ?_ GE903.out) | exact HB.out)⟩⟩
                case round =>
                 clear H'
                 try clear c1
                 try clear c2
                 try clear p2
                 try clear q2
                 try clear c3
                 try clear p3
                 try clear q3
                 try clear hx3
                 try clear hf3
                 try clear c6
                 try clear p6
                 try clear c7
                 try clear p9
                 try clear q9
                 try clear hx9
                 try clear qi9
                 try clear c11
                 try clear c11b0
                 try clear c12
                 try clear c14
                 try clear c14b0
                 try clear c14b1
                 try clear c15
                 try clear c15b0
                 try clear c16
                 try clear c16b0
                 try clear c16b1
                 try clear c17
                 try clear c17b0
                 try clear c17b1
                 try clear c19
                 try clear c20
                 try clear c20b0
                 try clear c21
                 try clear c21b0
                 try clear c22
                 try clear q24
                 try clear q28
                 try clear c33
                 try clear c33b0
                 try clear c34
                 try clear c34b0
                 try clear p35
                 try clear q35
                 try clear hx35
                 try clear hf35
                 try clear q37
                 try clear hcz31_0
                 try clear hcz31_1
                 try clear hcz8_0
                 try clear hcz8_1
                 try clear hfz31_0
                 try clear hfz31_1
                 try clear hfz8_0
                 try clear hfz8_1
                 try clear hx35_0
                 try clear hx909_0
                 try clear hx925_0
                 try clear p2
                 try clear p35
                 try clear p909
                 try clear p925
                 try clear q24
                 try clear q28
                 try clear q35
                 try clear q37
                 try clear q909
                 try clear q925
                 obtain ⟨x8_4, x9_4, rfl, HA, HK4, HO_8, BK903, HB⟩ := hrel
                 have hl8_4 := (Kd.R_reads' HO_8.out).1
                 rw [hl8_4] at HO_8
                 (try simp only [hl8_4])
                 (try simp only [hl8_4] at BK903)
                 cases gk with
                 | zero => exact absurd HA.out (by simp [spec_FindPattern.l2])
                 | succ k4 =>
                  have H := HA.out
                  clear HA
                  simp only [spec_FindPattern.l2] at H
                  by_cases c41 : x9_4 > 0
                  ·rw [if_pos c41] at H
                   have c41b0 : decide (0 < x9_4) = true := decide_eq_true c41
                   clear c41
                   by_cases c42 : 0 ≤ x9_4
                   ·rw [if_pos c42] at H
                    have c42b0 : decide (0 ≤ x9_4) = true := decide_eq_true c42
                    clear c42
                    by_cases c43 : x9_4 < (x8_4.length : Int)
                    ·rw [if_pos c43] at H
                     have c43b0 : decide (x9_4 < (x8_4.length : Int)) = true := decide_eq_true c43
                     clear c43
                     (try simp only [hl8_4] at c43b0)
                     by_cases c44 : (rd x8_4 x9_4) > (l0.length : Int)
                     ·rw [if_pos c44] at H
                      have c44b0 : decide ((l0.length : Int) < (rd x8_4 x9_4)) = true := decide_eq_true c44
                      clear c44
                      (try simp only [hl8_4] at c44b0)
                      obtain ⟨y928, hy928⟩ : ∃ y_ : List Int, y_ = (x8_4.set (x9_4 : Int).toNat 1) := ⟨_, rfl⟩
                      replace H : (if 0 ≤ (wrap64 (x9_4 - 1)) then (if (wrap64 (x9_4 - 1)) < (x8_4.length : Int) then (spec_FindPattern.l2 k4 l0 l1 t905 x7_2 (y928.set ((wrap64 (x9_4 - 1)) : Int).toNat (wrap64 ((rd y928 (wrap64 (x9_4 - 1))) + 1))) (wrap64 (x9_4 - 1))) else (none)) else (none)) = some (r1, r2, r3) := by first | (rw [hy928]; with_reducible exact H) | (have H2_ := (Option.bind_some _ _).symm.trans H; rw [hy928]; with_reducible exact H2_) | (have H2_ := (Option.bind_some _ _).symm.trans H; with_reducible exact H2_) | with_reducible exact H | (rw [hy928]; exact H) | exact H
                      have Ny928 := Aside0.mk hy928
                      clear hy928
                      obtain ⟨ji46, hji46⟩ : ∃ j_ : Int, (wrap64 (x9_4 - 1)) = j_ := ⟨_, rfl⟩
                      replace H : (if 0 ≤ (ji46) then (if (ji46) < (x8_4.length : Int) then (spec_FindPattern.l2 k4 l0 l1 t905 x7_2 (y928.set ((ji46) : Int).toNat (wrap64 ((rd y928 (ji46)) + 1))) ji46) else (none)) else (none)) = some (r1, r2, r3) := by first | (rw [hji46] at H; exact H) | (simp only [hji46] at H ⊢; exact H)
                      have hji46w : (IntKind.i64.wrap (x9_4 - 1)) = ji46 := (i64_w _).trans hji46
                      by_cases c47 : 0 ≤ (ji46)
                      ·rw [if_pos c47] at H
                       have c47b0 : decide (0 ≤ (ji46)) = true := decide_eq_true c47
                       clear c47
                       by_cases c48 : (ji46) < (x8_4.length : Int)
                       ·rw [if_pos c48] at H
                        have c48b0 : decide ((ji46) < (x8_4.length : Int)) = true := decide_eq_true c48
                        clear c48
                        (try simp only [hl8_4] at c48b0)
                        obtain ⟨y930, hy930⟩ : ∃ y_ : List Int, y_ = (y928.set ((ji46) : Int).toNat (wrap64 ((rd y928 (ji46)) + 1))) := ⟨_, rfl⟩
                        replace H : (spec_FindPattern.l2 k4 l0 l1 t905 x7_2 y930 ji46) = some (r1, r2, r3) := by first | (rw [hy930]; with_reducible exact H) | (have H2_ := (Option.bind_some _ _).symm.trans H; rw [hy930]; with_reducible exact H2_) | (have H2_ := (Option.bind_some _ _).symm.trans H; with_reducible exact H2_) | with_reducible exact H | (rw [hy930]; exact H) | exact H
                        have Ny930 := Aside0.mk hy930
                        clear hy930
                        have H' := Aside0.mk H
                        clear H
                        have p927 : 0 ≤ (x9_4 : Int) := of_decide_eq_true (by first | (with_reducible assumption) | assumption)
                        have q927 : x9_4 < (x8_4.length : Int) := of_decide_eq_true (by first | (with_reducible assumption) | assumption)
                        obtain ⟨ad927, e927, hx927_0⟩ := Kd.at_int (Kd.R_reads' HO_8.out).2.2 x9_4 p927 q927
                        obtain rfl : (⟨go35, 0, none⟩ : Addr) = ad927 := (by injection e927)
                        (first | simp only [add_plain] at hx927_0 | simp only [add_at] at hx927_0 | simp only [Addr.add, Nat.zero_add] at hx927_0 | skip)
                        replace p927 := eq_true p927
                        replace q927 := eq_true q927
                        have p45 : 0 ≤ (x9_4 : Int) := of_decide_eq_true (by first | (with_reducible assumption) | assumption)
                        have q45 : (x9_4 : Int) < ((x8_4.length : Int) : Int) := of_decide_eq_true (by first | (with_reducible assumption) | assumption)
                        obtain ⟨hx45_0, hf45_0⟩ := Kd.R_celln 0 HO_8.out (x9_4 : Int) p45 q45
                        replace p45 := eq_true p45
                        replace q45 := eq_true q45
                        have HP50 := Kd.R_putg HO_8.out (x9_4 : Int) 1
                        go_wp2_with (first | ((with_reducible refine gate_store (t := 3) (p := 71) rfl ?_); refine store_event (t := 3) (p := 71) (v := ?vo_w51) (w1 := (wr.setCell ⟨go35, (x9_4 : Int).toNat, none⟩ (.int .i64 1))) ?hg ?ho ?hn ?hr ?_; (case ho => rfl); (case hg => rfl); (case hn => rfl); (case hr => first | (go_simp; done) | (go_simp; rfl)); intro w51 hw; have hg : wr.grownBy w51 (some go35) := (by rw [hw]; exact HP50.2); have hp_ : Kd.R (Kd.int .i64) 3 w51 w.heap.size (fun _ => True) (.slice (some ⟨go35, 0, none⟩) x8_4.length co36) y928 := (by rw [hw, Ny928.out]; exact HP50.1); clear HP50; have n0_ := Aside0.mk (hp_); have n1_ := Aside0.mk (blk_grown (g := gb903) (o := .cells #[.int .i64 x904000_3, .slice none 0 0] 75 (0, 0)) (by (with_reducible repeat (first | refine blk_drewN ?_ _ | refine blk_drew ?_ | refine blk_alloc ?_ _)); exact BK903.out) hg (Kd.R_ne HO_8.out BK903.out (by decide))); have n2_ := Aside0.mk ((by rw [hw]; exact below_set (HB.out) GB35.out : Below w.heap.size w w51)); clear HO_8; clear BK903; clear HB; have HO_8 := n0_; have BK903 := n1_; have HB := n2_; clear n0_ n1_ n2_; clear hg hw hp_; have p929 : 0 ≤ ((ji46) : Int) := of_decide_eq_true (by first | (with_reducible assumption) | assumption); have q929 : (ji46) < (y928.length : Int) := (by have h_ : ((ji46) : Int) < ((x8_4.length : Int) : Int) := of_decide_eq_true (by first | (with_reducible assumption) | assumption); first | (have e_ := (Kd.R_reads' HO_8.out).1; omega) | simpa only [Ny928.out, List.length_set] using h_); have ql929 : (((ji46) : Int) < ((x8_4.length : Int) : Int)) = True := eq_true (of_decide_eq_true (by first | (with_reducible assumption) | assumption)); obtain ⟨ad929, e929, hx929_0⟩ := Kd.at_int (Kd.R_reads' HO_8.out).2.2 (ji46) p929 q929; obtain rfl : (⟨go35, 0, none⟩ : Addr) = ad929 := (by injection e929); (first | simp only [add_plain] at hx929_0 | simp only [add_at] at hx929_0 | simp only [Addr.add, Nat.zero_add] at hx929_0 | skip); replace p929 := eq_true p929; replace q929 := eq_true q929; have p49 : 0 ≤ ((ji46) : Int) := of_decide_eq_true (by first | (with_reducible assumption) | assumption); have q49 : ((ji46) : Int) < ((x8_4.length : Int) : Int) := of_decide_eq_true (by first | (with_reducible assumption) | assumption); obtain ⟨hx49_0, hf49_0⟩ := Kd.R_celln 0 HO_8.out ((ji46) : Int) p49 q49; replace p49 := eq_true p49; replace q49 := eq_true q49; obtain ⟨hy52_, hz52_⟩ := Kd.R_celln 0 HO_8.out ((ji46) : Int) (of_decide_eq_true (by first | (with_reducible assumption) | assumption)) (of_decide_eq_true (by first | (with_reducible assumption) | assumption)); have HP52 := Kd.R_putg HO_8.out ((ji46) : Int) (wrap64 ((rd y928 (ji46)) + 1))) | ((with_reducible refine gate_store (t := 3) (p := 81) rfl ?_); refine store_event (t := 3) (p := 81) (v := ?vo_w53) (w1 := (w51.setCell ⟨go35, ((ji46) : Int).toNat, none⟩ (.int .i64 (wrap64 ((rd y928 (ji46)) + 1))))) ?hg ?ho ?hn ?hr ?_; (case ho => rfl); (case hg => rfl); (case hn => rfl); (case hr => first | (go_simp; done) | (go_simp; rfl)); intro w53 hw; have hg : w51.grownBy w53 (some go35) := (by rw [hw]; exact HP52.2); have hp_ : Kd.R (Kd.int .i64) 3 w53 w.heap.size (fun _ => True) (.slice (some ⟨go35, 0, none⟩) x8_4.length co36) y930 := (by rw [hw, Ny930.out]; exact HP52.1); clear HP52; have n0_ := Aside0.mk (hp_); have n1_ := Aside0.mk (blk_grown (g := gb903) (o := .cells #[.int .i64 x904000_3, .slice none 0 0] 75 (0, 0)) (by (with_reducible repeat (first | refine blk_drewN ?_ _ | refine blk_drew ?_ | refine blk_alloc ?_ _)); exact BK903.out) hg (Kd.R_ne HO_8.out BK903.out (by decide))); have n2_ := Aside0.mk ((by rw [hw]; exact below_set (HB.out) GB35.out : Below w.heap.size w w53)); clear HO_8; clear BK903; clear HB; have HO_8 := n0_; have BK903 := n1_; have HB := n2_; clear n0_ n1_ n2_; clear hg hw hp_))
                        (try simp only [← hl8_4])
                        go_roundg k4
                        case measure => have := HJ2.out; have := HK2.out; have := HK3.out; have := HK4.out; omega
                        case rel => exact ⟨(y930), (ji46), (by first | rfl | (simp; done) | (simp only [← hji46] <;> (first | rfl | simp)) | (simp [*]; done)), H', ⟨by have := HJ2.out; have := HK2.out; have := HK3.out; have := HK4.out; omega⟩, ⟨by (try simp only [hl8_4]); (with_reducible repeat (first | apply Kd.R_alloc | apply Kd.R_drewN | apply Kd.R_drew)); exact HO_8.out⟩, ⟨by (try simp only [hl8_4]); (with_reducible repeat (first | refine blk_drewN ?_ _ | refine blk_drew ?_ | refine blk_alloc ?_ _)); exact BK903.out⟩, ⟨by repeat (first | (with_reducible first | exact HB.out | apply below_alloc | apply pw_below_drewN | apply below_drew1 | refine below_set ?_ GE903.out) | exact HB.out)⟩⟩
                       ·rw [if_neg c48] at H
                        exact absurd H (by simp)
                      ·rw [if_neg c47] at H
                       exact absurd H (by simp)
                     ·rw [if_neg c44] at H
                      have c44b0 : decide ((l0.length : Int) < (rd x8_4 x9_4)) = false := decide_eq_false c44
                      clear c44
                      (try simp only [hl8_4] at c44b0)
                      have H' := Aside0.mk H
                      clear H
                      have p927 : 0 ≤ (x9_4 : Int) := of_decide_eq_true (by first | (with_reducible assumption) | assumption)
                      have q927 : x9_4 < (x8_4.length : Int) := of_decide_eq_true (by first | (with_reducible assumption) | assumption)
                      obtain ⟨ad927, e927, hx927_0⟩ := Kd.at_int (Kd.R_reads' HO_8.out).2.2 x9_4 p927 q927
                      obtain rfl : (⟨go35, 0, none⟩ : Addr) = ad927 := (by injection e927)
                      (first | simp only [add_plain] at hx927_0 | simp only [add_at] at hx927_0 | simp only [Addr.add, Nat.zero_add] at hx927_0 | skip)
                      replace p927 := eq_true p927
                      replace q927 := eq_true q927
                      go_wp2
                      (try simp only [← hl8_4])
                      go_roundg k4
                      case measure => have := HJ2.out; have := HK2.out; have := HK3.out; have := HK4.out; omega
                      case rel => exact ⟨(x8_4), (x904000_3), H', ⟨by have := HJ2.out; have := HK2.out; have := HK3.out; have := HK4.out; omega⟩, ⟨by (try simp only [hl8_4]); (with_reducible repeat (first | apply Kd.R_alloc | apply Kd.R_drewN | apply Kd.R_drew)); exact HO_8.out⟩, ⟨by (try simp only [hl8_4]); (with_reducible repeat (first | refine blk_drewN ?_ _ | refine blk_drew ?_ | refine blk_alloc ?_ _)); exact BK903.out⟩, ⟨by repeat (first | (with_reducible first | exact HB.out | apply below_alloc | apply pw_below_drewN | apply below_drew1 | refine below_set ?_ GE903.out) | exact HB.out)⟩⟩
                    ·rw [if_neg c43] at H
                     exact absurd H (by simp)
                   ·rw [if_neg c42] at H
                    exact absurd H (by simp)
                  ·rw [if_neg c41] at H
                   have c41b0 : decide (0 < x9_4) = false := decide_eq_false c41
                   clear c41
                   have H' := Aside0.mk H
                   clear H
                   go_wp2
                   (try simp only [← hl8_4])
                   go_roundg k4
                   case measure => have := HJ2.out; have := HK2.out; have := HK3.out; have := HK4.out; omega
                   case rel => exact ⟨(x8_4), (x904000_3), H', ⟨by have := HJ2.out; have := HK2.out; have := HK3.out; have := HK4.out; omega⟩, ⟨by (try simp only [hl8_4]); (with_reducible repeat (first | apply Kd.R_alloc | apply Kd.R_drewN | apply Kd.R_drew)); exact HO_8.out⟩, ⟨by (try simp only [hl8_4]); (with_reducible repeat (first | refine blk_drewN ?_ _ | refine blk_drew ?_ | refine blk_alloc ?_ _)); exact BK903.out⟩, ⟨by repeat (first | (with_reducible first | exact HB.out | apply below_alloc | apply pw_below_drewN | apply below_drew1 | refine below_set ?_ GE903.out) | exact HB.out)⟩⟩
               ·rw [if_neg c34] at H
                exact absurd H (by simp)
              ·rw [if_neg c33] at H
               exact absurd H (by simp)
            ·rw [if_neg c17] at H
             exact absurd H (by simp)
           ·rw [if_neg c16] at H
            exact absurd H (by simp)
          ·rw [if_neg c15] at H
           have c15b0 : decide ((rd x8_3 0) ≤ (l0.length : Int)) = false := decide_eq_false c15
           clear c15
           have H' := Aside0.mk H
           clear H
           obtain ⟨Ao54, co54, eo54⟩ := Kd.R_slice HO_8.out
           subst eo54
           have p909 : 0 ≤ (0 : Int) := (by omega)
           have q909 : 0 < (x8_3.length : Int) := of_decide_eq_true (by first | (with_reducible assumption) | assumption)
           obtain ⟨ad909, e909, hx909_0⟩ := Kd.at_int (Kd.R_reads' HO_8.out).2.2 0 p909 q909
           cases e909
           have qi909 : (0 < x8_3.length) = True := eq_true (by omega)
           (try rw [show ((0 : Int)).toNat = 0 from rfl] at hx909_0)
           (try rw [Addr.add_zero'] at hx909_0)
           replace p909 := eq_true p909
           replace q909 := eq_true q909
           go_wp2
           go_roundg k3
           case measure => have := HJ2.out; have := HK2.out; have := HK3.out; omega
           case rel => exact ⟨(wrap64 (x7_2 + 1)), (x904000_3), (by first | rfl | (simp; done) | (simp [*]; done)), H', ⟨by have := HJ2.out; have := HK2.out; have := HK3.out; omega⟩, ⟨by (with_reducible repeat (first | refine blk_drewN ?_ _ | refine blk_drew ?_ | refine blk_alloc ?_ _)); exact BK903.out⟩, ⟨by repeat (first | (with_reducible first | exact HB.out | apply below_alloc | apply pw_below_drewN | apply below_drew1 | refine below_set ?_ GE903.out) | exact HB.out)⟩⟩
         ·rw [if_neg c14] at H
          exact absurd H (by simp)
      ·rw [if_neg c11] at H
       have c11b0 : decide (x7_2 < (l0.length : Int)) = false := decide_eq_false c11
       clear c11
       simp only [Option.some.injEq, Prod.mk.injEq] at H
       obtain ⟨rfl, rfl, rfl⟩ := H
       have hcz55_0 : wr.cell? ⟨gb903, 0, none⟩ = some (.int .i64 x904000_2) := (blk_cell BK903.out 0).trans rfl
       have hcz55_1 : wr.cell? ⟨gb903, 1, none⟩ = some (.slice none 0 0) := (blk_cell BK903.out 1).trans rfl
       have hfz55_0 := blk_frozen BK903.out 0
       have hfz55_1 := blk_frozen BK903.out 1
       go_wp2
       refine bodyPost_ret (results_ct rfl _ _ gb903 75 #[.int .i64 0, .slice none 0 0] (0, 0) _ rfl (by (with_reducible repeat (first | refine blk_drewN ?_ _ | refine blk_drew ?_ | refine blk_alloc ?_ _)); refine blk_put (cs := #[.int .i64 0, .slice none 0 0]) ?_ 1 _ rfl; (with_reducible repeat (first | refine blk_drewN ?_ _ | refine blk_drew ?_ | refine blk_alloc ?_ _)); refine blk_put (cs := #[.int .i64 x904000_2, .slice none 0 0]) ?_ 0 _ rfl; (with_reducible repeat (first | refine blk_drewN ?_ _ | refine blk_drew ?_ | refine blk_alloc ?_ _)); exact BK903.out) Try.underlying75 rfl (by kernel_rfl)) rfl ?_
       exact ⟨_, by first | rfl | (simp [errW_none, errW_some] <;> rfl) | (simp [*, errW_none, errW_some] <;> rfl), by first | exact Kd.R_nil _ _ _ _ _ | exact Kd.N_nil _ _ _ _ _ | exact Kd.V_nil _ _ _ _ _ | exact Kd.Q_nil _ _ _ _ _ | exact Kd.S_nil _ _ _ _ _, by repeat (first | (with_reducible first | exact HB.out | apply below_alloc | apply pw_below_drewN | apply below_drew1 | refine below_set ?_ GE903.out) | exact HB.out)⟩

end Go.Proofs.Ythkkpdgadfhijaa.M
/- Walks for this claim, written by a program of mine over the kit's print. No condition of mine. -/
namespace Go.Proofs.Ythkkpdgadfhijaa.M
open Go.RowKit Go.Proofs.Ythkkpdgadfhijaa.KW Go.Proofs.YthkkpdgadfhijaaW.PrintWords Go.Proofs.YthkkpdgadfhijaaW.PrintLast Go.Proofs.YthkkpdgadfhijaaW.PrintMore
attribute [local go_sem] max2_int min2_int max_two min_two max_three min_three max_four min_four   -- for this text's walks alone
set_option linter.unusedVariables false
set_option linter.unusedSimpArgs false

/-! ### spec_AvoidsPattern: function 67 -/
def spec_AvoidsPattern.f (k : Nat) (l0 : List Int) (l1 : List Int) : Option (Bool) := (spec_FindPattern.f k l0 l1).bind fun bt931 => ((spec_IsPattern.f k l1).bind fun t937 => (if t937 = true then (if (l0.length : Int) ≤ 24 then (some (!bt931.2.2)) else (some false)) else (some false)))
theorem spec_AvoidsPattern.mono : ∀ a0 a1 k, LeO (spec_AvoidsPattern.f k a0 a1) (spec_AvoidsPattern.f (k + 1) a0 a1) := by
 intro a0 a1 k
 unfold spec_AvoidsPattern.f
 repeat' first
   | (with_reducible exact spec_FindPattern.mono _ _ _)
   | (with_reducible exact spec_IsPattern.mono _ _)
   | (with_reducible exact LeO.refl _)
   | (with_reducible exact LeO.none _)
   | (with_reducible refine LeO.ite ?_ ?_)
   | (with_reducible refine LeO.bind ?_ (fun _ => ?_))
   | exact spec_FindPattern.mono _ _ _
   | exact spec_IsPattern.mono _ _
   | exact LeO.none _
   | refine LeO.ite ?_ ?_
   | refine LeO.bind ?_ (fun _ => ?_)
set_option maxHeartbeats 8000000 in
set_option maxRecDepth 100000 in
theorem spec_AvoidsPattern.calls (k : Nat) (A0 : Option Addr) (c0 : Nat) (l0 : List Int) (A1 : Option Addr) (c1 : Nat) (l1 : List Int) (r : Bool) (w : World) (hr0 : Kd.C (Kd.int .i64) w A0 l0.length l0) (hc0 : l0.length ≤ c0) (hr1 : Kd.C (Kd.int .i64) w A1 l1.length l1) (hc1 : l1.length ≤ c1) (h : spec_AvoidsPattern.f k l0 l1 = some r) :
  Calls Try.prog 67 #[.slice A0 l0.length c0, .slice A1 l1.length c1] w fun e w' => e = .returned (.bool r) ∧ Below w.heap.size w w' := by
 have hu75 := Try.underlying75
 have HR0 := Aside0.mk hr0
 have HC0 := Aside0.mk hc0
 clear hr0 hc0
 have HR1 := Aside0.mk hr1
 have HC1 := Aside0.mk hc1
 clear hr1 hc1
 have HB := Aside0.mk (Below.refl w.heap.size w)
 have H : ((spec_FindPattern.f k l0 l1).bind fun bt931 => ((spec_IsPattern.f k l1).bind fun t937 => (if t937 = true then (if (l0.length : Int) ≤ 24 then (some (!bt931.2.2)) else (some false)) else (some false)))) = some r := h
 clear h
 replace H := Option.bind_eq_some_iff.mp H
 obtain ⟨⟨t931, t932, t935⟩, A30, H⟩ := H
 replace H : ((spec_IsPattern.f k l1).bind fun t937 => (if t937 = true then (if (l0.length : Int) ≤ 24 then (some (!t935)) else (some false)) else (some false))) = some r := H
 have A3 := Aside0.mk A30
 clear A30
 replace H := Option.bind_eq_some_iff.mp H
 obtain ⟨t937, A40, H⟩ := H
 replace H : (if t937 = true then (if (l0.length : Int) ≤ 24 then (some (!t935)) else (some false)) else (some false)) = some r := H
 have A4 := Aside0.mk A40
 clear A40
 by_cases c5 : t937 = true
 ·subst c5
  have H1 : (if (l0.length : Int) ≤ 24 then (some (!t935)) else (some false)) = some r := by rw [if_pos rfl] at H; exact H
  clear H
  have H := H1
  clear H1
  by_cases c6 : (l0.length : Int) ≤ 24
  ·rw [if_pos c6] at H
   have c6b0 : decide ((l0.length : Int) ≤ 24) = true := decide_eq_true c6
   have c6b1 : decide (l0.length ≤ 24) = true := decide_eq_true (by omega)
   clear c6
   obtain rfl := Option.some.inj H
   go_enter Try.func67, Try.ntmps67
   go_wp2_with (first | ((with_reducible refine gate_callee (f := 61) rfl ?_); refine goesL_ (some 10) rfl rfl Try.func61 (by kernel_rfl) rfl #[.slice A0 l0.length c0, .slice A1 l1.length c1] rfl (by (try simp only [List.map_toArray, List.map_cons, List.map_nil]); first | done | rfl | (simp only [List.length_drop, List.length_take]; rfl)) ?_; (with_reducible refine (spec_FindPattern.calls k _ _ l0 _ _ l1 t931 t932 t935 _ ?side1 ?side2 ?side3 ?side4 A3.out).mono ?_); (case side1 => repeat (first | exact HR0.out | (with_reducible refine Kd.C_alloc ?_ _) | (with_reducible refine Kd.C_drewN ?_ _) | (with_reducible refine Kd.C_drew ?_))); (case side2 => exact HC0.out); (case side3 => repeat (first | exact HR1.out | (with_reducible refine Kd.C_alloc ?_ _) | (with_reducible refine Kd.C_drewN ?_ _) | (with_reducible refine Kd.C_drew ?_))); (case side4 => exact HC1.out); rintro e w7 ⟨v933, rfl, ho0, hb⟩; refine ⟨_, rfl, ?_⟩; have n0_ := Aside0.mk (Kd.R_lower ho0 (below_size (by repeat (first | (with_reducible first | exact HB.out | apply below_alloc | apply pw_below_drewN | apply below_drew1) | exact HB.out)))); have n1_ := Aside0.mk (below_step (by repeat (first | (with_reducible first | exact HB.out | apply below_alloc | apply pw_below_drewN | apply below_drew1) | exact HB.out)) hb); clear HB; have HO934 := n0_; have HB := n1_; clear n0_ n1_; (try clear hb); (try clear hb2); (try clear hk); (try clear hi); (try clear ho0)) | ((with_reducible refine gate_dst (N := 5) rfl ?_); (try (refine gate_guard (by rfl) ?_; dsimp only)); refine box_event ?hg (N := 5) ?hd (cs := #[.int .i64 0, .slice none 0 0]) (t := 75) ?hr ?_; (case hd => rfl); (case hg => rfl); (case hr => first | (go_simp; done) | (go_simp; rfl)); intro gb936 hg w8 hbox hb; have n0_ := Aside0.mk (Kd.R_below (by (with_reducible repeat (first | apply Kd.R_alloc | apply Kd.R_drewN | apply Kd.R_drew)); exact HO934.out) hb); have n1_ := Aside0.mk (below_step (by repeat (first | (with_reducible first | exact HB.out | apply below_alloc | apply pw_below_drewN | apply below_drew1) | exact HB.out)) hb); have n2_ := Aside0.mk (hbox); have n3_ := Aside0.mk ((by rw [hg]; exact (below_size (by repeat (first | (with_reducible first | exact HB.out | apply below_alloc | apply pw_below_drewN | apply below_drew1) | exact HB.out))) : w.heap.size ≤ gb936)); have n4_ := Aside0.mk ((by rw [hg]; exact (below_size (by repeat (first | (with_reducible first | exact HB.out | apply below_alloc | apply pw_below_drewN | apply below_drew1) | exact HB.out))) : w.heap.size ≤ gb936)); clear HO934; clear HB; have HO934 := n0_; have HB := n1_; have BK936 := n2_; have GW936 := n3_; have GE936 := n4_; clear n0_ n1_ n2_ n3_ n4_; clear hb hbox hg; have hcz9_0 : w8.cell? ⟨gb936, 0, none⟩ = some (.int .i64 0) := (blk_cell BK936.out 0).trans rfl; have hcz9_1 : w8.cell? ⟨gb936, 1, none⟩ = some (.slice none 0 0) := (blk_cell BK936.out 1).trans rfl; have hfz9_0 := blk_frozen BK936.out 0; have hfz9_1 := blk_frozen BK936.out 1; obtain ⟨Ao10, co10, eo10⟩ := Kd.R_slice HO934.out; subst eo10) | ((with_reducible refine gate_callee (f := 63) rfl ?_); refine goesL_ (some 14) rfl rfl Try.func63 (by kernel_rfl) rfl #[.slice A1 l1.length c1] rfl (by (try simp only [List.map_toArray, List.map_cons, List.map_nil]); first | done | rfl | (simp only [List.length_drop, List.length_take]; rfl)) ?_; (with_reducible refine (spec_IsPattern.calls k _ _ l1 true _ ?side1 ?side2 A4.out).mono ?_); (case side1 => exact Kd.C_below HR1.out (by repeat (first | (with_reducible first | exact HB.out | apply below_alloc | apply pw_below_drewN | apply below_drew1 | refine below_set ?_ GE936.out) | exact HB.out))); (case side2 => exact HC1.out); rintro e w' ⟨rfl, ⟨nd, rfl⟩⟩; refine ⟨_, rfl, ?_⟩))
   go_ret
   exact ⟨by first | rfl | (simp [errW_none, errW_some] <;> rfl) | (simp [*, errW_none, errW_some] <;> rfl), by repeat (first | (with_reducible first | exact HB.out | apply below_alloc | apply pw_below_drewN | apply below_drew1 | refine below_set ?_ GE936.out) | exact HB.out)⟩
  ·rw [if_neg c6] at H
   have c6b0 : decide ((l0.length : Int) ≤ 24) = false := decide_eq_false c6
   have c6b1 : decide (l0.length ≤ 24) = false := decide_eq_false (by omega)
   clear c6
   obtain rfl := Option.some.inj H
   go_enter Try.func67, Try.ntmps67
   go_wp2_with (first | ((with_reducible refine gate_callee (f := 61) rfl ?_); refine goesL_ (some 10) rfl rfl Try.func61 (by kernel_rfl) rfl #[.slice A0 l0.length c0, .slice A1 l1.length c1] rfl (by (try simp only [List.map_toArray, List.map_cons, List.map_nil]); first | done | rfl | (simp only [List.length_drop, List.length_take]; rfl)) ?_; (with_reducible refine (spec_FindPattern.calls k _ _ l0 _ _ l1 t931 t932 t935 _ ?side1 ?side2 ?side3 ?side4 A3.out).mono ?_); (case side1 => repeat (first | exact HR0.out | (with_reducible refine Kd.C_alloc ?_ _) | (with_reducible refine Kd.C_drewN ?_ _) | (with_reducible refine Kd.C_drew ?_))); (case side2 => exact HC0.out); (case side3 => repeat (first | exact HR1.out | (with_reducible refine Kd.C_alloc ?_ _) | (with_reducible refine Kd.C_drewN ?_ _) | (with_reducible refine Kd.C_drew ?_))); (case side4 => exact HC1.out); rintro e w11 ⟨v933, rfl, ho0, hb⟩; refine ⟨_, rfl, ?_⟩; have n0_ := Aside0.mk (Kd.R_lower ho0 (below_size (by repeat (first | (with_reducible first | exact HB.out | apply below_alloc | apply pw_below_drewN | apply below_drew1) | exact HB.out)))); have n1_ := Aside0.mk (below_step (by repeat (first | (with_reducible first | exact HB.out | apply below_alloc | apply pw_below_drewN | apply below_drew1) | exact HB.out)) hb); clear HB; have HO934 := n0_; have HB := n1_; clear n0_ n1_; (try clear hb); (try clear hb2); (try clear hk); (try clear hi); (try clear ho0)) | ((with_reducible refine gate_dst (N := 5) rfl ?_); (try (refine gate_guard (by rfl) ?_; dsimp only)); refine box_event ?hg (N := 5) ?hd (cs := #[.int .i64 0, .slice none 0 0]) (t := 75) ?hr ?_; (case hd => rfl); (case hg => rfl); (case hr => first | (go_simp; done) | (go_simp; rfl)); intro gb936 hg w12 hbox hb; have n0_ := Aside0.mk (Kd.R_below (by (with_reducible repeat (first | apply Kd.R_alloc | apply Kd.R_drewN | apply Kd.R_drew)); exact HO934.out) hb); have n1_ := Aside0.mk (below_step (by repeat (first | (with_reducible first | exact HB.out | apply below_alloc | apply pw_below_drewN | apply below_drew1) | exact HB.out)) hb); have n2_ := Aside0.mk (hbox); have n3_ := Aside0.mk ((by rw [hg]; exact (below_size (by repeat (first | (with_reducible first | exact HB.out | apply below_alloc | apply pw_below_drewN | apply below_drew1) | exact HB.out))) : w.heap.size ≤ gb936)); have n4_ := Aside0.mk ((by rw [hg]; exact (below_size (by repeat (first | (with_reducible first | exact HB.out | apply below_alloc | apply pw_below_drewN | apply below_drew1) | exact HB.out))) : w.heap.size ≤ gb936)); clear HO934; clear HB; have HO934 := n0_; have HB := n1_; have BK936 := n2_; have GW936 := n3_; have GE936 := n4_; clear n0_ n1_ n2_ n3_ n4_; clear hb hbox hg; have hcz13_0 : w12.cell? ⟨gb936, 0, none⟩ = some (.int .i64 0) := (blk_cell BK936.out 0).trans rfl; have hcz13_1 : w12.cell? ⟨gb936, 1, none⟩ = some (.slice none 0 0) := (blk_cell BK936.out 1).trans rfl; have hfz13_0 := blk_frozen BK936.out 0; have hfz13_1 := blk_frozen BK936.out 1; obtain ⟨Ao14, co14, eo14⟩ := Kd.R_slice HO934.out; subst eo14) | ((with_reducible refine gate_callee (f := 63) rfl ?_); refine goesL_ (some 14) rfl rfl Try.func63 (by kernel_rfl) rfl #[.slice A1 l1.length c1] rfl (by (try simp only [List.map_toArray, List.map_cons, List.map_nil]); first | done | rfl | (simp only [List.length_drop, List.length_take]; rfl)) ?_; (with_reducible refine (spec_IsPattern.calls k _ _ l1 true _ ?side1 ?side2 A4.out).mono ?_); (case side1 => exact Kd.C_below HR1.out (by repeat (first | (with_reducible first | exact HB.out | apply below_alloc | apply pw_below_drewN | apply below_drew1 | refine below_set ?_ GE936.out) | exact HB.out))); (case side2 => exact HC1.out); rintro e w' ⟨rfl, ⟨nd, rfl⟩⟩; refine ⟨_, rfl, ?_⟩))
   go_ret
   exact ⟨by first | rfl | (simp [errW_none, errW_some] <;> rfl) | (simp [*, errW_none, errW_some] <;> rfl), by repeat (first | (with_reducible first | exact HB.out | apply below_alloc | apply pw_below_drewN | apply below_drew1 | refine below_set ?_ GE936.out) | exact HB.out)⟩
 ·replace c5 := Bool.eq_false_iff.mpr c5
  subst c5
  have H1 : (some false) = some r := by rw [if_neg (show ¬ (false = true) by decide)] at H; exact H
  clear H
  have H := H1
  clear H1
  obtain rfl := Option.some.inj H
  go_enter Try.func67, Try.ntmps67
  go_wp2_with (first | ((with_reducible refine gate_callee (f := 61) rfl ?_); refine goesL_ (some 10) rfl rfl Try.func61 (by kernel_rfl) rfl #[.slice A0 l0.length c0, .slice A1 l1.length c1] rfl (by (try simp only [List.map_toArray, List.map_cons, List.map_nil]); first | done | rfl | (simp only [List.length_drop, List.length_take]; rfl)) ?_; (with_reducible refine (spec_FindPattern.calls k _ _ l0 _ _ l1 t931 t932 t935 _ ?side1 ?side2 ?side3 ?side4 A3.out).mono ?_); (case side1 => repeat (first | exact HR0.out | (with_reducible refine Kd.C_alloc ?_ _) | (with_reducible refine Kd.C_drewN ?_ _) | (with_reducible refine Kd.C_drew ?_))); (case side2 => exact HC0.out); (case side3 => repeat (first | exact HR1.out | (with_reducible refine Kd.C_alloc ?_ _) | (with_reducible refine Kd.C_drewN ?_ _) | (with_reducible refine Kd.C_drew ?_))); (case side4 => exact HC1.out); rintro e w15 ⟨v933, rfl, ho0, hb⟩; refine ⟨_, rfl, ?_⟩; have n0_ := Aside0.mk (Kd.R_lower ho0 (below_size (by repeat (first | (with_reducible first | exact HB.out | apply below_alloc | apply pw_below_drewN | apply below_drew1) | exact HB.out)))); have n1_ := Aside0.mk (below_step (by repeat (first | (with_reducible first | exact HB.out | apply below_alloc | apply pw_below_drewN | apply below_drew1) | exact HB.out)) hb); clear HB; have HO934 := n0_; have HB := n1_; clear n0_ n1_; (try clear hb); (try clear hb2); (try clear hk); (try clear hi); (try clear ho0)) | ((with_reducible refine gate_dst (N := 5) rfl ?_); (try (refine gate_guard (by rfl) ?_; dsimp only)); refine box_event ?hg (N := 5) ?hd (cs := #[.int .i64 0, .slice none 0 0]) (t := 75) ?hr ?_; (case hd => rfl); (case hg => rfl); (case hr => first | (go_simp; done) | (go_simp; rfl)); intro gb936 hg w16 hbox hb; have n0_ := Aside0.mk (Kd.R_below (by (with_reducible repeat (first | apply Kd.R_alloc | apply Kd.R_drewN | apply Kd.R_drew)); exact HO934.out) hb); have n1_ := Aside0.mk (below_step (by repeat (first | (with_reducible first | exact HB.out | apply below_alloc | apply pw_below_drewN | apply below_drew1) | exact HB.out)) hb); have n2_ := Aside0.mk (hbox); have n3_ := Aside0.mk ((by rw [hg]; exact (below_size (by repeat (first | (with_reducible first | exact HB.out | apply below_alloc | apply pw_below_drewN | apply below_drew1) | exact HB.out))) : w.heap.size ≤ gb936)); have n4_ := Aside0.mk ((by rw [hg]; exact (below_size (by repeat (first | (with_reducible first | exact HB.out | apply below_alloc | apply pw_below_drewN | apply below_drew1) | exact HB.out))) : w.heap.size ≤ gb936)); clear HO934; clear HB; have HO934 := n0_; have HB := n1_; have BK936 := n2_; have GW936 := n3_; have GE936 := n4_; clear n0_ n1_ n2_ n3_ n4_; clear hb hbox hg; have hcz17_0 : w16.cell? ⟨gb936, 0, none⟩ = some (.int .i64 0) := (blk_cell BK936.out 0).trans rfl; have hcz17_1 : w16.cell? ⟨gb936, 1, none⟩ = some (.slice none 0 0) := (blk_cell BK936.out 1).trans rfl; have hfz17_0 := blk_frozen BK936.out 0; have hfz17_1 := blk_frozen BK936.out 1; obtain ⟨Ao18, co18, eo18⟩ := Kd.R_slice HO934.out; subst eo18) | ((with_reducible refine gate_callee (f := 63) rfl ?_); refine goesL_ (some 14) rfl rfl Try.func63 (by kernel_rfl) rfl #[.slice A1 l1.length c1] rfl (by (try simp only [List.map_toArray, List.map_cons, List.map_nil]); first | done | rfl | (simp only [List.length_drop, List.length_take]; rfl)) ?_; (with_reducible refine (spec_IsPattern.calls k _ _ l1 false _ ?side1 ?side2 A4.out).mono ?_); (case side1 => exact Kd.C_below HR1.out (by repeat (first | (with_reducible first | exact HB.out | apply below_alloc | apply pw_below_drewN | apply below_drew1 | refine below_set ?_ GE936.out) | exact HB.out))); (case side2 => exact HC1.out); rintro e w' ⟨rfl, ⟨nd, rfl⟩⟩; refine ⟨_, rfl, ?_⟩))
  go_ret
  exact ⟨by first | rfl | (simp [errW_none, errW_some] <;> rfl) | (simp [*, errW_none, errW_some] <;> rfl), by repeat (first | (with_reducible first | exact HB.out | apply below_alloc | apply pw_below_drewN | apply below_drew1 | refine below_set ?_ GE936.out) | exact HB.out)⟩

end Go.Proofs.Ythkkpdgadfhijaa.M
/- The reference finds the same first match, trying all lengths in order; what it asks of words that go on. No condition but lengths that fit. -/
namespace Go.Proofs.Ythkkpdgadfhijaa.M
open Go.RowKit Go.Proofs.YthkkpdgadfhijaaW.PrintWords Go.Proofs.Ythkkpdgadfhijaa.K
set_option linter.unusedVariables false
/-- The three lengths, as the reference keeps them. -/
def abc (a b c : Nat) : List Int := [(a : Int), (b : Int), (c : Int)]
theorem abc_len (a b c : Nat) : (abc a b c).length = 3 := rfl
theorem rdA0 (a b c : Nat) : rd (abc a b c) 0 = (a : Int) := rfl
theorem rdA1 (a b c : Nat) : rd (abc a b c) 1 = (b : Int) := rfl
theorem rdA2 (a b c : Nat) : rd (abc a b c) 2 = (c : Int) := rfl
theorem setA0 (a b c v : Nat) : (abc a b c).set 0 (v : Int) = abc v b c := rfl
theorem setA1 (a b c v : Nat) : (abc a b c).set 1 (v : Int) = abc a v c := rfl
theorem setA2 (a b c v : Nat) : (abc a b c).set 2 (v : Int) = abc a b v := rfl
theorem oneA1 (a b c : Nat) : (abc a b c).set (Int.toNat 1) 1 = abc a 1 c := rfl
theorem oneA2 (a b c : Nat) : (abc a b c).set (Int.toNat 2) 1 = abc a b 1 := rfl
theorem dec1 : wrap64 ((1 : Int) - 1) = 0 := by unfold wrap64; omega
theorem dec2 : wrap64 ((2 : Int) - 1) = 1 := by unfold wrap64; omega
section find
variable (w p : List Int) (hw : w.length ≤ 24) (hp : p.length ≤ 1048576)
include hw
theorem specFP_carry1 (m at_ a b c : Nat) (R : Int × List Int × Bool) (h : Ev (fun k => spec_FindPattern.l1 k w p (m : Int) (at_ : Int) (abc (a + 1) b c)) R) : Ev (fun k => spec_FindPattern.l2 k w p (m : Int) (at_ : Int) (abc (a + 1) b c) 0) R :=
  have _ := hw
  Ev.step (fun k => by simp only [spec_FindPattern.l2]; rw [_root_.if_neg (by omega)]) h
theorem specFP_carry2 (m at_ a b c : Nat) (hb : b ≤ w.length) (ha : a ≤ w.length) (R : Int × List Int × Bool) (h : Ev (fun k => spec_FindPattern.l1 k w p (m : Int) (at_ : Int) (if b < w.length then abc a (b + 1) c else abc (a + 1) 1 c)) R) : Ev (fun k => spec_FindPattern.l2 k w p (m : Int) (at_ : Int) (abc a (b + 1) c) 1) R := by
  by_cases q : b < w.length
  · rw [_root_.if_pos q] at h
    refine Ev.step (fun k => by simp only [spec_FindPattern.l2]; rw [_root_.if_pos (by omega), _root_.if_pos (by omega), _root_.if_pos (by rw [abc_len]; omega), rdA1, _root_.if_neg (by omega)]) h
  · rw [_root_.if_neg q] at h
    refine Ev.step (fun k => by simp only [spec_FindPattern.l2]; rw [_root_.if_pos (by omega), _root_.if_pos (by omega), _root_.if_pos (by rw [abc_len]; omega), rdA1, _root_.if_pos (by omega), oneA1, dec1, Option.bind_some, _root_.if_pos (by omega), _root_.if_pos (by rw [abc_len]; omega), show (0 : Int).toNat = 0 from rfl, rdA0, wsucc (i := a) (by omega), setA0]) (specFP_carry1 w p hw m at_ a 1 c R h)
theorem specFP_carry3 (m at_ a b c : Nat) (hc : c ≤ w.length) (hb : b ≤ w.length) (ha : a ≤ w.length) (R : Int × List Int × Bool) (h : Ev (fun k => spec_FindPattern.l1 k w p (m : Int) (at_ : Int) (if c < w.length then abc a b (c + 1) else if b < w.length then abc a (b + 1) 1 else abc (a + 1) 1 1)) R) : Ev (fun k => spec_FindPattern.l2 k w p (m : Int) (at_ : Int) (abc a b (c + 1)) 2) R := by
  by_cases q : c < w.length
  · rw [_root_.if_pos q] at h
    refine Ev.step (fun k => by simp only [spec_FindPattern.l2]; rw [_root_.if_pos (by omega), _root_.if_pos (by omega), _root_.if_pos (by rw [abc_len]; omega), rdA2, _root_.if_neg (by omega)]) h
  · rw [_root_.if_neg q] at h
    refine Ev.step (fun k => by simp only [spec_FindPattern.l2]; rw [_root_.if_pos (by omega), _root_.if_pos (by omega), _root_.if_pos (by rw [abc_len]; omega), rdA2, _root_.if_pos (by omega), oneA2, dec2, Option.bind_some, _root_.if_pos (by omega), _root_.if_pos (by rw [abc_len]; omega), show (1 : Int).toNat = 1 from rfl, rdA1, wsucc (i := b) (by omega), setA1]) (specFP_carry2 w p hw m at_ a b 1 hb ha R h)
/-- One round: what is tried, and what comes next. -/
theorem specFP_round (at_ m : Nat) (L3 : List Int) (hp : p.length ≤ 1048576) (hl : L3.length = 3) (hm : m ≤ 3) (hm1 : 1 ≤ m) (h0 : rd L3 0 ≤ (w.length : Int)) (hx : ∀ y ∈ L3, 0 ≤ y ∧ y ≤ 1000) (R : Int × List Int × Bool) (v : Option (List Int)) (hR : ∀ L, FA w p at_ (L3.take m) = some L → R = ((at_ : Int), L, true))
    (h : FA w p at_ (L3.take m) = none → Ev (fun k => spec_FindPattern.l2 k w p (m : Int) (at_ : Int) (L3.set (m - 1) (rd L3 ((m - 1 : Nat) : Int) + 1)) ((m - 1 : Nat) : Int)) R) : Ev (fun k => spec_FindPattern.l1 k w p (m : Int) (at_ : Int) L3) R := by
  refine Ev.step (fun k => by simp only [spec_FindPattern.l1]; rw [_root_.if_pos (by omega), _root_.if_pos h0, _root_.if_pos (by omega), _root_.if_pos (by omega), Int.toNat_natCast]) ?_
  refine Ev.bind (specMatchAt_ev w p at_ (L3.take m) (by omega) hp (by rw [List.length_take]; omega)) ?_
  unfold FA at hR h
  by_cases q : mAt w p at_ (L3.take m) = true
  · rw [_root_.if_pos q] at hR
    rw [hR _ rfl]
    refine Ev.if_pos q (Ev.bind (Ev.some _) (Ev.bind (Ev.some _) (Ev.if_pos (by rw [List.length_take]; simp; omega) (Ev.some _))))
  · rw [_root_.if_neg q] at h
    have e : wrap64 ((m : Int) - 1) = ((m - 1 : Nat) : Int) := by rw [w_id (by omega) (by omega)]; omega
    have hy : rd L3 ((m - 1 : Nat) : Int) + 1 ≤ 1001 ∧ 0 ≤ rd L3 ((m - 1 : Nat) : Int) := by
      rw [rd_get L3 (m - 1) (by omega)]
      have := hx _ (List.getElem_mem (show m - 1 < L3.length by omega))
      omega
    refine Ev.if_neg q ?_
    refine Ev.congr (fun k => by rw [e, _root_.if_pos (by omega), _root_.if_pos (by omega), Int.toNat_natCast, w_id (by omega) (by omega)]) (h rfl)
theorem specFP_loop (at_ : Nat) (hp : p.length ≤ 1048576) (hP : isPat p = true) (hat : at_ < w.length) (R : Int × List Int × Bool) (h : Ev (fun k => spec_FindPattern.l0 k w p (nl p : Int) ((at_ + 1 : Nat) : Int)) R) :
    Ev (fun k => spec_FindPattern.l1 k w p (nl p : Int) (at_ : Int) [1, 1, 1]) (match srch w.length (FA w p at_) (nl p - 1) [] 1 with | none => R | some L => ((at_ : Int), L, true)) := by
  obtain ⟨h0, h6, h3, h1⟩ := isPat_nl hP
  have hend : ∀ b c, Ev (fun k => spec_FindPattern.l1 k w p (nl p : Int) (at_ : Int) (abc (w.length + 1) b c)) R := fun b c =>
    Ev.step (fun k => by simp only [spec_FindPattern.l1]; rw [_root_.if_pos (by rw [abc_len]; omega), rdA0, _root_.if_neg (by omega), wsucc (i := at_) (by omega)]) h
  have hx : ∀ a b c : Nat, a ≤ w.length → b ≤ w.length → c ≤ w.length → ∀ y ∈ abc a b c, 0 ≤ y ∧ y ≤ 1000 := by
    intro a b c ha hb hc y hy
    simp only [abc, List.mem_cons, List.not_mem_nil, or_false] at hy
    rcases hy with rfl | rfl | rfl <;> omega
  have out : ∀ (F v : Option (List Int)) L, F = some L → (match F.or v with | none => R | some L => ((at_ : Int), L, true)) = ((at_ : Int), L, true) := by rintro _ v L rfl; rfl
  have nxt : ∀ (F v : Option (List Int)), F = none → (match F.or v with | none => R | some L => ((at_ : Int), L, true)) = (match v with | none => R | some L => ((at_ : Int), L, true)) := by rintro _ v rfl; rfl
  rcases (show nl p = 1 ∨ nl p = 2 ∨ nl p = 3 by omega) with e | e | e
  · rw [e] at hend ⊢
    refine odo1 w.length (FA w p at_) (fun a v => Ev (fun k => spec_FindPattern.l1 k w p ((1 : Nat) : Int) (at_ : Int) (abc a 1 1)) (match v with | none => R | some L => ((at_ : Int), L, true))) (hend 1 1) ?_
    intro a ha v hv
    refine specFP_round w p hw at_ 1 (abc a 1 1) hp rfl (by omega) (by omega) (by rw [rdA0]; omega) (hx a 1 1 ha (by omega) (by omega)) _ v (fun L hL => out _ _ _ hL) (fun hn => ?_)
    have hn' : FA w p at_ [(a : Int)] = none := hn
    rw [nxt _ _ hn']
    exact specFP_carry1 w p hw 1 at_ a 1 1 _ hv
  · rw [e] at hend ⊢
    refine odo2 w.length (FA w p at_) (fun a b v => Ev (fun k => spec_FindPattern.l1 k w p ((2 : Nat) : Int) (at_ : Int) (abc a b 1)) (match v with | none => R | some L => ((at_ : Int), L, true))) (fun b => hend b 1) ?_ ?_
    · intro a b ha hb v hv
      refine specFP_round w p hw at_ 2 (abc a b 1) hp rfl (by omega) (by omega) (by rw [rdA0]; omega) (hx a b 1 ha (by omega) (by omega)) _ v (fun L hL => out _ _ _ hL) (fun hn => ?_)
      have hn' : FA w p at_ [(a : Int), (b : Int)] = none := hn
      rw [nxt _ _ hn']
      exact specFP_carry2 w p hw 2 at_ a b 1 (by omega) ha _ (by rw [_root_.if_pos hb]; exact hv)
    · intro a ha v hv
      refine specFP_round w p hw at_ 2 (abc a w.length 1) hp rfl (by omega) (by omega) (by rw [rdA0]; omega) (hx a w.length 1 ha (by omega) (by omega)) _ v (fun L hL => out _ _ _ hL) (fun hn => ?_)
      have hn' : FA w p at_ [(a : Int), (w.length : Int)] = none := hn
      rw [nxt _ _ hn']
      exact specFP_carry2 w p hw 2 at_ a w.length 1 (by omega) ha _ (by rw [_root_.if_neg (by omega)]; exact hv)
  · rw [e] at hend ⊢
    refine odo3 w.length (FA w p at_) (fun a b c v => Ev (fun k => spec_FindPattern.l1 k w p ((3 : Nat) : Int) (at_ : Int) (abc a b c)) (match v with | none => R | some L => ((at_ : Int), L, true))) hend ?_ ?_ ?_
    · intro a b c ha hb hc v hv
      refine specFP_round w p hw at_ 3 (abc a b c) hp rfl (by omega) (by omega) (by rw [rdA0]; omega) (hx a b c ha (by omega) (by omega)) _ v (fun L hL => out _ _ _ hL) (fun hn => ?_)
      have hn' : FA w p at_ [(a : Int), (b : Int), (c : Int)] = none := hn
      rw [nxt _ _ hn']
      exact specFP_carry3 w p hw 3 at_ a b c (by omega) hb ha _ (by rw [_root_.if_pos hc]; exact hv)
    · intro a b ha hb v hv
      refine specFP_round w p hw at_ 3 (abc a b w.length) hp rfl (by omega) (by omega) (by rw [rdA0]; omega) (hx a b w.length ha (by omega) (by omega)) _ v (fun L hL => out _ _ _ hL) (fun hn => ?_)
      have hn' : FA w p at_ [(a : Int), (b : Int), (w.length : Int)] = none := hn
      rw [nxt _ _ hn']
      exact specFP_carry3 w p hw 3 at_ a b w.length (by omega) (by omega) ha _ (by rw [_root_.if_neg (by omega), _root_.if_pos hb]; exact hv)
    · intro a ha v hv
      refine specFP_round w p hw at_ 3 (abc a w.length w.length) hp rfl (by omega) (by omega) (by rw [rdA0]; omega) (hx a w.length w.length ha (by omega) (by omega)) _ v (fun L hL => out _ _ _ hL) (fun hn => ?_)
      have hn' : FA w p at_ [(a : Int), (w.length : Int), (w.length : Int)] = none := hn
      rw [nxt _ _ hn']
      exact specFP_carry3 w p hw 3 at_ a w.length w.length (by omega) (by omega) ha _ (by rw [_root_.if_neg (by omega), _root_.if_neg (by omega)]; exact hv)
end find
theorem specFind_ev (w p : List Int) (hw : w.length ≤ 1048576) (hp : p.length ≤ 1048576) : Ev (fun k => spec_FindPattern.f k w p) (fres (fnd w p)) := by
  have bad : ∀ b, b = true → Ev (fun k => spec_FindPattern.j0 k w p b) (fres none) := fun b hb => by
    refine Ev.step (fun k => by simp only [spec_FindPattern.j0]; rw [_root_.if_pos hb]) ?_
    exact Ev.some _
  unfold spec_FindPattern.f fnd
  refine Ev.bind (specIsPattern_ev p hp) ?_
  by_cases h : isPat p = true
  · refine Ev.if_pos h ?_
    by_cases h2 : w.length ≤ 24
    · rw [_root_.if_pos ⟨h, h2⟩, decide_eq_false (by omega)]
      have key : ∀ a, a ≤ w.length → Ev (fun k => spec_FindPattern.l0 k w p (nl p : Int) (a : Int)) (fres (fFrom w p a)) := by
        refine down w.length ?_ ?_
        · refine Ev.step (fun k => by simp only [spec_FindPattern.l0]; rw [_root_.if_neg (by omega)]) ?_
          rw [fFrom_end _ _ _ (Nat.le_refl _)]; exact Ev.some _
        · intro a ha ih
          refine Ev.step (fun k => by simp only [spec_FindPattern.l0]; rw [_root_.if_pos (by omega)]) ?_
          rw [fFrom_step _ _ _ ha, ← srch_all]
          refine Ev.same (specFP_loop w p h2 a hp h ha _ ih) ?_
          cases srch w.length (FA w p a) (nl p - 1) [] 1 <;> rfl
      refine Ev.step (fun k => by simp only [spec_FindPattern.j0]; rw [_root_.if_neg (by simp)]) ?_
      exact Ev.bind (specLetters_ev p h) (key 0 (by omega))
    · rw [_root_.if_neg (fun q => h2 q.2), decide_eq_true (by omega)]; exact bad _ rfl
  · rw [_root_.if_neg (fun q => h q.1)]
    exact Ev.if_neg h (bad _ rfl)
theorem specAvoids_ev (w p : List Int) (hw : w.length ≤ 1048576) (hp : p.length ≤ 1048576) : Ev (fun k => spec_AvoidsPattern.f k w p) (decide (isPat p = true ∧ w.length ≤ 24 ∧ fnd w p = none)) := by
  unfold spec_AvoidsPattern.f
  refine Ev.bind (specFind_ev w p hw hp) (Ev.bind (specIsPattern_ev p hp) ?_)
  refine Ev.ite (fun h => ?_) (fun h => ?_)
  · refine Ev.ite (fun h2 => ?_) (fun h2 => ?_)
    · refine Ev.same (Ev.some _) ?_
      cases q : fnd w p with
      | none => rw [decide_eq_true ⟨h, by omega, rfl⟩]; rfl
      | some x => rw [decide_eq_false (by simp)]; obtain ⟨i, L⟩ := x; rfl
    · rw [decide_eq_false (by omega)]; exact Ev.some _
  · rw [decide_eq_false (fun q => h q.1)]; exact Ev.some _
end Go.Proofs.Ythkkpdgadfhijaa.M
/- Walks for this claim, written by a program of mine over the kit's print. No condition of mine. -/
namespace Go.Proofs.Ythkkpdgadfhijaa.M
open Go.RowKit Go.Proofs.Ythkkpdgadfhijaa.KW Go.Proofs.YthkkpdgadfhijaaW.PrintWords Go.Proofs.YthkkpdgadfhijaaW.PrintLast Go.Proofs.YthkkpdgadfhijaaW.PrintMore
attribute [local go_sem] max2_int min2_int max_two min_two max_three min_three max_four min_four   -- for this text's walks alone
set_option linter.unusedVariables false
set_option linter.unusedSimpArgs false

/-! ### spec_IsWord: function 56 -/
def spec_IsWord.l0 : Nat → List Int → Int → Int → Option (Bool)
 | 0, _, _, _ => none
 | k + 1, x0, x1, x5 => if x5 < (x0.length : Int) then (if 0 ≤ x5 then (if (rd x0 x5) < 0 then (some false) else (if (rd x0 x5) ≥ x1 then (some false) else (spec_IsWord.l0 k x0 x1 (wrap64 (x5 + 1))))) else (none)) else ((spec_l1In.f x1 1 16).bind fun t902 => (if t902 = true then (some (decide ((x0.length : Int) ≤ 400))) else (some false)))
def spec_IsWord.f (k : Nat) (l0 : List Int) (a1 : Int) : Option (Bool) := spec_IsWord.l0 k l0 a1 0
theorem spec_IsWord.mono_l : ∀ k, (∀ y0 y1 y2, LeO (spec_IsWord.l0 k y0 y1 y2) (spec_IsWord.l0 (k + 1) y0 y1 y2))
 | 0 => fun _ _ _ r h => by simp [spec_IsWord.l0] at h
 | k + 1 => by
  have ih0 := spec_IsWord.mono_l k
  ·intro y0 y1 y2
   unfold spec_IsWord.l0
   repeat' first
   | (with_reducible exact ih0 _ _ _)
   | (with_reducible exact LeO.refl _)
   | (with_reducible exact LeO.none _)
   | (with_reducible refine LeO.ite ?_ ?_)
   | (with_reducible refine LeO.bind ?_ (fun _ => ?_))
   | exact ih0 _ _ _
   | exact LeO.none _
   | refine LeO.ite ?_ ?_
   | refine LeO.bind ?_ (fun _ => ?_)
theorem spec_IsWord.mono : ∀ a0 a1 k, LeO (spec_IsWord.f k a0 a1) (spec_IsWord.f (k + 1) a0 a1) := by
 intro a0 a1 k
 have ih0 := spec_IsWord.mono_l k
 unfold spec_IsWord.f
 repeat' first
   | (with_reducible exact ih0 _ _ _)
   | (with_reducible exact LeO.refl _)
   | (with_reducible exact LeO.none _)
   | (with_reducible refine LeO.ite ?_ ?_)
   | (with_reducible refine LeO.bind ?_ (fun _ => ?_))
   | exact ih0 _ _ _
   | exact LeO.none _
   | refine LeO.ite ?_ ?_
   | refine LeO.bind ?_ (fun _ => ?_)
set_option maxHeartbeats 8000000 in
set_option maxRecDepth 100000 in
theorem spec_IsWord.calls (k : Nat) (A0 : Option Addr) (c0 : Nat) (l0 : List Int) (a1 : Int) (r : Bool) (w : World) (hr0 : Kd.C (Kd.int .i64) w A0 l0.length l0) (hc0 : l0.length ≤ c0) (h : spec_IsWord.f k l0 a1 = some r) :
  Calls Try.prog 56 #[.slice A0 l0.length c0, .int .i64 a1] w fun e w' => e = .returned (.bool r) ∧ Drawn0 w w' := by
 have HR0 := Aside0.mk hr0
 have HC0 := Aside0.mk hc0
 clear hr0 hc0
 have H : (spec_IsWord.l0 k l0 a1 0) = some r := h
 clear h
 have H' := Aside0.mk H
 clear H
 go_enter Try.func56, Try.ntmps56
 go_wp2
 go_loopg [5] k (fun kq v5 w' => ∃ (x5_1 : Int), v5 = .int .i64 x5_1 ∧ Aside0 (spec_IsWord.l0 kq l0 a1 x5_1 = some r) ∧ Aside0 (kq ≤ k) ∧ Drawn0 w w')
 case atStart => exact ⟨(0), (by first | rfl | (simp; done) | (simp [*]; done)), H', ⟨Nat.le_refl _⟩, by repeat (first | exact Drawn0.refl _ | apply Drawn0.step)⟩
 case round =>
  clear H'
  try clear p2
  obtain ⟨x5_1, rfl, HA, HK1, ⟨m1, rfl⟩⟩ := hrel
  cases gk with
  | zero => exact absurd HA.out (by simp [spec_IsWord.l0])
  | succ k1 =>
   have H := HA.out
   clear HA
   simp only [spec_IsWord.l0] at H
   by_cases c3 : x5_1 < (l0.length : Int)
   ·rw [if_pos c3] at H
    have c3b0 : decide (x5_1 < (l0.length : Int)) = true := decide_eq_true c3
    clear c3
    by_cases c4 : 0 ≤ x5_1
    ·rw [if_pos c4] at H
     have c4b0 : decide (0 ≤ x5_1) = true := decide_eq_true c4
     clear c4
     by_cases c5 : (rd l0 x5_1) < 0
     ·rw [if_pos c5] at H
      have c5b0 : decide ((rd l0 x5_1) < 0) = true := decide_eq_true c5
      clear c5
      obtain rfl := Option.some.inj H
      have p900 : 0 ≤ (x5_1 : Int) := of_decide_eq_true (by first | (with_reducible assumption) | assumption)
      have q900 : x5_1 < (l0.length : Int) := of_decide_eq_true (by first | (with_reducible assumption) | assumption)
      obtain ⟨ad900, e900, hx900_0⟩ := Kd.at_int HR0.out x5_1 p900 q900
      cases e900
      replace p900 := eq_true p900
      replace q900 := eq_true q900
      go_wp2
      go_ret
      exact ⟨by first | rfl | (simp; done) | (simp [*]; done), by repeat (first | exact Drawn0.refl _ | apply Drawn0.step)⟩
     ·rw [if_neg c5] at H
      have c5b0 : decide ((rd l0 x5_1) < 0) = false := decide_eq_false c5
      clear c5
      by_cases c6 : (rd l0 x5_1) ≥ a1
      ·rw [if_pos c6] at H
       have c6b0 : decide (a1 ≤ (rd l0 x5_1)) = true := decide_eq_true c6
       clear c6
       obtain rfl := Option.some.inj H
       have p900 : 0 ≤ (x5_1 : Int) := of_decide_eq_true (by first | (with_reducible assumption) | assumption)
       have q900 : x5_1 < (l0.length : Int) := of_decide_eq_true (by first | (with_reducible assumption) | assumption)
       obtain ⟨ad900, e900, hx900_0⟩ := Kd.at_int HR0.out x5_1 p900 q900
       cases e900
       replace p900 := eq_true p900
       replace q900 := eq_true q900
       have p901 : 0 ≤ (x5_1 : Int) := of_decide_eq_true (by first | (with_reducible assumption) | assumption)
       have q901 : x5_1 < (l0.length : Int) := of_decide_eq_true (by first | (with_reducible assumption) | assumption)
       obtain ⟨ad901, e901, hx901_0⟩ := Kd.at_int HR0.out x5_1 p901 q901
       obtain rfl : ad900 = ad901 := (by injection e901)
       replace p901 := eq_true p901
       replace q901 := eq_true q901
       go_wp2
       go_ret
       exact ⟨by first | rfl | (simp; done) | (simp [*]; done), by repeat (first | exact Drawn0.refl _ | apply Drawn0.step)⟩
      ·rw [if_neg c6] at H
       have c6b0 : decide (a1 ≤ (rd l0 x5_1)) = false := decide_eq_false c6
       clear c6
       have H' := Aside0.mk H
       clear H
       have p900 : 0 ≤ (x5_1 : Int) := of_decide_eq_true (by first | (with_reducible assumption) | assumption)
       have q900 : x5_1 < (l0.length : Int) := of_decide_eq_true (by first | (with_reducible assumption) | assumption)
       obtain ⟨ad900, e900, hx900_0⟩ := Kd.at_int HR0.out x5_1 p900 q900
       cases e900
       replace p900 := eq_true p900
       replace q900 := eq_true q900
       have p901 : 0 ≤ (x5_1 : Int) := of_decide_eq_true (by first | (with_reducible assumption) | assumption)
       have q901 : x5_1 < (l0.length : Int) := of_decide_eq_true (by first | (with_reducible assumption) | assumption)
       obtain ⟨ad901, e901, hx901_0⟩ := Kd.at_int HR0.out x5_1 p901 q901
       obtain rfl : ad900 = ad901 := (by injection e901)
       replace p901 := eq_true p901
       replace q901 := eq_true q901
       go_wp2
       go_roundg k1
       case measure => have := HK1.out; omega
       case rel => exact ⟨(wrap64 (x5_1 + 1)), (by first | rfl | (simp; done) | (simp [*]; done)), H', ⟨by have := HK1.out; omega⟩, by repeat (first | exact Drawn0.refl _ | apply Drawn0.step)⟩
    ·rw [if_neg c4] at H
     exact absurd H (by simp)
   ·rw [if_neg c3] at H
    have c3b0 : decide (x5_1 < (l0.length : Int)) = false := decide_eq_false c3
    clear c3
    replace H := Option.bind_eq_some_iff.mp H
    obtain ⟨t902, A70, H⟩ := H
    replace H : (if t902 = true then (some (decide ((l0.length : Int) ≤ 400))) else (some false)) = some r := H
    have A7 := Aside0.mk A70
    clear A70
    by_cases c8 : t902 = true
    ·subst c8
     have H1 : (some (decide ((l0.length : Int) ≤ 400))) = some r := by rw [if_pos rfl] at H; exact H
     clear H
     have H := H1
     clear H1
     obtain rfl := Option.some.inj H
     go_wp2_with (first | ((with_reducible refine gate_callee (f := 82) rfl ?_); refine goesL_ (some 26) rfl rfl Try.func82 (by kernel_rfl) rfl #[.int .i64 a1, .int .i64 1, .int .i64 16] rfl (by (try simp only [List.map_toArray, List.map_cons, List.map_nil]); first | done | rfl | (simp only [List.length_drop, List.length_take]; rfl)) ?_; (with_reducible refine (spec_l1In.calls a1 1 16 true _ A7.out).mono ?_); rintro e w' ⟨rfl, ⟨nd, rfl⟩⟩; refine ⟨_, rfl, ?_⟩))
     go_ret
     exact ⟨by first | rfl | (simp; done) | (simp [*]; done), by repeat (first | exact Drawn0.refl _ | apply Drawn0.step)⟩
    ·replace c8 := Bool.eq_false_iff.mpr c8
     subst c8
     have H1 : (some false) = some r := by rw [if_neg (show ¬ (false = true) by decide)] at H; exact H
     clear H
     have H := H1
     clear H1
     obtain rfl := Option.some.inj H
     go_wp2_with (first | ((with_reducible refine gate_callee (f := 82) rfl ?_); refine goesL_ (some 26) rfl rfl Try.func82 (by kernel_rfl) rfl #[.int .i64 a1, .int .i64 1, .int .i64 16] rfl (by (try simp only [List.map_toArray, List.map_cons, List.map_nil]); first | done | rfl | (simp only [List.length_drop, List.length_take]; rfl)) ?_; (with_reducible refine (spec_l1In.calls a1 1 16 false _ A7.out).mono ?_); rintro e w' ⟨rfl, ⟨nd, rfl⟩⟩; refine ⟨_, rfl, ?_⟩))
     go_ret
     exact ⟨by first | rfl | (simp; done) | (simp [*]; done), by repeat (first | exact Drawn0.refl _ | apply Drawn0.step)⟩

end Go.Proofs.Ythkkpdgadfhijaa.M
/- Walks for this claim, written by a program of mine over the kit's print. No condition of mine. -/
namespace Go.Proofs.Ythkkpdgadfhijaa.M
open Go.RowKit Go.Proofs.Ythkkpdgadfhijaa.KW Go.Proofs.YthkkpdgadfhijaaW.PrintWords Go.Proofs.YthkkpdgadfhijaaW.PrintLast Go.Proofs.YthkkpdgadfhijaaW.PrintMore
attribute [local go_sem] max2_int min2_int max_two min_two max_three min_three max_four min_four   -- for this text's walks alone
set_option linter.unusedVariables false
set_option linter.unusedSimpArgs false

/-! ### impl_areLetters: function 150 -/
def impl_areLetters.l0 : Nat → Int → List Int → Int → Int → Option (Bool)
 | 0, _, _, _, _ => none
 | k + 1, x1, x7, x8, x9 => if x9 < x8 then (if 0 ≤ x9 then (if x9 < (x7.length : Int) then (if (rd x7 x9) < 0 then (some false) else (if (rd x7 x9) ≥ x1 then (some false) else (impl_areLetters.l0 k x1 x7 x8 (wrap64 (x9 + 1))))) else (none)) else (none)) else (some true)
def impl_areLetters.f (k : Nat) (l0 : List Int) (a1 : Int) : Option (Bool) := impl_areLetters.l0 k a1 l0 (l0.length : Int) 0
theorem impl_areLetters.mono_l : ∀ k, (∀ y0 y1 y2 y3, LeO (impl_areLetters.l0 k y0 y1 y2 y3) (impl_areLetters.l0 (k + 1) y0 y1 y2 y3))
 | 0 => fun _ _ _ _ r h => by simp [impl_areLetters.l0] at h
 | k + 1 => by
  have ih0 := impl_areLetters.mono_l k
  ·intro y0 y1 y2 y3
   unfold impl_areLetters.l0
   repeat' first
   | (with_reducible exact ih0 _ _ _ _)
   | (with_reducible exact LeO.refl _)
   | (with_reducible exact LeO.none _)
   | (with_reducible refine LeO.ite ?_ ?_)
   | (with_reducible refine LeO.bind ?_ (fun _ => ?_))
   | exact ih0 _ _ _ _
   | exact LeO.none _
   | refine LeO.ite ?_ ?_
   | refine LeO.bind ?_ (fun _ => ?_)
theorem impl_areLetters.mono : ∀ a0 a1 k, LeO (impl_areLetters.f k a0 a1) (impl_areLetters.f (k + 1) a0 a1) := by
 intro a0 a1 k
 have ih0 := impl_areLetters.mono_l k
 unfold impl_areLetters.f
 repeat' first
   | (with_reducible exact ih0 _ _ _ _)
   | (with_reducible exact LeO.refl _)
   | (with_reducible exact LeO.none _)
   | (with_reducible refine LeO.ite ?_ ?_)
   | (with_reducible refine LeO.bind ?_ (fun _ => ?_))
   | exact ih0 _ _ _ _
   | exact LeO.none _
   | refine LeO.ite ?_ ?_
   | refine LeO.bind ?_ (fun _ => ?_)
set_option maxHeartbeats 8000000 in
set_option maxRecDepth 100000 in
theorem impl_areLetters.calls (k : Nat) (A0 : Option Addr) (c0 : Nat) (l0 : List Int) (a1 : Int) (r : Bool) (w : World) (hr0 : Kd.C (Kd.int .i64) w A0 l0.length l0) (hc0 : l0.length ≤ c0) (h : impl_areLetters.f k l0 a1 = some r) :
  Calls Try.prog 150 #[.slice A0 l0.length c0, .int .i64 a1] w fun e w' => e = .returned (.bool r) ∧ Drawn0 w w' := by
 have HR0 := Aside0.mk hr0
 have HC0 := Aside0.mk hc0
 clear hr0 hc0
 have H : (impl_areLetters.l0 k a1 l0 (l0.length : Int) 0) = some r := h
 clear h
 have H' := Aside0.mk H
 clear H
 go_enter Try.func150, Try.ntmps150
 go_wp2
 go_loopg [9] k (fun kq v9 w' => ∃ (x9_1 : Int), v9 = .int .i64 x9_1 ∧ Aside0 (impl_areLetters.l0 kq a1 l0 (l0.length : Int) x9_1 = some r) ∧ Aside0 (kq ≤ k) ∧ Drawn0 w w')
 case atStart => exact ⟨(0), (by first | rfl | (simp; done) | (simp [*]; done)), H', ⟨Nat.le_refl _⟩, by repeat (first | exact Drawn0.refl _ | apply Drawn0.step)⟩
 case round =>
  clear H'
  try clear c1
  try clear p2
  obtain ⟨x9_1, rfl, HA, HK1, ⟨m1, rfl⟩⟩ := hrel
  cases gk with
  | zero => exact absurd HA.out (by simp [impl_areLetters.l0])
  | succ k1 =>
   have H := HA.out
   clear HA
   simp only [impl_areLetters.l0] at H
   by_cases c3 : x9_1 < (l0.length : Int)
   ·rw [if_pos c3] at H
    have c3b0 : decide (x9_1 < (l0.length : Int)) = true := decide_eq_true c3
    clear c3
    by_cases c4 : 0 ≤ x9_1
    ·rw [if_pos c4] at H
     have c4b0 : decide (0 ≤ x9_1) = true := decide_eq_true c4
     clear c4
     by_cases c5 : x9_1 < (l0.length : Int)
     ·rw [if_pos c5] at H
      have c5b0 : decide (x9_1 < (l0.length : Int)) = true := decide_eq_true c5
      clear c5
      by_cases c6 : (rd l0 x9_1) < 0
      ·rw [if_pos c6] at H
       have c6b0 : decide ((rd l0 x9_1) < 0) = true := decide_eq_true c6
       clear c6
       obtain rfl := Option.some.inj H
       have p990 : 0 ≤ (x9_1 : Int) := of_decide_eq_true (by first | (with_reducible assumption) | assumption)
       have q990 : x9_1 < (l0.length : Int) := of_decide_eq_true (by first | (with_reducible assumption) | assumption)
       obtain ⟨ad990, e990, hx990_0⟩ := Kd.at_int HR0.out x9_1 p990 q990
       cases e990
       replace p990 := eq_true p990
       replace q990 := eq_true q990
       go_wp2
       go_ret
       exact ⟨by first | rfl | (simp; done) | (simp [*]; done), by repeat (first | exact Drawn0.refl _ | apply Drawn0.step)⟩
      ·rw [if_neg c6] at H
       have c6b0 : decide ((rd l0 x9_1) < 0) = false := decide_eq_false c6
       clear c6
       by_cases c7 : (rd l0 x9_1) ≥ a1
       ·rw [if_pos c7] at H
        have c7b0 : decide (a1 ≤ (rd l0 x9_1)) = true := decide_eq_true c7
        clear c7
        obtain rfl := Option.some.inj H
        have p990 : 0 ≤ (x9_1 : Int) := of_decide_eq_true (by first | (with_reducible assumption) | assumption)
        have q990 : x9_1 < (l0.length : Int) := of_decide_eq_true (by first | (with_reducible assumption) | assumption)
        obtain ⟨ad990, e990, hx990_0⟩ := Kd.at_int HR0.out x9_1 p990 q990
        cases e990
        replace p990 := eq_true p990
        replace q990 := eq_true q990
        go_wp2
        go_ret
        exact ⟨by first | rfl | (simp; done) | (simp [*]; done), by repeat (first | exact Drawn0.refl _ | apply Drawn0.step)⟩
       ·rw [if_neg c7] at H
        have c7b0 : decide (a1 ≤ (rd l0 x9_1)) = false := decide_eq_false c7
        clear c7
        have H' := Aside0.mk H
        clear H
        have p990 : 0 ≤ (x9_1 : Int) := of_decide_eq_true (by first | (with_reducible assumption) | assumption)
        have q990 : x9_1 < (l0.length : Int) := of_decide_eq_true (by first | (with_reducible assumption) | assumption)
        obtain ⟨ad990, e990, hx990_0⟩ := Kd.at_int HR0.out x9_1 p990 q990
        cases e990
        replace p990 := eq_true p990
        replace q990 := eq_true q990
        go_wp2
        go_roundg k1
        case measure => have := HK1.out; omega
        case rel => exact ⟨(wrap64 (x9_1 + 1)), (by first | rfl | (simp; done) | (simp [*]; done)), H', ⟨by have := HK1.out; omega⟩, by repeat (first | exact Drawn0.refl _ | apply Drawn0.step)⟩
     ·rw [if_neg c5] at H
      exact absurd H (by simp)
    ·rw [if_neg c4] at H
     exact absurd H (by simp)
   ·rw [if_neg c3] at H
    have c3b0 : decide (x9_1 < (l0.length : Int)) = false := decide_eq_false c3
    clear c3
    obtain rfl := Option.some.inj H
    go_wp2
    go_ret
    exact ⟨by first | rfl | (simp; done) | (simp [*]; done), by repeat (first | exact Drawn0.refl _ | apply Drawn0.step)⟩

end Go.Proofs.Ythkkpdgadfhijaa.M
/- Walks for this claim, written by a program of mine over the kit's print. No condition of mine. -/
namespace Go.Proofs.Ythkkpdgadfhijaa.M
open Go.RowKit Go.Proofs.Ythkkpdgadfhijaa.KW Go.Proofs.YthkkpdgadfhijaaW.PrintWords Go.Proofs.YthkkpdgadfhijaaW.PrintLast Go.Proofs.YthkkpdgadfhijaaW.PrintMore
attribute [local go_sem] max2_int min2_int max_two min_two max_three min_three max_four min_four   -- for this text's walks alone
set_option linter.unusedVariables false
set_option linter.unusedSimpArgs false

/-! ### impl_IsWord: function 111 -/
def impl_IsWord.f (k : Nat) (l0 : List Int) (a1 : Int) : Option (Bool) := if a1 ≥ 1 then (if a1 ≤ 16 then (if (l0.length : Int) ≤ 400 then ((impl_areLetters.f k l0 a1).bind fun t991 => (some t991)) else (some false)) else (some false)) else (some false)
theorem impl_IsWord.mono : ∀ a0 a1 k, LeO (impl_IsWord.f k a0 a1) (impl_IsWord.f (k + 1) a0 a1) := by
 intro a0 a1 k
 unfold impl_IsWord.f
 repeat' first
   | (with_reducible exact impl_areLetters.mono _ _ _)
   | (with_reducible exact LeO.refl _)
   | (with_reducible exact LeO.none _)
   | (with_reducible refine LeO.ite ?_ ?_)
   | (with_reducible refine LeO.bind ?_ (fun _ => ?_))
   | exact impl_areLetters.mono _ _ _
   | exact LeO.none _
   | refine LeO.ite ?_ ?_
   | refine LeO.bind ?_ (fun _ => ?_)
set_option maxHeartbeats 8000000 in
set_option maxRecDepth 100000 in
theorem impl_IsWord.calls (k : Nat) (A0 : Option Addr) (c0 : Nat) (l0 : List Int) (a1 : Int) (r : Bool) (w : World) (hr0 : Kd.C (Kd.int .i64) w A0 l0.length l0) (hc0 : l0.length ≤ c0) (h : impl_IsWord.f k l0 a1 = some r) :
  Calls Try.prog 111 #[.slice A0 l0.length c0, .int .i64 a1] w fun e w' => e = .returned (.bool r) ∧ Drawn0 w w' := by
 have HR0 := Aside0.mk hr0
 have HC0 := Aside0.mk hc0
 clear hr0 hc0
 have H : (if a1 ≥ 1 then (if a1 ≤ 16 then (if (l0.length : Int) ≤ 400 then ((impl_areLetters.f k l0 a1).bind fun t991 => (some t991)) else (some false)) else (some false)) else (some false)) = some r := h
 clear h
 by_cases c3 : a1 ≥ 1
 ·rw [if_pos c3] at H
  have c3b0 : decide (1 ≤ a1) = true := decide_eq_true c3
  clear c3
  by_cases c4 : a1 ≤ 16
  ·rw [if_pos c4] at H
   have c4b0 : decide (a1 ≤ 16) = true := decide_eq_true c4
   clear c4
   by_cases c5 : (l0.length : Int) ≤ 400
   ·rw [if_pos c5] at H
    have c5b0 : decide ((l0.length : Int) ≤ 400) = true := decide_eq_true c5
    have c5b1 : decide (l0.length ≤ 400) = true := decide_eq_true (by omega)
    clear c5
    replace H := Option.bind_eq_some_iff.mp H
    obtain ⟨t991, A60, H⟩ := H
    replace H : (some t991) = some r := H
    have A6 := Aside0.mk A60
    clear A60
    obtain rfl := Option.some.inj H
    go_enter Try.func111, Try.ntmps111
    go_wp2_with (first | (go_at_call 150; (with_reducible refine (impl_areLetters.calls k _ _ l0 a1 t991 _ ?side1 ?side2 A6.out).mono ?_); (case side1 => repeat (first | exact HR0.out | (with_reducible refine Kd.C_alloc ?_ _) | (with_reducible refine Kd.C_drewN ?_ _) | (with_reducible refine Kd.C_drew ?_))); (case side2 => exact HC0.out); rintro e w' ⟨rfl, ⟨nd, rfl⟩⟩))
    go_ret
    exact ⟨by first | rfl | (simp; done) | (simp [*]; done), by repeat (first | exact Drawn0.refl _ | apply Drawn0.step)⟩
   ·rw [if_neg c5] at H
    have c5b0 : decide ((l0.length : Int) ≤ 400) = false := decide_eq_false c5
    have c5b1 : decide (l0.length ≤ 400) = false := decide_eq_false (by omega)
    clear c5
    obtain rfl := Option.some.inj H
    go_enter Try.func111, Try.ntmps111
    go_wp2
    go_ret
    exact ⟨by first | rfl | (simp; done) | (simp [*]; done), by repeat (first | exact Drawn0.refl _ | apply Drawn0.step)⟩
  ·rw [if_neg c4] at H
   have c4b0 : decide (a1 ≤ 16) = false := decide_eq_false c4
   clear c4
   obtain rfl := Option.some.inj H
   go_enter Try.func111, Try.ntmps111
   go_wp2
   go_ret
   exact ⟨by first | rfl | (simp; done) | (simp [*]; done), by repeat (first | exact Drawn0.refl _ | apply Drawn0.step)⟩
 ·rw [if_neg c3] at H
  have c3b0 : decide (1 ≤ a1) = false := decide_eq_false c3
  clear c3
  obtain rfl := Option.some.inj H
  go_enter Try.func111, Try.ntmps111
  go_wp2
  go_ret
  exact ⟨by first | rfl | (simp; done) | (simp [*]; done), by repeat (first | exact Drawn0.refl _ | apply Drawn0.step)⟩

end Go.Proofs.Ythkkpdgadfhijaa.M
/- Words as values: program and reference tell the same. No condition but lengths that fit. -/
namespace Go.Proofs.Ythkkpdgadfhijaa.M
open Go.RowKit Go.Proofs.YthkkpdgadfhijaaW.PrintWords Go.Proofs.Ythkkpdgadfhijaa.K
set_option linter.unusedVariables false
def isL (w : List Int) (n : Nat) : Bool := w.all fun x => decide (0 ≤ x ∧ x < (n : Int))
theorem isL_cons (x : Int) (w : List Int) (n : Nat) : isL (x :: w) n = (decide (0 ≤ x ∧ x < (n : Int)) && isL w n) := by simp [isL]
def iw (w : List Int) (n : Nat) : Bool := isL w n && (decide (1 ≤ n ∧ n ≤ 16) && decide (w.length ≤ 400))

theorem specIsWord_ev (w : List Int) (n : Nat) (hw : w.length ≤ 1048576) : Ev (fun k => spec_IsWord.f k w (n : Int)) (iw w n) := by
  have key : ∀ i, i ≤ w.length → Ev (fun k => spec_IsWord.l0 k w (n : Int) (i : Int)) (isL (w.drop i) n && (decide (1 ≤ n ∧ n ≤ 16) && decide (w.length ≤ 400))) := by
    refine down w.length ?_ ?_
    · refine Ev.step (fun k => by simp only [spec_IsWord.l0]; rw [_root_.if_neg (by omega)]) ?_
      refine Ev.bind (Ev.val (in_val _ _ _)) ?_
      rw [List.drop_length]
      by_cases q : 1 ≤ n ∧ n ≤ 16
      · rw [decide_eq_true (show 1 ≤ (n : Int) ∧ (n : Int) ≤ 16 by omega)]
        refine Ev.if_pos rfl (Ev.same (Ev.some _) ?_)
        rw [decide_eq_true q]; simp [isL]; omega
      · rw [decide_eq_false (show ¬ (1 ≤ (n : Int) ∧ (n : Int) ≤ 16) by omega)]
        refine Ev.if_neg (by simp) (Ev.same (Ev.some _) ?_)
        rw [decide_eq_false q]; simp
    · intro i hi ih
      rw [drop_eq w i hi, isL_cons]
      refine Ev.step (fun k => by simp only [spec_IsWord.l0]; rw [_root_.if_pos (by omega), _root_.if_pos (by omega), wsucc (by omega), rd_get w i hi]) ?_
      refine Ev.ite (fun q => ?_) (fun q => ?_)
      · rw [decide_eq_false (by omega)]; exact Ev.some _
      · refine Ev.ite (fun q2 => ?_) (fun q2 => ?_)
        · rw [decide_eq_false (by omega)]; exact Ev.some _
        · rw [decide_eq_true (by omega), Bool.true_and]; exact ih
  exact key 0 (by omega)
theorem areLetters_ev (w : List Int) (n : Nat) (hw : w.length ≤ 1048576) : Ev (fun k => impl_areLetters.f k w (n : Int)) (isL w n) := by
  have key : ∀ i, i ≤ w.length → Ev (fun k => impl_areLetters.l0 k (n : Int) w (w.length : Int) (i : Int)) (isL (w.drop i) n) := by
    refine down w.length ?_ ?_
    · refine Ev.step (fun k => by simp only [impl_areLetters.l0]; rw [_root_.if_neg (by omega)]) ?_
      rw [List.drop_length]; exact Ev.some _
    · intro i hi ih
      rw [drop_eq w i hi, isL_cons]
      refine Ev.step (fun k => by simp only [impl_areLetters.l0]; rw [_root_.if_pos (by omega), _root_.if_pos (by omega), _root_.if_pos (by omega), wsucc (by omega), rd_get w i hi]) ?_
      refine Ev.ite (fun q => ?_) (fun q => ?_)
      · rw [decide_eq_false (by omega)]; exact Ev.some _
      · refine Ev.ite (fun q2 => ?_) (fun q2 => ?_)
        · rw [decide_eq_false (by omega)]; exact Ev.some _
        · rw [decide_eq_true (by omega), Bool.true_and]; exact ih
  unfold impl_areLetters.f
  exact key 0 (by omega)
theorem implIsWord_ev (w : List Int) (n : Nat) (hw : w.length ≤ 1048576) : Ev (fun k => impl_IsWord.f k w (n : Int)) (iw w n) := by
  unfold impl_IsWord.f iw
  refine Ev.ite (fun q => ?_) (fun q => ?_)
  · refine Ev.ite (fun q2 => ?_) (fun q2 => ?_)
    · refine Ev.ite (fun q3 => ?_) (fun q3 => ?_)
      · refine Ev.bind (areLetters_ev w n hw) (Ev.same (Ev.some _) ?_)
        rw [decide_eq_true (show 1 ≤ n ∧ n ≤ 16 by omega), decide_eq_true (show w.length ≤ 400 by omega)]; simp
      · refine Ev.same (Ev.some _) ?_
        rw [decide_eq_false (show ¬ w.length ≤ 400 by omega)]; simp
    · refine Ev.same (Ev.some _) ?_
      rw [decide_eq_false (show ¬ (1 ≤ n ∧ n ≤ 16) by omega)]; simp
  · refine Ev.same (Ev.some _) ?_
    rw [decide_eq_false (show ¬ (1 ≤ n ∧ n ≤ 16) by omega)]; simp

end Go.Proofs.Ythkkpdgadfhijaa.M
/- What the laws' own small functions on rows of whole numbers come to: a copy is the row, two rows are held against each other, marks are laid and found. No condition but lengths that fit. -/
namespace Go.Proofs.Ythkkpdgadfhijaa.M
open Go.RowKit Go.Proofs.YthkkpdgadfhijaaW.PrintWords Go.Proofs.Ythkkpdgadfhijaa.K

theorem toIntS_ev (l : List Int) (h : l.length ≤ 1048576) : Ev (fun k => laws_toIntS.f k l) l := by
  have key : ∀ i, i ≤ l.length → ∀ f : Nat → Int, (∀ j, j < i → f j = l.getD j 0) → Ev (fun k => laws_toIntS.l0 k l (row l.length f) (i : Int)) l := by
    refine down l.length ?_ ?_
    · intro f hf
      refine Ev.step (fun k => by simp only [laws_toIntS.l0]; rw [_root_.if_neg (by omega)]) ?_
      rw [row_congr _ _ _ hf, row_of]; exact Ev.some _
    · intro i hi ih f hf
      refine Ev.step (fun k => by simp only [laws_toIntS.l0]; rw [_root_.if_pos (by omega), _root_.if_pos (by omega), _root_.if_pos (by rw [row_length]; omega), wsucc (by omega), Int.toNat_natCast, rd_at, row_set]) (ih _ ?_)
      intro j hj
      by_cases e : j = i
      · rw [_root_.if_pos e, e]
      · rw [_root_.if_neg e]; exact hf j (by omega)
  unfold laws_toIntS.f
  refine Ev.if_pos (by omega) (Ev.if_pos (by omega) ?_)
  rw [Int.toNat_natCast, row_replicate]
  exact key 0 (by omega) _ (fun j hj => by omega)

theorem eqIntS_ev (a b : List Int) (h : a.length < 9223372036854775807) : Ev (fun k => laws_eqIntS.f k a b) (decide (a = b)) := by
  unfold laws_eqIntS.f
  refine Ev.ite (fun e => ?_) (fun e => ?_)
  · have e' : a.length = b.length := by omega
    have key : ∀ i, i ≤ a.length → Ev (fun k => laws_eqIntS.l0 k a b (i : Int)) (decide (a.drop i = b.drop i)) := by
      refine down a.length ?_ ?_
      · refine Ev.step (fun k => by simp only [laws_eqIntS.l0]; rw [_root_.if_neg (by omega)]) ?_
        rw [List.drop_length, e', List.drop_length]; exact Ev.some _
      · intro i hi ih
        refine Ev.step (fun k => by simp only [laws_eqIntS.l0]; rw [_root_.if_pos (by omega), _root_.if_pos (by omega), _root_.if_pos (by omega), wsucc (by omega), rd_get a i hi, rd_get b i (by omega)]) ?_
        rw [drop_eq a i hi, drop_eq b i (by omega), cons_dec]
        refine Ev.ite (fun q => ?_) (fun q => ?_)
        · rw [decide_eq_true q]; simpa using ih
        · rw [decide_eq_false q]; exact Ev.some _
    exact key 0 (by omega)
  · refine Ev.same (Ev.some _) ?_
    symm; rw [decide_eq_false_iff_not]; intro q; rw [q] at e; exact e rfl

/-- The marks m, m + 1, .. in n places. -/
def marks (n : Nat) (m : Int) : List Int := row n (fun i => m + i)

theorem markIntS_ev (l : List Int) (m : Int) (h0 : 0 ≤ m) (h : m + l.length < 9223372036854775807) : Ev (fun k => laws_markIntS.f k l m) (m + l.length, marks l.length m) := by
  have key : ∀ i, i ≤ l.length → ∀ f : Nat → Int, (∀ j, j < i → f j = m + j) → Ev (fun k => laws_markIntS.l0 k (row l.length f) (m + i) (i : Int)) (m + l.length, marks l.length m) := by
    refine down l.length ?_ ?_
    · intro f hf
      refine Ev.step (fun k => by simp only [laws_markIntS.l0]; rw [_root_.if_neg (by rw [row_length]; omega)]) ?_
      unfold marks; rw [row_congr _ _ _ hf]; exact Ev.some _
    · intro i hi ih f hf
      refine Ev.step (fun k => by simp only [laws_markIntS.l0]; rw [_root_.if_pos (by rw [row_length]; omega), _root_.if_pos (by omega), wsucc (by omega), Int.toNat_natCast, row_set, w_id (by omega) (by omega), show m + (i : Int) + 1 = m + ((i + 1 : Nat) : Int) from by omega]) (ih _ ?_)
      intro j hj
      by_cases e : j = i
      · rw [_root_.if_pos e, e]
      · rw [_root_.if_neg e]; exact hf j (by omega)
  unfold laws_markIntS.f
  have := key 0 (by omega) (fun i => l.getD i 0) (fun j hj => by omega)
  rw [row_of, show m + ((0 : Nat) : Int) = m from by omega] at this
  exact this

theorem heldIntS_ev (n : Nat) (m : Int) (h0 : 0 ≤ m) (h : m + n < 9223372036854775807) : Ev (fun k => laws_heldIntS.f k (marks n m) m) (m + n) := by
  have key : ∀ i, i ≤ n → Ev (fun k => laws_heldIntS.l0 k (marks n m) (m + i) (i : Int)) (m + n) := by
    refine down n ?_ ?_
    · refine Ev.step (fun k => by simp only [laws_heldIntS.l0]; rw [_root_.if_neg (by unfold marks; rw [row_length]; omega)]) ?_
      exact Ev.some _
    · intro i hi ih
      refine Ev.step (fun k => by simp only [laws_heldIntS.l0]; rw [_root_.if_pos (by unfold marks; rw [row_length]; omega), _root_.if_pos (by omega), _root_.if_pos (by unfold marks; rw [rd_row _ _ _ hi]), wsucc (by omega), w_id (by omega) (by omega), show m + (i : Int) + 1 = m + ((i + 1 : Nat) : Int) from by omega]) ih
  unfold laws_heldIntS.f
  have := key 0 (by omega)
  rw [show m + ((0 : Nat) : Int) = m from by omega] at this
  exact this
end Go.Proofs.Ythkkpdgadfhijaa.M
/- Walks for this claim, written by a program of mine over the kit's print. No condition of mine. -/
namespace Go.Proofs.Ythkkpdgadfhijaa.M
open Go.RowKit Go.Proofs.Ythkkpdgadfhijaa.KW Go.Proofs.YthkkpdgadfhijaaW.PrintWords Go.Proofs.YthkkpdgadfhijaaW.PrintLast Go.Proofs.YthkkpdgadfhijaaW.PrintMore
attribute [local go_sem] max2_int min2_int max_two min_two max_three min_three max_four min_four   -- for this text's walks alone
set_option linter.unusedVariables false
set_option linter.unusedSimpArgs false

/-! ### spec_ExtensionsOf: function 46 -/
mutual
def spec_ExtensionsOf.l0 : Nat → List Int → Int → List Int → List Int → Int → Option (List Int)
 | 0, _, _, _, _, _ => none
 | k + 1, x0, x1, x2, x7, x8 => if x8 < x1 then ((spec_l30Fine.f k x1 x2).bind fun t941 => (if t941 = true then ((spec_IsWord.f k x0 x1).bind fun t942 => (spec_ExtensionsOf.j1 k x0 x1 x2 x7 x8 t942)) else (spec_ExtensionsOf.j1 k x0 x1 x2 x7 x8 false))) else (spec_ExtensionsOf.j1 k x0 x1 x2 x7 x8 false)
def spec_ExtensionsOf.j1 : Nat → List Int → Int → List Int → List Int → Int → Bool → Option (List Int)
 | 0, _, _, _, _, _, _ => none
 | k + 1, x0, x1, x2, x7, x8, x22 => if x22 = true then ((some (([] : List Int) : List Int)).bind fun y943 => (if y943.length + x0.length < 17592186044416 then ((some (y943 ++ x0 : List Int)).bind fun y946 => (if y946.length < 17592186044416 then ((spec_AvoidsPattern.f k (y946 ++ [x8]) x2).bind fun t952 => (if t952 = true then (if x7.length < 17592186044416 then (spec_ExtensionsOf.l0 k x0 x1 x2 (x7 ++ [x8]) (wrap64 (x8 + 1))) else (none)) else (spec_ExtensionsOf.l0 k x0 x1 x2 x7 (wrap64 (x8 + 1))))) else (none))) else (none))) else (some x7)
end
def spec_ExtensionsOf.f (k : Nat) (l0 : List Int) (a1 : Int) (l2 : List Int) : Option (List Int) := spec_ExtensionsOf.l0 k l0 a1 l2 (([] : List Int)) 0
theorem spec_ExtensionsOf.mono_l : ∀ k, (∀ y0 y1 y2 y3 y4, LeO (spec_ExtensionsOf.l0 k y0 y1 y2 y3 y4) (spec_ExtensionsOf.l0 (k + 1) y0 y1 y2 y3 y4)) ∧ (∀ y0 y1 y2 y3 y4 y5, LeO (spec_ExtensionsOf.j1 k y0 y1 y2 y3 y4 y5) (spec_ExtensionsOf.j1 (k + 1) y0 y1 y2 y3 y4 y5))
 | 0 => ⟨fun _ _ _ _ _ r h => by simp [spec_ExtensionsOf.l0] at h, fun _ _ _ _ _ _ r h => by simp [spec_ExtensionsOf.j1] at h⟩
 | k + 1 => by
  obtain ⟨ih0, ih1⟩ := spec_ExtensionsOf.mono_l k
  refine ⟨?_, ?_⟩
  ·intro y0 y1 y2 y3 y4
   unfold spec_ExtensionsOf.l0
   repeat' first
   | (with_reducible exact ih0 _ _ _ _ _)
   | (with_reducible exact ih1 _ _ _ _ _ _)
   | (with_reducible exact spec_AvoidsPattern.mono _ _ _)
   | (with_reducible exact spec_IsWord.mono _ _ _)
   | (with_reducible exact spec_l30Fine.mono _ _ _)
   | (with_reducible exact LeO.refl _)
   | (with_reducible exact LeO.none _)
   | (with_reducible refine LeO.ite ?_ ?_)
   | (with_reducible refine LeO.bind ?_ (fun _ => ?_))
   | exact ih0 _ _ _ _ _
   | exact ih1 _ _ _ _ _ _
   | exact spec_AvoidsPattern.mono _ _ _
   | exact spec_IsWord.mono _ _ _
   | exact spec_l30Fine.mono _ _ _
   | exact LeO.none _
   | refine LeO.ite ?_ ?_
   | refine LeO.bind ?_ (fun _ => ?_)
  ·intro y0 y1 y2 y3 y4 y5
   unfold spec_ExtensionsOf.j1
   repeat' first
   | (with_reducible exact ih0 _ _ _ _ _)
   | (with_reducible exact ih1 _ _ _ _ _ _)
   | (with_reducible exact spec_AvoidsPattern.mono _ _ _)
   | (with_reducible exact spec_IsWord.mono _ _ _)
   | (with_reducible exact spec_l30Fine.mono _ _ _)
   | (with_reducible exact LeO.refl _)
   | (with_reducible exact LeO.none _)
   | (with_reducible refine LeO.ite ?_ ?_)
   | (with_reducible refine LeO.bind ?_ (fun _ => ?_))
   | exact ih0 _ _ _ _ _
   | exact ih1 _ _ _ _ _ _
   | exact spec_AvoidsPattern.mono _ _ _
   | exact spec_IsWord.mono _ _ _
   | exact spec_l30Fine.mono _ _ _
   | exact LeO.none _
   | refine LeO.ite ?_ ?_
   | refine LeO.bind ?_ (fun _ => ?_)
theorem spec_ExtensionsOf.mono : ∀ a0 a1 a2 k, LeO (spec_ExtensionsOf.f k a0 a1 a2) (spec_ExtensionsOf.f (k + 1) a0 a1 a2) := by
 intro a0 a1 a2 k
 obtain ⟨ih0, ih1⟩ := spec_ExtensionsOf.mono_l k
 unfold spec_ExtensionsOf.f
 repeat' first
   | (with_reducible exact ih0 _ _ _ _ _)
   | (with_reducible exact ih1 _ _ _ _ _ _)
   | (with_reducible exact spec_AvoidsPattern.mono _ _ _)
   | (with_reducible exact spec_IsWord.mono _ _ _)
   | (with_reducible exact spec_l30Fine.mono _ _ _)
   | (with_reducible exact LeO.refl _)
   | (with_reducible exact LeO.none _)
   | (with_reducible refine LeO.ite ?_ ?_)
   | (with_reducible refine LeO.bind ?_ (fun _ => ?_))
   | exact ih0 _ _ _ _ _
   | exact ih1 _ _ _ _ _ _
   | exact spec_AvoidsPattern.mono _ _ _
   | exact spec_IsWord.mono _ _ _
   | exact spec_l30Fine.mono _ _ _
   | exact LeO.none _
   | refine LeO.ite ?_ ?_
   | refine LeO.bind ?_ (fun _ => ?_)
set_option maxHeartbeats 8000000 in
set_option maxRecDepth 100000 in
theorem spec_ExtensionsOf.calls (k : Nat) (A0 : Option Addr) (c0 : Nat) (l0 : List Int) (a1 : Int) (A2 : Option Addr) (c2 : Nat) (l2 : List Int) (r : List Int) (w : World) (hr0 : Kd.C (Kd.int .i64) w A0 l0.length l0) (hc0 : l0.length ≤ c0) (hr2 : Kd.C (Kd.int .i64) w A2 l2.length l2) (hc2 : l2.length ≤ c2) (h : spec_ExtensionsOf.f k l0 a1 l2 = some r) :
  Calls Try.prog 46 #[.slice A0 l0.length c0, .int .i64 a1, .slice A2 l2.length c2] w fun e w' => ∃ v0_ : Value, e = .returned (v0_) ∧ Kd.R (Kd.int .i64) 3 w' w.heap.size (fun _ => True) v0_ r ∧ Below w.heap.size w w' := by
 have HR0 := Aside0.mk hr0
 have HC0 := Aside0.mk hc0
 clear hr0 hc0
 have HR2 := Aside0.mk hr2
 have HC2 := Aside0.mk hc2
 clear hr2 hc2
 have HB := Aside0.mk (Below.refl w.heap.size w)
 have H : (spec_ExtensionsOf.l0 k l0 a1 l2 (([] : List Int)) 0) = some r := h
 clear h
 obtain ⟨y938, hy938⟩ : ∃ y_ : List Int, y_ = (([] : List Int)) := ⟨_, rfl⟩
 replace H : (spec_ExtensionsOf.l0 k l0 a1 l2 y938 0) = some r := by first | (rw [hy938]; with_reducible exact H) | (have H2_ := (Option.bind_some _ _).symm.trans H; rw [hy938]; with_reducible exact H2_) | (have H2_ := (Option.bind_some _ _).symm.trans H; with_reducible exact H2_) | with_reducible exact H | (rw [hy938]; exact H) | exact H
 have Ny938 := Aside0.mk hy938
 clear hy938
 have H' := Aside0.mk H
 clear H
 go_enter Try.func46, Try.ntmps46
 go_wp2_with (first | ((with_reducible refine gate_dst (N := 9) rfl ?_); refine Kd.R_lit (Kd.int .i64) _ 3 ?hg (N := 9) ?hd (xs := ([] : List Int)) (inner := []) (ok := fun _ => True) (okp := fun _ => True) ?hr ?hp (fun _ hk => hk) trivial (Below.refl _ _) (Nat.le_refl _) (by simp) ?_; (case hd => rfl); (case hg => rfl); (case hr => first | (go_simp; done) | (go_simp; rfl)); (case hp => exact (Reps.none _ _)); intro v939 w4 ho5 hb hg_ hnew_; clear hg_ hnew_; (first | rw [← Ny938.out] at ho5 | (simp only [Int.reduceToNat] at ho5; rw [← Ny938.out] at ho5)); have n0_ := Aside0.mk (Kd.R_lower ho5 (below_size (by repeat (first | (with_reducible first | exact HB.out | apply below_alloc | apply pw_below_drewN | apply below_drew1) | exact HB.out)))); have n1_ := Aside0.mk (below_step (by repeat (first | (with_reducible first | exact HB.out | apply below_alloc | apply pw_below_drewN | apply below_drew1) | exact HB.out)) hb); clear HB; have HO940 := n0_; have HB := n1_; clear n0_ n1_; clear hb ho5))
 go_loopg [7, 8] k (fun kq v7 v8 w' => ∃ (x7_1 : List Int) (x8_1 : Int), v8 = .int .i64 x8_1 ∧ Aside0 (spec_ExtensionsOf.l0 kq l0 a1 l2 x7_1 x8_1 = some r) ∧ Aside0 (kq ≤ k) ∧ Aside0 (Kd.R (Kd.int .i64) 3 w' w.heap.size (fun _ => True) v7 x7_1) ∧ Aside0 (Below w.heap.size w w'))
 case atStart => exact ⟨(y938), (0), (by first | rfl | (simp; done) | (simp [*]; done)), H', ⟨Nat.le_refl _⟩, ⟨by (with_reducible repeat (first | apply Kd.R_alloc | apply Kd.R_drewN | apply Kd.R_drew)); exact HO940.out⟩, ⟨by repeat (first | (with_reducible first | exact HB.out | apply below_alloc | apply pw_below_drewN | apply below_drew1) | exact HB.out)⟩⟩
 case round =>
  clear H'
  try clear c2
  try clear p2
  try clear c4
  obtain ⟨x7_1, x8_1, rfl, HA, HK1, HO_7, HB⟩ := hrel
  cases gk with
  | zero => exact absurd HA.out (by simp [spec_ExtensionsOf.l0])
  | succ k1 =>
   have H := HA.out
   clear HA
   simp only [spec_ExtensionsOf.l0] at H
   have HC6 := Aside0.mk H
   clear H
   go_upto_region 3 with (fail)
   go_cut [22] (fun v22 wc => ∃ (kq : Nat) (x22_5 : Bool), v22 = .bool x22_5 ∧ Aside0 (spec_ExtensionsOf.j1 kq l0 a1 l2 x7_1 x8_1 x22_5 = some r) ∧ Aside0 (kq ≤ k1) ∧ Aside0 (Kd.R (Kd.int .i64) 3 wc w.heap.size (fun _ => True) u7 x7_1) ∧ Aside0 (Below w.heap.size w wc))
   case first =>
    have H := HC6.out
    clear HC6
    by_cases c7 : x8_1 < a1
    ·rw [if_pos c7] at H
     have c7b0 : decide (x8_1 < a1) = true := decide_eq_true c7
     clear c7
     (first | rw [c7b0] | (simp only [i64_w, i32_w]; rw [c7b0]) | skip)
     replace H := Option.bind_eq_some_iff.mp H
     obtain ⟨t941, A80, H⟩ := H
     replace H : (if t941 = true then ((spec_IsWord.f k1 l0 a1).bind fun t942 => (spec_ExtensionsOf.j1 k1 l0 a1 l2 x7_1 x8_1 t942)) else (spec_ExtensionsOf.j1 k1 l0 a1 l2 x7_1 x8_1 false)) = some r := H
     have A8 := Aside0.mk A80
     clear A80
     by_cases c9 : t941 = true
     ·subst c9
      have H1 : ((spec_IsWord.f k1 l0 a1).bind fun t942 => (spec_ExtensionsOf.j1 k1 l0 a1 l2 x7_1 x8_1 t942)) = some r := by rw [if_pos rfl] at H; exact H
      clear H
      have H := H1
      clear H1
      replace H := Option.bind_eq_some_iff.mp H
      obtain ⟨t942, A100, H⟩ := H
      replace H : (spec_ExtensionsOf.j1 k1 l0 a1 l2 x7_1 x8_1 t942) = some r := H
      have A10 := Aside0.mk A100
      clear A100
      have H' := Aside0.mk H
      clear H
      go_wp2_with (first | (go_at_call 106; (with_reducible refine (spec_l30Fine.calls k1 a1 _ _ l2 true _ ?side1 ?side2 A8.out).mono ?_); (case side1 => repeat (first | exact (Kd.C_below HR2.out HB.out) | (with_reducible refine Kd.C_alloc ?_ _) | (with_reducible refine Kd.C_drewN ?_ _) | (with_reducible refine Kd.C_drew ?_))); (case side2 => exact HC2.out); rintro e w' ⟨rfl, ⟨nd, rfl⟩⟩) | (go_at_call 56; (with_reducible refine (spec_IsWord.calls k1 _ _ l0 a1 t942 _ ?side1 ?side2 A10.out).mono ?_); (case side1 => repeat (first | exact (Kd.C_below HR0.out (by repeat (first | (with_reducible first | exact HB.out | apply below_alloc | apply pw_below_drewN | apply below_drew1) | exact HB.out))) | (with_reducible refine Kd.C_alloc ?_ _) | (with_reducible refine Kd.C_drewN ?_ _) | (with_reducible refine Kd.C_drew ?_))); (case side2 => exact HC0.out); rintro e w' ⟨rfl, ⟨nd, rfl⟩⟩))
      go_meet
      case rel => exact ⟨_, (t942), (by first | rfl | (simp; done) | (simp [*]; done)), H', ⟨by have := HK1.out; first | omega | exact Nat.le_refl _⟩, ⟨by (with_reducible repeat (first | apply Kd.R_alloc | apply Kd.R_drewN | apply Kd.R_drew)); exact HO_7.out⟩, ⟨by repeat (first | (with_reducible first | exact HB.out | apply below_alloc | apply pw_below_drewN | apply below_drew1) | exact HB.out)⟩⟩
     ·replace c9 := Bool.eq_false_iff.mpr c9
      subst c9
      have H1 : (spec_ExtensionsOf.j1 k1 l0 a1 l2 x7_1 x8_1 false) = some r := by rw [if_neg (show ¬ (false = true) by decide)] at H; exact H
      clear H
      have H := H1
      clear H1
      have H' := Aside0.mk H
      clear H
      go_wp2_with (first | (go_at_call 106; (with_reducible refine (spec_l30Fine.calls k1 a1 _ _ l2 false _ ?side1 ?side2 A8.out).mono ?_); (case side1 => repeat (first | exact (Kd.C_below HR2.out HB.out) | (with_reducible refine Kd.C_alloc ?_ _) | (with_reducible refine Kd.C_drewN ?_ _) | (with_reducible refine Kd.C_drew ?_))); (case side2 => exact HC2.out); rintro e w' ⟨rfl, ⟨nd, rfl⟩⟩))
      go_meet
      case rel => exact ⟨_, (false), (by first | rfl | (simp; done) | (simp [*]; done)), H', ⟨by have := HK1.out; first | omega | exact Nat.le_refl _⟩, ⟨by (with_reducible repeat (first | apply Kd.R_alloc | apply Kd.R_drewN | apply Kd.R_drew)); exact HO_7.out⟩, ⟨by repeat (first | (with_reducible first | exact HB.out | apply below_alloc | apply pw_below_drewN | apply below_drew1) | exact HB.out)⟩⟩
    ·rw [if_neg c7] at H
     have c7b0 : decide (x8_1 < a1) = false := decide_eq_false c7
     clear c7
     (first | rw [c7b0] | (simp only [i64_w, i32_w]; rw [c7b0]) | skip)
     have H' := Aside0.mk H
     clear H
     go_wp2
     go_meet
     case rel => exact ⟨_, (false), (by first | rfl | (simp; done) | (simp [*]; done)), H', ⟨by have := HK1.out; first | omega | exact Nat.le_refl _⟩, ⟨by (with_reducible repeat (first | apply Kd.R_alloc | apply Kd.R_drewN | apply Kd.R_drew)); exact HO_7.out⟩, ⟨by repeat (first | (with_reducible first | exact HB.out | apply below_alloc | apply pw_below_drewN | apply below_drew1) | exact HB.out)⟩⟩
   case rest =>
    clear HC6
    try clear c2
    try clear p2
    try clear c4
    try clear c7
    try clear c7b0
    try clear c9
    try clear p2
    obtain ⟨kq, x22_5, rfl, HA, HJ5, HO_7, HB⟩ := hcut
    cases kq with
    | zero => exact absurd HA.out (by simp [spec_ExtensionsOf.j1])
    | succ kj5 =>
     have H := HA.out
     clear HA
     simp only [spec_ExtensionsOf.j1] at H
     by_cases c11 : x22_5 = true
     ·subst c11
      have H1 : ((some (([] : List Int) : List Int)).bind fun y943 => (if y943.length + l0.length < 17592186044416 then ((some (y943 ++ l0 : List Int)).bind fun y946 => (if y946.length < 17592186044416 then ((spec_AvoidsPattern.f kj5 (y946 ++ [x8_1]) l2).bind fun t952 => (if t952 = true then (if x7_1.length < 17592186044416 then (spec_ExtensionsOf.l0 kj5 l0 a1 l2 (x7_1 ++ [x8_1]) (wrap64 (x8_1 + 1))) else (none)) else (spec_ExtensionsOf.l0 kj5 l0 a1 l2 x7_1 (wrap64 (x8_1 + 1))))) else (none))) else (none))) = some r := by rw [if_pos rfl] at H; exact H
      clear H
      have H := H1
      clear H1
      obtain ⟨y943, hy943⟩ : ∃ y_ : List Int, y_ = (([] : List Int)) := ⟨_, rfl⟩
      replace H : (if y943.length + l0.length < 17592186044416 then ((some (y943 ++ l0 : List Int)).bind fun y946 => (if y946.length < 17592186044416 then ((spec_AvoidsPattern.f kj5 (y946 ++ [x8_1]) l2).bind fun t952 => (if t952 = true then (if x7_1.length < 17592186044416 then (spec_ExtensionsOf.l0 kj5 l0 a1 l2 (x7_1 ++ [x8_1]) (wrap64 (x8_1 + 1))) else (none)) else (spec_ExtensionsOf.l0 kj5 l0 a1 l2 x7_1 (wrap64 (x8_1 + 1))))) else (none))) else (none)) = some r := by first | (rw [hy943]; with_reducible exact H) | (have H2_ := (Option.bind_some _ _).symm.trans H; rw [hy943]; with_reducible exact H2_) | (have H2_ := (Option.bind_some _ _).symm.trans H; with_reducible exact H2_) | with_reducible exact H | (rw [hy943]; exact H) | exact H
      have Ny943 := Aside0.mk hy943
      clear hy943
      by_cases c12 : y943.length + l0.length < 17592186044416
      ·rw [if_pos c12] at H
       have LMc12 := Aside0.mk c12
       clear c12
       obtain ⟨y946, hy946⟩ : ∃ y_ : List Int, y_ = (y943 ++ l0) := ⟨_, rfl⟩
       replace H : (if y946.length < 17592186044416 then ((spec_AvoidsPattern.f kj5 (y946 ++ [x8_1]) l2).bind fun t952 => (if t952 = true then (if x7_1.length < 17592186044416 then (spec_ExtensionsOf.l0 kj5 l0 a1 l2 (x7_1 ++ [x8_1]) (wrap64 (x8_1 + 1))) else (none)) else (spec_ExtensionsOf.l0 kj5 l0 a1 l2 x7_1 (wrap64 (x8_1 + 1))))) else (none)) = some r := by first | (rw [hy946]; with_reducible exact H) | (have H2_ := (Option.bind_some _ _).symm.trans H; rw [hy946]; with_reducible exact H2_) | (have H2_ := (Option.bind_some _ _).symm.trans H; with_reducible exact H2_) | with_reducible exact H | (rw [hy946]; exact H) | exact H
       have Ny946 := Aside0.mk hy946
       clear hy946
       by_cases c13 : y946.length < 17592186044416
       ·rw [if_pos c13] at H
        have LMc13 := Aside0.mk c13
        clear c13
        obtain ⟨y949, hy949⟩ : ∃ y_ : List Int, y_ = (y946 ++ [x8_1]) := ⟨_, rfl⟩
        replace H : ((spec_AvoidsPattern.f kj5 y949 l2).bind fun t952 => (if t952 = true then (if x7_1.length < 17592186044416 then (spec_ExtensionsOf.l0 kj5 l0 a1 l2 (x7_1 ++ [x8_1]) (wrap64 (x8_1 + 1))) else (none)) else (spec_ExtensionsOf.l0 kj5 l0 a1 l2 x7_1 (wrap64 (x8_1 + 1))))) = some r := by first | (rw [hy949]; with_reducible exact H) | (have H2_ := (Option.bind_some _ _).symm.trans H; rw [hy949]; with_reducible exact H2_) | (have H2_ := (Option.bind_some _ _).symm.trans H; with_reducible exact H2_) | with_reducible exact H | (rw [hy949]; exact H) | exact H
        have Ny949 := Aside0.mk hy949
        clear hy949
        replace H := Option.bind_eq_some_iff.mp H
        obtain ⟨t952, A140, H⟩ := H
        replace H : (if t952 = true then (if x7_1.length < 17592186044416 then (spec_ExtensionsOf.l0 kj5 l0 a1 l2 (x7_1 ++ [x8_1]) (wrap64 (x8_1 + 1))) else (none)) else (spec_ExtensionsOf.l0 kj5 l0 a1 l2 x7_1 (wrap64 (x8_1 + 1)))) = some r := H
        have A14 := Aside0.mk A140
        clear A140
        by_cases c15 : t952 = true
        ·subst c15
         have H1 : (if x7_1.length < 17592186044416 then (spec_ExtensionsOf.l0 kj5 l0 a1 l2 (x7_1 ++ [x8_1]) (wrap64 (x8_1 + 1))) else (none)) = some r := by rw [if_pos rfl] at H; exact H
         clear H
         have H := H1
         clear H1
         by_cases c16 : x7_1.length < 17592186044416
         ·rw [if_pos c16] at H
          have LMc16 := Aside0.mk c16
          clear c16
          obtain ⟨y953, hy953⟩ : ∃ y_ : List Int, y_ = (x7_1 ++ [x8_1]) := ⟨_, rfl⟩
          replace H : (spec_ExtensionsOf.l0 kj5 l0 a1 l2 y953 (wrap64 (x8_1 + 1))) = some r := by first | (rw [hy953]; with_reducible exact H) | (have H2_ := (Option.bind_some _ _).symm.trans H; rw [hy953]; with_reducible exact H2_) | (have H2_ := (Option.bind_some _ _).symm.trans H; with_reducible exact H2_) | with_reducible exact H | (rw [hy953]; exact H) | exact H
          have Ny953 := Aside0.mk hy953
          clear hy953
          have H' := Aside0.mk H
          clear H
          go_wp2_with (first | ((with_reducible refine gate_dst (N := 25) rfl ?_); refine Kd.R_lit (Kd.int .i64) _ 3 ?hg (N := 25) ?hd (xs := ([] : List Int)) (inner := []) (ok := fun _ => True) (okp := fun _ => True) ?hr ?hp (fun _ hk => hk) trivial (Below.refl _ _) (Nat.le_refl _) (by simp) ?_; (case hd => rfl); (case hg => rfl); (case hr => first | (go_simp; done) | (go_simp; rfl)); (case hp => exact (Reps.none _ _)); intro v944 w17 ho18 hb hg_ hnew_; clear hg_ hnew_; (first | rw [← Ny943.out] at ho18 | (simp only [Int.reduceToNat] at ho18; rw [← Ny943.out] at ho18)); have n0_ := Aside0.mk (Kd.R_elder' (by (with_reducible repeat (first | apply Kd.R_alloc | apply Kd.R_drewN | apply Kd.R_drew)); exact HO_7.out) (Kd.R_base ho18) hb); have n1_ := Aside0.mk (Kd.R_lower (Kd.R_new' ho18 (Kd.R_lt (by (with_reducible repeat (first | apply Kd.R_alloc | apply Kd.R_drewN | apply Kd.R_drew)); exact HO_7.out))) (below_size (by repeat (first | (with_reducible first | exact HB.out | apply below_alloc | apply pw_below_drewN | apply below_drew1) | exact HB.out)))); have n2_ := Aside0.mk (below_step (by repeat (first | (with_reducible first | exact HB.out | apply below_alloc | apply pw_below_drewN | apply below_drew1) | exact HB.out)) hb); clear HO_7; clear HB; have HO_7 := n0_; have HO945 := n1_; have HB := n2_; clear n0_ n1_ n2_; clear hb ho18) | ((with_reducible refine gate_builtin (b := .append) (xs := #[.tmp 25, .tmp 26]) rfl ?_); at_builtin; refine Kd.R_append_rows (Kd.int .i64) (w0 := w) w.heap.size rfl (.tmp 25) (.tmp 26) 22 3 (.int .i64 0) 8 rfl Try.underlying22 info3 rfl (by decide) (by omega) v944 y943 l0 _ _ _ (fun k_ => some k_ ≠ (u7 : Value).ownBlock) (fun _ => False) rfl rfl ?aO ?aR (fun _ _ h => h) (fun _ h => h.elim) ?aF ?aB ?aS ?aL ?_; (case aR => repeat (first | exact (Kd.C_below HR0.out HB.out) | (with_reducible refine Kd.C_alloc ?_ _) | (with_reducible refine Kd.C_drewN ?_ _) | (with_reducible refine Kd.C_drew ?_))); (case aB => exact (by repeat (first | (with_reducible first | exact HB.out | apply below_alloc | apply pw_below_drewN | apply below_drew1) | exact HB.out))); (case aF => exact (fun k_ hk => Kd.fresh' (Kd.R_lt (by (with_reducible repeat (first | apply Kd.R_alloc | apply Kd.R_drewN | apply Kd.R_drew)); exact HO_7.out)) k_ hk)); (case aO => exact (by (with_reducible repeat (first | apply Kd.R_alloc | apply Kd.R_drewN | apply Kd.R_drew)); exact Kd.R_mono HO945.out (fun _ hk => hk.2))); (case aS => exact (below_size (by repeat (first | (with_reducible first | exact HB.out | apply below_alloc | apply pw_below_drewN | apply below_drew1) | exact HB.out)))); (case aL => have := LMc12.out; omega); intro v947 w19 ho hb hg hat; rw [← Ny946.out] at ho; have n0_ := Aside0.mk (Kd.R_after (ok := (fun _ => True)) (by (with_reducible repeat (first | apply Kd.R_alloc | apply Kd.R_drewN | apply Kd.R_drew)); exact HO_7.out) hg hat); have n1_ := Aside0.mk (hb); have n2_ := Aside0.mk (ho); clear HO_7; clear HB; clear HO945; have HO_7 := n0_; have HB := n1_; have HO948 := n2_; clear n0_ n1_ n2_; clear ho hb hg hat) | ((with_reducible refine gate_builtin (b := .append) (xs := #[.tmp 27, .tmp 29]) rfl ?_); at_builtin; refine Kd.R_append (Kd.int .i64) (w0 := w) w.heap.size rfl (.tmp 27) (.tmp 29) 22 3 (.int .i64 0) 8 rfl Try.underlying22 info3 rfl (by decide) (by omega) v947 y946 x8_1 [.int .i64 x8_1] (fun k_ => some k_ ≠ (u7 : Value).ownBlock) (fun _ => False) rfl rfl ?aP (fun _ hk => hk.elim) ?aF ?aO ?aB ?aS ?aL ?_; (case aP => exact rfl); (case aB => exact (by repeat (first | (with_reducible first | exact HB.out | apply below_alloc | apply pw_below_drewN | apply below_drew1) | exact HB.out))); (case aF => exact (fun k_ hk => Kd.fresh' (Kd.R_lt (by (with_reducible repeat (first | apply Kd.R_alloc | apply Kd.R_drewN | apply Kd.R_drew)); exact HO_7.out)) k_ hk)); (case aO => exact (by (with_reducible repeat (first | apply Kd.R_alloc | apply Kd.R_drewN | apply Kd.R_drew)); exact HO948.out)); (case aS => exact (below_size (by repeat (first | (with_reducible first | exact HB.out | apply below_alloc | apply pw_below_drewN | apply below_drew1) | exact HB.out)))); (case aL => have := LMc13.out; omega); intro v950 w20 ho hb hg hat; rw [← Ny949.out] at ho; have n0_ := Aside0.mk (Kd.R_after (ok := (fun _ => True)) (by (with_reducible repeat (first | apply Kd.R_alloc | apply Kd.R_drewN | apply Kd.R_drew)); exact HO_7.out) hg hat); have n1_ := Aside0.mk (hb); have n2_ := Aside0.mk (ho); clear HO_7; clear HB; clear HO948; have HO_7 := n0_; have HB := n1_; have HO951 := n2_; clear n0_ n1_ n2_; clear ho hb hg hat; obtain ⟨Ao21, co21, eo21⟩ := Kd.R_slice HO951.out; subst eo21) | ((with_reducible refine gate_callee (f := 67) rfl ?_); refine goesL_ (some 32) rfl rfl Try.func67 (by kernel_rfl) rfl #[.slice Ao21 y949.length co21, .slice A2 l2.length c2] rfl (by (try simp only [List.map_toArray, List.map_cons, List.map_nil]); first | done | rfl | (simp only [List.length_drop, List.length_take]; rfl)) ?_; (with_reducible refine (spec_AvoidsPattern.calls kj5 _ _ y949 _ _ l2 true _ ?side1 ?side2 ?side3 ?side4 A14.out).mono ?_); (case side1 => repeat (first | exact (Kd.R_reads' HO951.out).2.2 | (with_reducible refine Kd.C_alloc ?_ _) | (with_reducible refine Kd.C_drewN ?_ _) | (with_reducible refine Kd.C_drew ?_))); (case side2 => exact (Kd.R_reads' HO951.out).2.1); (case side3 => repeat (first | exact (Kd.C_below HR2.out HB.out) | (with_reducible refine Kd.C_alloc ?_ _) | (with_reducible refine Kd.C_drewN ?_ _) | (with_reducible refine Kd.C_drew ?_))); (case side4 => exact HC2.out); rintro e w22 ⟨rfl, hb⟩; refine ⟨_, rfl, ?_⟩; have n0_ := Aside0.mk (Kd.R_below (by (with_reducible repeat (first | apply Kd.R_alloc | apply Kd.R_drewN | apply Kd.R_drew)); exact HO_7.out) hb); have n1_ := Aside0.mk (Kd.R_below (by (with_reducible repeat (first | apply Kd.R_alloc | apply Kd.R_drewN | apply Kd.R_drew)); exact HO951.out) hb); have n2_ := Aside0.mk (below_step (by repeat (first | (with_reducible first | exact HB.out | apply below_alloc | apply pw_below_drewN | apply below_drew1) | exact HB.out)) hb); clear HO_7; clear HO951; clear HB; have HO_7 := n0_; have HO951 := n1_; have HB := n2_; clear n0_ n1_ n2_; (try clear hb); (try clear hb2); (try clear hk); (try clear hi)) | ((with_reducible refine gate_builtin (b := .append) (xs := #[.tmp 33, .tmp 35]) rfl ?_); at_builtin; refine Kd.R_append (Kd.int .i64) (w0 := w) w.heap.size rfl (.tmp 33) (.tmp 35) 22 3 (.int .i64 0) 8 rfl Try.underlying22 info3 rfl (by decide) (by omega) u7 x7_1 x8_1 [.int .i64 x8_1] (fun k_ => some k_ ≠ (.slice Ao21 y949.length co21 : Value).ownBlock) (fun _ => False) rfl rfl ?aP (fun _ hk => hk.elim) ?aF ?aO ?aB ?aS ?aL ?_; (case aP => exact rfl); (case aB => exact (by repeat (first | (with_reducible first | exact HB.out | apply below_alloc | apply pw_below_drewN | apply below_drew1) | exact HB.out))); (case aF => exact (fun k_ hk => Kd.fresh' (Kd.R_lt (by (with_reducible repeat (first | apply Kd.R_alloc | apply Kd.R_drewN | apply Kd.R_drew)); exact HO951.out)) k_ hk)); (case aO => exact (by (with_reducible repeat (first | apply Kd.R_alloc | apply Kd.R_drewN | apply Kd.R_drew)); exact Kd.R_mono HO_7.out (fun _ hk => hk.2))); (case aS => exact (below_size (by repeat (first | (with_reducible first | exact HB.out | apply below_alloc | apply pw_below_drewN | apply below_drew1) | exact HB.out)))); (case aL => have := LMc16.out; omega); intro v954 w23 ho hb hg hat; rw [← Ny953.out] at ho; have n0_ := Aside0.mk (Kd.R_after (ok := (fun _ => True)) (by (with_reducible repeat (first | apply Kd.R_alloc | apply Kd.R_drewN | apply Kd.R_drew)); exact Kd.R_mono HO951.out (fun _ hk => ⟨trivial, hk⟩)) hg hat); have n1_ := Aside0.mk (hb); have n2_ := Aside0.mk (ho); clear HO951; clear HB; clear HO_7; have HO951 := n0_; have HB := n1_; have HO955 := n2_; clear n0_ n1_ n2_; clear ho hb hg hat))
          go_roundg kj5
          case measure => have := HK1.out; have := HJ5.out; omega
          case rel => exact ⟨(y953), (wrap64 (x8_1 + 1)), (by first | rfl | (simp; done) | (simp [*]; done)), H', ⟨by have := HK1.out; have := HJ5.out; omega⟩, ⟨by (with_reducible repeat (first | apply Kd.R_alloc | apply Kd.R_drewN | apply Kd.R_drew)); exact Kd.R_mono HO955.out (fun _ hk => trivial)⟩, ⟨by repeat (first | (with_reducible first | exact HB.out | apply below_alloc | apply pw_below_drewN | apply below_drew1) | exact HB.out)⟩⟩
         ·rw [if_neg c16] at H
          exact absurd H (by simp)
        ·replace c15 := Bool.eq_false_iff.mpr c15
         subst c15
         have H1 : (spec_ExtensionsOf.l0 kj5 l0 a1 l2 x7_1 (wrap64 (x8_1 + 1))) = some r := by rw [if_neg (show ¬ (false = true) by decide)] at H; exact H
         clear H
         have H := H1
         clear H1
         have H' := Aside0.mk H
         clear H
         go_wp2_with (first | ((with_reducible refine gate_dst (N := 25) rfl ?_); refine Kd.R_lit (Kd.int .i64) _ 3 ?hg (N := 25) ?hd (xs := ([] : List Int)) (inner := []) (ok := fun _ => True) (okp := fun _ => True) ?hr ?hp (fun _ hk => hk) trivial (Below.refl _ _) (Nat.le_refl _) (by simp) ?_; (case hd => rfl); (case hg => rfl); (case hr => first | (go_simp; done) | (go_simp; rfl)); (case hp => exact (Reps.none _ _)); intro v944 w24 ho25 hb hg_ hnew_; clear hg_ hnew_; (first | rw [← Ny943.out] at ho25 | (simp only [Int.reduceToNat] at ho25; rw [← Ny943.out] at ho25)); have n0_ := Aside0.mk (Kd.R_elder' (by (with_reducible repeat (first | apply Kd.R_alloc | apply Kd.R_drewN | apply Kd.R_drew)); exact HO_7.out) (Kd.R_base ho25) hb); have n1_ := Aside0.mk (Kd.R_lower (Kd.R_new' ho25 (Kd.R_lt (by (with_reducible repeat (first | apply Kd.R_alloc | apply Kd.R_drewN | apply Kd.R_drew)); exact HO_7.out))) (below_size (by repeat (first | (with_reducible first | exact HB.out | apply below_alloc | apply pw_below_drewN | apply below_drew1) | exact HB.out)))); have n2_ := Aside0.mk (below_step (by repeat (first | (with_reducible first | exact HB.out | apply below_alloc | apply pw_below_drewN | apply below_drew1) | exact HB.out)) hb); clear HO_7; clear HB; have HO_7 := n0_; have HO945 := n1_; have HB := n2_; clear n0_ n1_ n2_; clear hb ho25) | ((with_reducible refine gate_builtin (b := .append) (xs := #[.tmp 25, .tmp 26]) rfl ?_); at_builtin; refine Kd.R_append_rows (Kd.int .i64) (w0 := w) w.heap.size rfl (.tmp 25) (.tmp 26) 22 3 (.int .i64 0) 8 rfl Try.underlying22 info3 rfl (by decide) (by omega) v944 y943 l0 _ _ _ (fun k_ => some k_ ≠ (u7 : Value).ownBlock) (fun _ => False) rfl rfl ?aO ?aR (fun _ _ h => h) (fun _ h => h.elim) ?aF ?aB ?aS ?aL ?_; (case aR => repeat (first | exact (Kd.C_below HR0.out HB.out) | (with_reducible refine Kd.C_alloc ?_ _) | (with_reducible refine Kd.C_drewN ?_ _) | (with_reducible refine Kd.C_drew ?_))); (case aB => exact (by repeat (first | (with_reducible first | exact HB.out | apply below_alloc | apply pw_below_drewN | apply below_drew1) | exact HB.out))); (case aF => exact (fun k_ hk => Kd.fresh' (Kd.R_lt (by (with_reducible repeat (first | apply Kd.R_alloc | apply Kd.R_drewN | apply Kd.R_drew)); exact HO_7.out)) k_ hk)); (case aO => exact (by (with_reducible repeat (first | apply Kd.R_alloc | apply Kd.R_drewN | apply Kd.R_drew)); exact Kd.R_mono HO945.out (fun _ hk => hk.2))); (case aS => exact (below_size (by repeat (first | (with_reducible first | exact HB.out | apply below_alloc | apply pw_below_drewN | apply below_drew1) | exact HB.out)))); (case aL => have := LMc12.out; omega); intro v947 w26 ho hb hg hat; rw [← Ny946.out] at ho; have n0_ := Aside0.mk (Kd.R_after (ok := (fun _ => True)) (by (with_reducible repeat (first | apply Kd.R_alloc | apply Kd.R_drewN | apply Kd.R_drew)); exact HO_7.out) hg hat); have n1_ := Aside0.mk (hb); have n2_ := Aside0.mk (ho); clear HO_7; clear HB; clear HO945; have HO_7 := n0_; have HB := n1_; have HO948 := n2_; clear n0_ n1_ n2_; clear ho hb hg hat) | ((with_reducible refine gate_builtin (b := .append) (xs := #[.tmp 27, .tmp 29]) rfl ?_); at_builtin; refine Kd.R_append (Kd.int .i64) (w0 := w) w.heap.size rfl (.tmp 27) (.tmp 29) 22 3 (.int .i64 0) 8 rfl Try.underlying22 info3 rfl (by decide) (by omega) v947 y946 x8_1 [.int .i64 x8_1] (fun k_ => some k_ ≠ (u7 : Value).ownBlock) (fun _ => False) rfl rfl ?aP (fun _ hk => hk.elim) ?aF ?aO ?aB ?aS ?aL ?_; (case aP => exact rfl); (case aB => exact (by repeat (first | (with_reducible first | exact HB.out | apply below_alloc | apply pw_below_drewN | apply below_drew1) | exact HB.out))); (case aF => exact (fun k_ hk => Kd.fresh' (Kd.R_lt (by (with_reducible repeat (first | apply Kd.R_alloc | apply Kd.R_drewN | apply Kd.R_drew)); exact HO_7.out)) k_ hk)); (case aO => exact (by (with_reducible repeat (first | apply Kd.R_alloc | apply Kd.R_drewN | apply Kd.R_drew)); exact HO948.out)); (case aS => exact (below_size (by repeat (first | (with_reducible first | exact HB.out | apply below_alloc | apply pw_below_drewN | apply below_drew1) | exact HB.out)))); (case aL => have := LMc13.out; omega); intro v950 w27 ho hb hg hat; rw [← Ny949.out] at ho; have n0_ := Aside0.mk (Kd.R_after (ok := (fun _ => True)) (by (with_reducible repeat (first | apply Kd.R_alloc | apply Kd.R_drewN | apply Kd.R_drew)); exact HO_7.out) hg hat); have n1_ := Aside0.mk (hb); have n2_ := Aside0.mk (ho); clear HO_7; clear HB; clear HO948; have HO_7 := n0_; have HB := n1_; have HO951 := n2_; clear n0_ n1_ n2_; clear ho hb hg hat; obtain ⟨Ao28, co28, eo28⟩ := Kd.R_slice HO951.out; subst eo28) | ((with_reducible refine gate_callee (f := 67) rfl ?_); refine goesL_ (some 32) rfl rfl Try.func67 (by kernel_rfl) rfl #[.slice Ao28 y949.length co28, .slice A2 l2.length c2] rfl (by (try simp only [List.map_toArray, List.map_cons, List.map_nil]); first | done | rfl | (simp only [List.length_drop, List.length_take]; rfl)) ?_; (with_reducible refine (spec_AvoidsPattern.calls kj5 _ _ y949 _ _ l2 false _ ?side1 ?side2 ?side3 ?side4 A14.out).mono ?_); (case side1 => repeat (first | exact (Kd.R_reads' HO951.out).2.2 | (with_reducible refine Kd.C_alloc ?_ _) | (with_reducible refine Kd.C_drewN ?_ _) | (with_reducible refine Kd.C_drew ?_))); (case side2 => exact (Kd.R_reads' HO951.out).2.1); (case side3 => repeat (first | exact (Kd.C_below HR2.out HB.out) | (with_reducible refine Kd.C_alloc ?_ _) | (with_reducible refine Kd.C_drewN ?_ _) | (with_reducible refine Kd.C_drew ?_))); (case side4 => exact HC2.out); rintro e w29 ⟨rfl, hb⟩; refine ⟨_, rfl, ?_⟩; have n0_ := Aside0.mk (Kd.R_below (by (with_reducible repeat (first | apply Kd.R_alloc | apply Kd.R_drewN | apply Kd.R_drew)); exact HO_7.out) hb); have n1_ := Aside0.mk (Kd.R_below (by (with_reducible repeat (first | apply Kd.R_alloc | apply Kd.R_drewN | apply Kd.R_drew)); exact HO951.out) hb); have n2_ := Aside0.mk (below_step (by repeat (first | (with_reducible first | exact HB.out | apply below_alloc | apply pw_below_drewN | apply below_drew1) | exact HB.out)) hb); clear HO_7; clear HO951; clear HB; have HO_7 := n0_; have HO951 := n1_; have HB := n2_; clear n0_ n1_ n2_; (try clear hb); (try clear hb2); (try clear hk); (try clear hi)))
         go_roundg kj5
         case measure => have := HK1.out; have := HJ5.out; omega
         case rel => exact ⟨(x7_1), (wrap64 (x8_1 + 1)), (by first | rfl | (simp; done) | (simp [*]; done)), H', ⟨by have := HK1.out; have := HJ5.out; omega⟩, ⟨by (with_reducible repeat (first | apply Kd.R_alloc | apply Kd.R_drewN | apply Kd.R_drew)); exact Kd.R_mono HO_7.out (fun _ hk => trivial)⟩, ⟨by repeat (first | (with_reducible first | exact HB.out | apply below_alloc | apply pw_below_drewN | apply below_drew1) | exact HB.out)⟩⟩
       ·rw [if_neg c13] at H
        exact absurd H (by simp)
      ·rw [if_neg c12] at H
       exact absurd H (by simp)
     ·replace c11 := Bool.eq_false_iff.mpr c11
      subst c11
      have H1 : (some x7_1) = some r := by rw [if_neg (show ¬ (false = true) by decide)] at H; exact H
      clear H
      have H := H1
      clear H1
      obtain rfl := Option.some.inj H
      go_wp2
      go_ret
      exact ⟨_, by first | rfl | (simp [errW_none, errW_some] <;> rfl) | (simp [*, errW_none, errW_some] <;> rfl), by (with_reducible repeat (first | apply Kd.R_alloc | apply Kd.R_drewN | apply Kd.R_drew)); exact HO_7.out, by repeat (first | (with_reducible first | exact HB.out | apply below_alloc | apply pw_below_drewN | apply below_drew1) | exact HB.out)⟩

end Go.Proofs.Ythkkpdgadfhijaa.M
