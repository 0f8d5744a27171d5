/- Texts of the claim on FnGrowth, joined (part 4 of 5): walks of the functions, what they come to, and in the last part the row. No condition of mine. -/
import Derived.Test.YtooamcjgejajeaaBFnGrowth0
import Derived.Test.YtooamcjgejajeaaBFnGrowth1
import Derived.Test.YtooamcjgejajeaaBFnGrowth2
import Derived.Test.YtooamcjgejajeaaBFnGrowth3
import Derived.Laws.BitsLemmas
namespace Go.Proofs.Ytooamcjgejajeaa.M
noncomputable section
open Go.RowKit Go.Proofs.Ytooamcjgejajeaa.KW Go.Proofs.YtooamcjgejajeaaW.PrintWords Go.Proofs.YtooamcjgejajeaaW.PrintLast Go.Proofs.YtooamcjgejajeaaW.PrintMore
attribute [local go_sem] max2_int min2_int max_two min_two max_three min_three max_four min_four
set_option linter.unusedVariables false
set_option linter.unusedSimpArgs false
mutual
def laws_FnGrowth.j0 : Nat → List Int → Int → Bool → List Int → Bool → List (List Int) → Option (Bool)
 | 0, _, _, _, _, _, _ => none
 | k + 1, x0, x4, x6, x7, x83, x1113000 => if x83 = true then (some false) else (laws_FnGrowth.l0 k x0 x4 x6 x7 0 x1113000)
def laws_FnGrowth.l0 : Nat → List Int → Int → Bool → List Int → Int → List (List Int) → Option (Bool)
 | 0, _, _, _, _, _, _ => none
 | k + 1, x0, x4, x6, x7, x13, x1113000 => if x13 < (x7.length : Int) then (if x6 = true then (laws_FnGrowth.j2 k x0 x4 x6 x7 x13 (decide (x4 ≤ 6)) x1113000) else (laws_FnGrowth.j2 k x0 x4 x6 x7 x13 false x1113000)) else (laws_FnGrowth.j2 k x0 x4 x6 x7 x13 false x1113000)
def laws_FnGrowth.j2 : Nat → List Int → Int → Bool → List Int → Int → Bool → List (List Int) → Option (Bool)
 | 0, _, _, _, _, _, _, _ => none
 | k + 1, x0, x4, x6, x7, x13, x94, x1113000 => if x94 = true then ((spec_IterateMorphism.f k x1113000 x13 x4).bind fun bt1133 => (if bt1133.2 = true then (if 0 ≤ x13 then (if x13 < (x7.length : Int) then (if (bt1133.1.length : Int) = (rd x7 x13) then (laws_FnGrowth.l0 k x0 x4 x6 x7 (wrap64 (x13 + 1)) x1113000) else (some false)) else (none)) else (none)) else (laws_FnGrowth.l0 k x0 x4 x6 x7 (wrap64 (x13 + 1)) x1113000))) else ((spec_DrawCountSquareFree.f k x0).bind fun bt1138 => ((impl_CountSquareFree.f k bt1138.1 bt1138.2).bind fun t1140 => ((spec_DrawCountOverlapFree.f k x0).bind fun t1141 => ((impl_CountOverlapFree.f k t1141).bind fun t1142 => ((spec_CountSquareFree.f k bt1138.1 bt1138.2).bind fun t1143 => (if t1140 = t1143 then ((spec_CountOverlapFree.f k t1141).bind fun t1144 => (laws_FnGrowth.j3 k x0 bt1138.1 bt1138.2 t1140 t1141 t1142 (t1142 != t1144))) else (laws_FnGrowth.j3 k x0 bt1138.1 bt1138.2 t1140 t1141 t1142 true)))))))
def laws_FnGrowth.j3 : Nat → List Int → Int → Int → Int → Int → Int → Bool → Option (Bool)
 | 0, _, _, _, _, _, _, _ => none
 | k + 1, x0, x16, x17, x18, x19, x20, x136 => if x136 = true then (some false) else (if x18 ≥ 0 then (if x17 > 0 then ((spec_CountSquareFree.f k x16 (wrap64 (x17 - 1))).bind fun t1145 => (if x18 > (wrap64 (x16 * t1145)) then (laws_FnGrowth.j4 k x0 true) else (if x20 ≥ 0 then (if x19 > 0 then ((spec_CountOverlapFree.f k (wrap64 (x19 - 1))).bind fun t1146 => (if x20 > (wrap64 (2 * t1146)) then (laws_FnGrowth.j4 k x0 true) else (laws_FnGrowth.j4 k x0 (decide (x20 < 2))))) else (laws_FnGrowth.j4 k x0 false)) else (laws_FnGrowth.j4 k x0 false)))) else (if x20 ≥ 0 then (if x19 > 0 then ((spec_CountOverlapFree.f k (wrap64 (x19 - 1))).bind fun t1147 => (if x20 > (wrap64 (2 * t1147)) then (laws_FnGrowth.j4 k x0 true) else (laws_FnGrowth.j4 k x0 (decide (x20 < 2))))) else (laws_FnGrowth.j4 k x0 false)) else (laws_FnGrowth.j4 k x0 false))) else (if x20 ≥ 0 then (if x19 > 0 then ((spec_CountOverlapFree.f k (wrap64 (x19 - 1))).bind fun t1148 => (if x20 > (wrap64 (2 * t1148)) then (laws_FnGrowth.j4 k x0 true) else (laws_FnGrowth.j4 k x0 (decide (x20 < 2))))) else (laws_FnGrowth.j4 k x0 false)) else (laws_FnGrowth.j4 k x0 false)))
def laws_FnGrowth.j4 : Nat → List Int → Bool → Option (Bool)
 | 0, _, _ => none
 | k + 1, x0, x172 => if x172 = true then (some false) else ((spec_DrawLettersAfter.f k x0).bind fun bt1149 => ((impl_LettersAfter.f k bt1149.1 bt1149.2.1 bt1149.2.2).bind fun bt1155 => ((spec_LettersAfter.f k bt1149.1 bt1149.2.1 bt1149.2.2).bind fun bt1159 => (if (bt1155.2 == bt1159.2) = true then ((laws_sameInts.f k bt1155.1 bt1159.1).bind fun t1163 => (some t1163)) else (some false)))))
end
def laws_FnGrowth.f (k : Nat) (l0 : List Int) : Option (Bool) := (laws_big.f l0).bind fun t1107 => (if t1107 = true then (some true) else ((spec_DrawImageLengths.f k l0).bind fun bt1108 => ((impl_ImageLengths.f k bt1108.1 bt1108.2).bind fun bt1113 => ((spec_ImageLengths.f k bt1108.1 bt1108.2).bind fun bt1117 => ((impl_IncidenceOf.f k bt1108.1).bind fun bt1121 => ((spec_IncidenceOf.f k bt1108.1).bind fun bt1125 => (if (bt1113.2 != bt1117.2) = true then (laws_FnGrowth.j0 k l0 bt1108.2 bt1113.2 bt1117.1 true bt1108.1) else ((laws_sameInts.f k bt1113.1 bt1117.1).bind fun t1129 => (if t1129 = true then (if (bt1121.2 != bt1125.2) = true then (laws_FnGrowth.j0 k l0 bt1108.2 bt1113.2 bt1117.1 true bt1108.1) else ((laws_sameWords.f k bt1121.1 bt1125.1).bind fun t1130 => (if t1130 = true then ((impl_IsPrimitiveMorphism.f k bt1108.1).bind fun t1131 => ((spec_IsPrimitiveMorphism.f k bt1108.1).bind fun t1132 => (laws_FnGrowth.j0 k l0 bt1108.2 bt1113.2 bt1117.1 (t1131 != t1132) bt1108.1))) else (laws_FnGrowth.j0 k l0 bt1108.2 bt1113.2 bt1117.1 true bt1108.1)))) else (laws_FnGrowth.j0 k l0 bt1108.2 bt1113.2 bt1117.1 true bt1108.1))))))))))
def laws_FnGrowth.T8 : Bool × List (List Nat × List Nat) := (true, [([], []), ([], []), ([0, 1], [0, 1]), ([2], [2]), ([3], [3]), ([3], [3]), ([4, 5, 3, 3], [3, 4, 5]), ([6, 3], [3, 6]), ([3, 7], [3, 7]), ([8, 6], [8]), ([9], [9]), ([9], [9]), ([10, 11, 9], [9, 10, 11]), ([9, 12], [9, 12]), ([13, 9], [13]), ([14], [14]), ([14], [14]), ([15, 16, 14, 14], [14, 15, 16]), ([17, 14], [14, 17]), ([14, 18], [14, 18]), ([19, 17], [19]), ([20], [20]), ([21, 20, 20], [20, 21]), ([20], [20]), ([23, 22, 20], [20, 23]), ([22, 24, 20], [20, 22, 24]), ([20, 25], [20, 25])])
def laws_FnGrowth.B8 : List Nat := [0, 0, 3, 7, 15, 15, 63, 127, 255, 511, 1023, 1023, 4095, 8191, 16383, 32767, 32767, 131071, 262143, 524287, 1048575, 2097151, 4194303, 2097151, 16777215, 33554431, 67108863]
theorem laws_FnGrowth.tab8 : rtab .any (opsOf Try.f12 8) = laws_FnGrowth.T8 := by kernel_rfl
theorem laws_FnGrowth.bits8 : waitsOk laws_FnGrowth.T8.2 laws_FnGrowth.B8 = true := by kernel_rfl
theorem laws_FnGrowth.j0_no : ∀ {k : Nat} {y0} {y1} {y2} {y3} {y5} {r : Bool}, laws_FnGrowth.j0 k y0 y1 y2 y3 true y5 = some r → r = true → False := by
 intro k y0 y1 y2 y3 y5 r h hr; cases k with
 | zero => simp [laws_FnGrowth.j0] at h
 | succ k => simp only [laws_FnGrowth.j0] at h; rw [if_pos trivial, hr] at h; cases h
theorem laws_FnGrowth.j3_no : ∀ {k : Nat} {y0} {y1} {y2} {y3} {y4} {y5} {r : Bool}, laws_FnGrowth.j3 k y0 y1 y2 y3 y4 y5 true = some r → r = true → False := by
 intro k y0 y1 y2 y3 y4 y5 r h hr; cases k with
 | zero => simp [laws_FnGrowth.j3] at h
 | succ k => simp only [laws_FnGrowth.j3] at h; rw [if_pos trivial, hr] at h; cases h
theorem laws_FnGrowth.j4_no : ∀ {k : Nat} {y0} {r : Bool}, laws_FnGrowth.j4 k y0 true = some r → r = true → False := by
 intro k y0 r h hr; cases k with
 | zero => simp [laws_FnGrowth.j4] at h
 | succ k => simp only [laws_FnGrowth.j4] at h; rw [if_pos trivial, hr] at h; cases h
set_option maxHeartbeats 8000000 in
set_option maxRecDepth 100000 in
theorem laws_FnGrowth.calls (k : Nat) (A0 : Option Addr) (c0 : Nat) (l0 : List Int) (r : Bool) (w : World) (hr0 : Kd.C (Kd.int .u8) w A0 l0.length l0) (hc0 : l0.length ≤ c0) (h : laws_FnGrowth.f k l0 = some r) (hRT : r = true) :
  Calls Try.prog 12 #[.slice A0 l0.length c0] w fun e w' => e = .returned (.bool r) ∧ Below w.heap.size w w' := by
 have HRT := am hRT; clear hRT; have hu28 := Try.underlying28; have HR0 := am hr0; have HC0 := am hc0; clear hr0 hc0; have HB := am (Below.refl w.heap.size w); have H : ((laws_big.f l0).bind fun t1107 => (if t1107 = true then (some true) else ((spec_DrawImageLengths.f k l0).bind fun bt1108 => ((impl_ImageLengths.f k bt1108.1 bt1108.2).bind fun bt1113 => ((spec_ImageLengths.f k bt1108.1 bt1108.2).bind fun bt1117 => ((impl_IncidenceOf.f k bt1108.1).bind fun bt1121 => ((spec_IncidenceOf.f k bt1108.1).bind fun bt1125 => (if (bt1113.2 != bt1117.2) = true then (laws_FnGrowth.j0 k l0 bt1108.2 bt1113.2 bt1117.1 true bt1108.1) else ((laws_sameInts.f k bt1113.1 bt1117.1).bind fun t1129 => (if t1129 = true then (if (bt1121.2 != bt1125.2) = true then (laws_FnGrowth.j0 k l0 bt1108.2 bt1113.2 bt1117.1 true bt1108.1) else ((laws_sameWords.f k bt1121.1 bt1125.1).bind fun t1130 => (if t1130 = true then ((impl_IsPrimitiveMorphism.f k bt1108.1).bind fun t1131 => ((spec_IsPrimitiveMorphism.f k bt1108.1).bind fun t1132 => (laws_FnGrowth.j0 k l0 bt1108.2 bt1113.2 bt1117.1 (t1131 != t1132) bt1108.1))) else (laws_FnGrowth.j0 k l0 bt1108.2 bt1113.2 bt1117.1 true bt1108.1)))) else (laws_FnGrowth.j0 k l0 bt1108.2 bt1113.2 bt1117.1 true bt1108.1))))))))))) = some r := h; clear h; replace H := bE H; obtain ⟨t1107, A20, H⟩ := H; replace H : (if t1107 = true then (some true) else ((spec_DrawImageLengths.f k l0).bind fun bt1108 => ((impl_ImageLengths.f k bt1108.1 bt1108.2).bind fun bt1113 => ((spec_ImageLengths.f k bt1108.1 bt1108.2).bind fun bt1117 => ((impl_IncidenceOf.f k bt1108.1).bind fun bt1121 => ((spec_IncidenceOf.f k bt1108.1).bind fun bt1125 => (if (bt1113.2 != bt1117.2) = true then (laws_FnGrowth.j0 k l0 bt1108.2 bt1113.2 bt1117.1 true bt1108.1) else ((laws_sameInts.f k bt1113.1 bt1117.1).bind fun t1129 => (if t1129 = true then (if (bt1121.2 != bt1125.2) = true then (laws_FnGrowth.j0 k l0 bt1108.2 bt1113.2 bt1117.1 true bt1108.1) else ((laws_sameWords.f k bt1121.1 bt1125.1).bind fun t1130 => (if t1130 = true then ((impl_IsPrimitiveMorphism.f k bt1108.1).bind fun t1131 => ((spec_IsPrimitiveMorphism.f k bt1108.1).bind fun t1132 => (laws_FnGrowth.j0 k l0 bt1108.2 bt1113.2 bt1117.1 (t1131 != t1132) bt1108.1))) else (laws_FnGrowth.j0 k l0 bt1108.2 bt1113.2 bt1117.1 true bt1108.1)))) else (laws_FnGrowth.j0 k l0 bt1108.2 bt1113.2 bt1117.1 true bt1108.1)))))))))) = some r := H; have A2 := am A20; clear A20; by_cases c3 : t1107 = true
 ·subst c3; have H1 : (some true) = some r := by rw [if_pos rfl] at H; exact H
  clear H; have H := H1; clear H1
  as_aux_lemma =>
   obtain rfl := Option.some.inj H; go_enter Try.func12, Try.ntmps12; go_wp2_with (first | ((with_reducible refine gate_callee (f := 41) rfl ?_); refine goesL_ (some 29) rfl rfl Try.func41 (by kernel_rfl) rfl #[.slice A0 l0.length c0] rfl (by (try simp only [mT, mC, mN]); first | done | rfl) ?_; (with_reducible refine (laws_big.calls _ _ l0 true _ ?side1 ?side2 A2.out).mono ?_); (case side1 => exact xC (HR0.out)); (case side2 => exact HC0.out); rintro e w' ⟨rfl, ⟨nd, rfl⟩⟩; refine ⟨_, rfl, ?_⟩)); go_ret; exact ⟨by first | rfl | (simp [errW_none, errW_some] <;> rfl) | (simp [*, errW_none, errW_some] <;> rfl), by exact rB HB⟩
 ·replace c3 := Bool.eq_false_iff.mpr c3; subst c3; have H1 : ((spec_DrawImageLengths.f k l0).bind fun bt1108 => ((impl_ImageLengths.f k bt1108.1 bt1108.2).bind fun bt1113 => ((spec_ImageLengths.f k bt1108.1 bt1108.2).bind fun bt1117 => ((impl_IncidenceOf.f k bt1108.1).bind fun bt1121 => ((spec_IncidenceOf.f k bt1108.1).bind fun bt1125 => (if (bt1113.2 != bt1117.2) = true then (laws_FnGrowth.j0 k l0 bt1108.2 bt1113.2 bt1117.1 true bt1108.1) else ((laws_sameInts.f k bt1113.1 bt1117.1).bind fun t1129 => (if t1129 = true then (if (bt1121.2 != bt1125.2) = true then (laws_FnGrowth.j0 k l0 bt1108.2 bt1113.2 bt1117.1 true bt1108.1) else ((laws_sameWords.f k bt1121.1 bt1125.1).bind fun t1130 => (if t1130 = true then ((impl_IsPrimitiveMorphism.f k bt1108.1).bind fun t1131 => ((spec_IsPrimitiveMorphism.f k bt1108.1).bind fun t1132 => (laws_FnGrowth.j0 k l0 bt1108.2 bt1113.2 bt1117.1 (t1131 != t1132) bt1108.1))) else (laws_FnGrowth.j0 k l0 bt1108.2 bt1113.2 bt1117.1 true bt1108.1)))) else (laws_FnGrowth.j0 k l0 bt1108.2 bt1113.2 bt1117.1 true bt1108.1))))))))) = some r := by rw [if_neg (show ¬ (false = true) by decide)] at H; exact H
  clear H; have H := H1; clear H1; replace H := bE H; obtain ⟨⟨t1108, t1111⟩, A40, H⟩ := H; replace H : ((impl_ImageLengths.f k t1108 t1111).bind fun bt1113 => ((spec_ImageLengths.f k t1108 t1111).bind fun bt1117 => ((impl_IncidenceOf.f k t1108).bind fun bt1121 => ((spec_IncidenceOf.f k t1108).bind fun bt1125 => (if (bt1113.2 != bt1117.2) = true then (laws_FnGrowth.j0 k l0 t1111 bt1113.2 bt1117.1 true t1108) else ((laws_sameInts.f k bt1113.1 bt1117.1).bind fun t1129 => (if t1129 = true then (if (bt1121.2 != bt1125.2) = true then (laws_FnGrowth.j0 k l0 t1111 bt1113.2 bt1117.1 true t1108) else ((laws_sameWords.f k bt1121.1 bt1125.1).bind fun t1130 => (if t1130 = true then ((impl_IsPrimitiveMorphism.f k t1108).bind fun t1131 => ((spec_IsPrimitiveMorphism.f k t1108).bind fun t1132 => (laws_FnGrowth.j0 k l0 t1111 bt1113.2 bt1117.1 (t1131 != t1132) t1108))) else (laws_FnGrowth.j0 k l0 t1111 bt1113.2 bt1117.1 true t1108)))) else (laws_FnGrowth.j0 k l0 t1111 bt1113.2 bt1117.1 true t1108)))))))) = some r := H; have A4 := am A40; clear A40; replace H := bE H; obtain ⟨⟨t1113, t1116⟩, A50, H⟩ := H; replace H : ((spec_ImageLengths.f k t1108 t1111).bind fun bt1117 => ((impl_IncidenceOf.f k t1108).bind fun bt1121 => ((spec_IncidenceOf.f k t1108).bind fun bt1125 => (if (t1116 != bt1117.2) = true then (laws_FnGrowth.j0 k l0 t1111 t1116 bt1117.1 true t1108) else ((laws_sameInts.f k t1113 bt1117.1).bind fun t1129 => (if t1129 = true then (if (bt1121.2 != bt1125.2) = true then (laws_FnGrowth.j0 k l0 t1111 t1116 bt1117.1 true t1108) else ((laws_sameWords.f k bt1121.1 bt1125.1).bind fun t1130 => (if t1130 = true then ((impl_IsPrimitiveMorphism.f k t1108).bind fun t1131 => ((spec_IsPrimitiveMorphism.f k t1108).bind fun t1132 => (laws_FnGrowth.j0 k l0 t1111 t1116 bt1117.1 (t1131 != t1132) t1108))) else (laws_FnGrowth.j0 k l0 t1111 t1116 bt1117.1 true t1108)))) else (laws_FnGrowth.j0 k l0 t1111 t1116 bt1117.1 true t1108))))))) = some r := H; have A5 := am A50; clear A50; replace H := bE H; obtain ⟨⟨t1117, t1120⟩, A60, H⟩ := H; replace H : ((impl_IncidenceOf.f k t1108).bind fun bt1121 => ((spec_IncidenceOf.f k t1108).bind fun bt1125 => (if (t1116 != t1120) = true then (laws_FnGrowth.j0 k l0 t1111 t1116 t1117 true t1108) else ((laws_sameInts.f k t1113 t1117).bind fun t1129 => (if t1129 = true then (if (bt1121.2 != bt1125.2) = true then (laws_FnGrowth.j0 k l0 t1111 t1116 t1117 true t1108) else ((laws_sameWords.f k bt1121.1 bt1125.1).bind fun t1130 => (if t1130 = true then ((impl_IsPrimitiveMorphism.f k t1108).bind fun t1131 => ((spec_IsPrimitiveMorphism.f k t1108).bind fun t1132 => (laws_FnGrowth.j0 k l0 t1111 t1116 t1117 (t1131 != t1132) t1108))) else (laws_FnGrowth.j0 k l0 t1111 t1116 t1117 true t1108)))) else (laws_FnGrowth.j0 k l0 t1111 t1116 t1117 true t1108)))))) = some r := H; have A6 := am A60; clear A60; replace H := bE H; obtain ⟨⟨t1121, t1124⟩, A70, H⟩ := H; replace H : ((spec_IncidenceOf.f k t1108).bind fun bt1125 => (if (t1116 != t1120) = true then (laws_FnGrowth.j0 k l0 t1111 t1116 t1117 true t1108) else ((laws_sameInts.f k t1113 t1117).bind fun t1129 => (if t1129 = true then (if (t1124 != bt1125.2) = true then (laws_FnGrowth.j0 k l0 t1111 t1116 t1117 true t1108) else ((laws_sameWords.f k t1121 bt1125.1).bind fun t1130 => (if t1130 = true then ((impl_IsPrimitiveMorphism.f k t1108).bind fun t1131 => ((spec_IsPrimitiveMorphism.f k t1108).bind fun t1132 => (laws_FnGrowth.j0 k l0 t1111 t1116 t1117 (t1131 != t1132) t1108))) else (laws_FnGrowth.j0 k l0 t1111 t1116 t1117 true t1108)))) else (laws_FnGrowth.j0 k l0 t1111 t1116 t1117 true t1108))))) = some r := H; have A7 := am A70; clear A70; replace H := bE H; obtain ⟨⟨t1125, t1128⟩, A80, H⟩ := H; replace H : (if (t1116 != t1120) = true then (laws_FnGrowth.j0 k l0 t1111 t1116 t1117 true t1108) else ((laws_sameInts.f k t1113 t1117).bind fun t1129 => (if t1129 = true then (if (t1124 != t1128) = true then (laws_FnGrowth.j0 k l0 t1111 t1116 t1117 true t1108) else ((laws_sameWords.f k t1121 t1125).bind fun t1130 => (if t1130 = true then ((impl_IsPrimitiveMorphism.f k t1108).bind fun t1131 => ((spec_IsPrimitiveMorphism.f k t1108).bind fun t1132 => (laws_FnGrowth.j0 k l0 t1111 t1116 t1117 (t1131 != t1132) t1108))) else (laws_FnGrowth.j0 k l0 t1111 t1116 t1117 true t1108)))) else (laws_FnGrowth.j0 k l0 t1111 t1116 t1117 true t1108)))) = some r := H; have A8 := am A80; clear A80; have HC9 := am H; clear H; go_enter Try.func12, Try.ntmps12; go_upto_region 8 with (first | ((with_reducible refine gate_callee (f := 41) rfl ?_); refine goesL_ (some 29) rfl rfl Try.func41 (by kernel_rfl) rfl #[.slice A0 l0.length c0] rfl (by (try simp only [mT, mC, mN]); first | done | rfl) ?_; (with_reducible refine (laws_big.calls _ _ l0 false _ ?side1 ?side2 A2.out).mono ?_); (case side1 => exact xC (HR0.out)); (case side2 => exact HC0.out); rintro e w' ⟨rfl, ⟨nd, rfl⟩⟩; refine ⟨_, rfl, ?_⟩) | ((with_reducible refine gate_callee (f := 59) rfl ?_); refine goesL_ (some 32) rfl rfl Try.func59 (by kernel_rfl) rfl #[.slice A0 l0.length c0] rfl (by (try simp only [mT, mC, mN]); first | done | rfl) ?_; (with_reducible refine (spec_DrawImageLengths.calls k _ _ l0 t1108 t1111 _ ?side1 ?side2 A4.out).mono ?_); (case side1 => exact xC (HR0.out)); (case side2 => exact HC0.out); rintro e w10 ⟨v1109, rfl, ho0, hb⟩; refine ⟨_, rfl, ?_⟩; have HO1110 := am (Kd.N_lower (Kd.N_mono (ok' := fun k_ => True) ho0 (fun k_ hk_ => trivial)) (bZ HB)); replace HB := bS HB hb; clear hb ho0) | ((with_reducible refine gate_dst (N := 3) rfl ?_); (try (refine gate_guard (by rfl) ?_; dsimp only)); refine box_event ?hg (N := 3) ?hd (cs := #[.slice none 0 0]) (t := 28) ?hr ?_; (case hd | hg => rfl); (case hr => go_simp <;> rfl); intro gb1112 hg w11 hbox hb; replace HO1110 := am (Kd.N_below (Kd.N_elderB (by exact rN HO1110) gb1112 (Nat.le_of_eq hg.symm)) hb); have BK1112 := am (hbox); have GW1112 := am ((by rw [hg]; exact (bZ HB) : w.heap.size ≤ gb1112)); have GE1112 := am ((by rw [hg]; exact (bZ HB) : w.heap.size ≤ gb1112)); replace HB := bS HB hb; have qW1112 := Ge.mk GW1112.out; have qE1112 := Ge.mk GE1112.out; clear hb hbox hg; obtain ⟨Ao12, co12, eo12⟩ := Kd.N_slice HO1110.out; subst eo12; have hcz13_0 := z10 BK1112; have hfz13_0 := blk_frozen BK1112.out 0) | ((with_reducible refine gate_callee (f := 32) rfl ?_); refine goesL_ (some 38) rfl rfl Try.func32 (by kernel_rfl) rfl #[.agg #[.slice Ao12 t1108.length co12], .int .i64 t1111] rfl (by (try simp only [mT, mC, mN]); first | done | rfl) ?_; (with_reducible refine (impl_ImageLengths.calls k _ _ t1108 t1111 t1113 t1116 _ ?side1 ?side2 A5.out).mono ?_); (case side1 => refine (Kd.N_reads' (e := 36) (base := w.heap.size) (ok := fun k_ => (True ∧ k_ ≠ gb1112)) (n := t1108.length) (c := co12) ?_).2.2; exact (by exact xN ((Kd.N_mono (Kd.N_far (p := ⟨gb1112, 0, none⟩) (Kd.N_mono HO1110.out (fun k_ hk => (⟨hk, hk.2⟩ : _ ∧ k_ ≠ gb1112))) (fun _ hk => hk.2) (.slice Ao12 t1108.length co12)) (fun _ h_ => h_.1))))); (case side2 => exact (Kd.N_reads' HO1110.out).2.1); rintro e w14 ⟨v1114, rfl, ho0, hb⟩; refine ⟨_, rfl, ?_⟩; replace HO1110 := am (Kd.N_elder' (by exact xN ((Kd.N_mono (Kd.N_far (p := ⟨gb1112, 0, none⟩) (Kd.N_mono HO1110.out (fun k_ hk => (⟨hk, hk.2⟩ : _ ∧ k_ ≠ gb1112))) (fun _ hk => hk.2) (.slice Ao12 t1108.length co12)) (fun _ h_ => h_.1)))) (Kd.R_base ho0) hb); have HO1115 := am (Kd.R_lower ho0 (bZ HB)); replace BK1112 := am (blk_below (g := gb1112) (o := .cells #[.slice Ao12 t1108.length co12] 28 (0, 0)) (by (with_reducible repeat (first | refine blk_drewN ?_ _ | refine blk_drew ?_ | refine blk_alloc ?_ _)); refine blk_put (cs := #[.slice none 0 0]) ?_ 0 _ rfl; exact rX BK1112) hb); replace HB := bS HB hb; clear hb ho0; have hcz15_0 := z10 BK1112; have hfz15_0 := blk_frozen BK1112.out 0) | ((with_reducible refine gate_callee (f := 31) rfl ?_); refine goesL_ (some 44) rfl rfl Try.func31 (by kernel_rfl) rfl #[.agg #[.slice Ao12 t1108.length co12], .int .i64 t1111] rfl (by (try simp only [mT, mC, mN]); first | done | rfl) ?_; (with_reducible refine (spec_ImageLengths.calls k _ _ t1108 t1111 t1117 t1120 _ ?side1 ?side2 A6.out).mono ?_); (case side1 => exact xC ((Kd.N_reads' HO1110.out).2.2)); (case side2 => exact (Kd.N_reads' HO1110.out).2.1); rintro e w16 ⟨v1118, rfl, ho0, hb⟩; refine ⟨_, rfl, ?_⟩; replace HO1110 := am (Kd.N_elder' (by exact rN HO1110) (Kd.R_base ho0) hb); have HO1119 := am (Kd.R_lower (Kd.R_new' ho0 (Kd.R_lt (by exact rR HO1115))) (bZ HB)); replace HO1115 := am (Kd.R_elder' (by exact rR HO1115) (Kd.R_base ho0) hb); replace BK1112 := bK BK1112 hb; replace HB := bS HB hb; clear hb ho0; have hcz17_0 := z10 BK1112; have hfz17_0 := blk_frozen BK1112.out 0) | ((with_reducible refine gate_callee (f := 18) rfl ?_); refine goesL_ (some 49) rfl rfl Try.func18 (by kernel_rfl) rfl #[.agg #[.slice Ao12 t1108.length co12]] rfl (by (try simp only [mT, mC, mN]); first | done | rfl) ?_; (with_reducible refine (impl_IncidenceOf.calls k _ _ t1108 t1121 t1124 _ ?side1 ?side2 A7.out).mono ?_); (case side1 => exact xC ((Kd.N_reads' HO1110.out).2.2)); (case side2 => exact (Kd.N_reads' HO1110.out).2.1); rintro e w18 ⟨v1122, rfl, ho0, hb⟩; refine ⟨_, rfl, ?_⟩; have HO1123 := am (Kd.N_lower (Kd.N_mono (ok' := fun k_ => some k_ ≠ (.slice Ao12 t1108.length co12 : Value).ownBlock ∧ some k_ ≠ (v1114 : Value).ownBlock ∧ some k_ ≠ (v1118 : Value).ownBlock ∧ k_ ≠ gb1112) (Kd.S_N (Kd.S_bound ho0)) (fun k_ hk_ => ⟨(Kd.fresh' (Kd.N_lt (by exact rN HO1110)) k_ hk_.2.1), (Kd.fresh' (Kd.R_lt (by exact rR HO1115)) k_ hk_.2.1), (Kd.fresh' (Kd.R_lt (by exact rR HO1119)) k_ hk_.2.1), (Kd.freshB (g := gb1112) (o := .cells #[.slice Ao12 t1108.length co12] 28 (0, 0)) (by exact rX BK1112) k_ hk_.2.1)⟩)) (bZ HB)); replace HO1110 := am (Kd.N_elder' (by exact rN HO1110) (by first | exact Kd.N_base ho0 | exact Kd.S_base ho0) hb); replace HO1115 := am (Kd.R_below (by exact rR HO1115) hb); replace HO1119 := am (Kd.R_below (by exact rR HO1119) hb); replace BK1112 := bK BK1112 hb; replace HB := bS HB hb; clear hb ho0; have hcz19_0 := z10 BK1112; have hfz19_0 := blk_frozen BK1112.out 0) | ((with_reducible refine gate_callee (f := 16) rfl ?_); refine goesL_ (some 54) rfl rfl Try.func16 (by kernel_rfl) rfl #[.agg #[.slice Ao12 t1108.length co12]] rfl (by (try simp only [mT, mC, mN]); first | done | rfl) ?_; (with_reducible refine (spec_IncidenceOf.calls k _ _ t1108 t1125 t1128 _ ?side1 ?side2 A8.out).mono ?_); (case side1 => exact xC ((Kd.N_reads' HO1110.out).2.2)); (case side2 => exact (Kd.N_reads' HO1110.out).2.1); rintro e w20 ⟨v1126, rfl, ho0, hb⟩; refine ⟨_, rfl, ?_⟩; have HO1127 := am (Kd.N_lower (Kd.N_mono (ok' := fun k_ => some k_ ≠ (.slice Ao12 t1108.length co12 : Value).ownBlock ∧ some k_ ≠ (v1114 : Value).ownBlock ∧ some k_ ≠ (v1118 : Value).ownBlock ∧ some k_ ≠ (v1122 : Value).ownBlock ∧ k_ ≠ gb1112) (Kd.S_N (Kd.S_bound ho0)) (fun k_ hk_ => ⟨(Kd.fresh' (Kd.N_lt (by exact rN HO1110)) k_ hk_.2.1), (Kd.fresh' (Kd.R_lt (by exact rR HO1115)) k_ hk_.2.1), (Kd.fresh' (Kd.R_lt (by exact rR HO1119)) k_ hk_.2.1), (Kd.fresh' (Kd.N_lt (by exact rN HO1123)) k_ hk_.2.1), (Kd.freshB (g := gb1112) (o := .cells #[.slice Ao12 t1108.length co12] 28 (0, 0)) (by exact rX BK1112) k_ hk_.2.1)⟩)) (bZ HB)); replace HO1110 := am (Kd.N_elder' (by exact rN HO1110) (by first | exact Kd.N_base ho0 | exact Kd.S_base ho0) hb); replace HO1115 := am (Kd.R_below (by exact rR HO1115) hb); replace HO1119 := am (Kd.R_below (by exact rR HO1119) hb); replace HO1123 := am (Kd.N_elder' (by exact rN HO1123) (by first | exact Kd.N_base ho0 | exact Kd.S_base ho0) hb); replace BK1112 := bK BK1112 hb; replace HB := bS HB hb; clear hb ho0)); (try simp only [Act.put, qa, qz, qs]); go_cut [83] (fun v83 wc => ∃ (kq : Nat) (x83_8 : Bool), v83 = .bool x83_8 ∧ Aside0 (laws_FnGrowth.j0 kq l0 t1111 t1116 t1117 x83_8 t1108 = some r) ∧ Aside0 (kq ≤ k) ∧ Aside0 (Kd.R (Kd.int .i64) 3 wc w.heap.size (fun _ => True) v1118 t1117) ∧ Aside0 (Kd.N (Kd.slice 3 (Kd.int .i64)) 36 wc w.heap.size (fun k_ => some k_ ≠ (v1118 : Value).ownBlock ∧ k_ ≠ gb1112) (.slice Ao12 t1108.length co12) t1108) ∧ Aside0 (wc.heap[gb1112]? = some (.cells #[(.slice Ao12 t1108.length co12)] 28 (0, 0))) ∧ Aside0 (Below w.heap.size w wc))
  case first =>
   have H := HC9.out; clear HC9; by_cases c21 : (t1116 != t1120) = true
   ·rw [if_pos c21] at H; have c21b0 : (t1116 != t1120) = true := c21; (try (have c21b1 : decide (t1116 = t1120) = false := by simpa using c21)); (try (have c21b2 : (t1116 == t1120) = false := by simpa using c21)); (try (have c21b3 : ¬ (t1116 = t1120) := by simpa using c21)); clear c21
    (first | rw [c21b0] | (simp only [i64_w, i32_w]; rw [c21b0]) | skip)
    as_aux_lemma =>
     first | exact (laws_FnGrowth.j0_no H HRT.out).elim | exact (laws_FnGrowth.j3_no H HRT.out).elim | exact (laws_FnGrowth.j4_no H HRT.out).elim
   ·rw [if_neg c21] at H; have c21b0 : (t1116 != t1120) = false := by simpa using c21
    (try (have c21b1 : decide (t1116 = t1120) = true := by simpa using c21)); (try (have c21b2 : (t1116 == t1120) = true := by simpa using c21)); clear c21
    (first | rw [c21b0] | (simp only [i64_w, i32_w]; rw [c21b0]) | skip)
    replace H := bE H; obtain ⟨t1129, A230, H⟩ := H; replace H : (if t1129 = true then (if (t1124 != t1128) = true then (laws_FnGrowth.j0 k l0 t1111 t1116 t1117 true t1108) else ((laws_sameWords.f k t1121 t1125).bind fun t1130 => (if t1130 = true then ((impl_IsPrimitiveMorphism.f k t1108).bind fun t1131 => ((spec_IsPrimitiveMorphism.f k t1108).bind fun t1132 => (laws_FnGrowth.j0 k l0 t1111 t1116 t1117 (t1131 != t1132) t1108))) else (laws_FnGrowth.j0 k l0 t1111 t1116 t1117 true t1108)))) else (laws_FnGrowth.j0 k l0 t1111 t1116 t1117 true t1108)) = some r := H; have A23 := am A230; clear A230; by_cases c24 : t1129 = true
    ·subst c24; have H1 : (if (t1124 != t1128) = true then (laws_FnGrowth.j0 k l0 t1111 t1116 t1117 true t1108) else ((laws_sameWords.f k t1121 t1125).bind fun t1130 => (if t1130 = true then ((impl_IsPrimitiveMorphism.f k t1108).bind fun t1131 => ((spec_IsPrimitiveMorphism.f k t1108).bind fun t1132 => (laws_FnGrowth.j0 k l0 t1111 t1116 t1117 (t1131 != t1132) t1108))) else (laws_FnGrowth.j0 k l0 t1111 t1116 t1117 true t1108)))) = some r := by rw [if_pos rfl] at H; exact H
     clear H; have H := H1; clear H1; by_cases c25 : (t1124 != t1128) = true
     ·rw [if_pos c25] at H; have c25b0 : (t1124 != t1128) = true := c25; (try (have c25b1 : decide (t1124 = t1128) = false := by simpa using c25)); (try (have c25b2 : (t1124 == t1128) = false := by simpa using c25)); (try (have c25b3 : ¬ (t1124 = t1128) := by simpa using c25)); clear c25
      as_aux_lemma =>
       first | exact (laws_FnGrowth.j0_no H HRT.out).elim | exact (laws_FnGrowth.j3_no H HRT.out).elim | exact (laws_FnGrowth.j4_no H HRT.out).elim
     ·rw [if_neg c25] at H; have c25b0 : (t1124 != t1128) = false := by simpa using c25
      (try (have c25b1 : decide (t1124 = t1128) = true := by simpa using c25)); (try (have c25b2 : (t1124 == t1128) = true := by simpa using c25)); clear c25; replace H := bE H; obtain ⟨t1130, A290, H⟩ := H; replace H : (if t1130 = true then ((impl_IsPrimitiveMorphism.f k t1108).bind fun t1131 => ((spec_IsPrimitiveMorphism.f k t1108).bind fun t1132 => (laws_FnGrowth.j0 k l0 t1111 t1116 t1117 (t1131 != t1132) t1108))) else (laws_FnGrowth.j0 k l0 t1111 t1116 t1117 true t1108)) = some r := H; have A29 := am A290; clear A290; by_cases c30 : t1130 = true
      ·subst c30; have H1 : ((impl_IsPrimitiveMorphism.f k t1108).bind fun t1131 => ((spec_IsPrimitiveMorphism.f k t1108).bind fun t1132 => (laws_FnGrowth.j0 k l0 t1111 t1116 t1117 (t1131 != t1132) t1108))) = some r := by rw [if_pos rfl] at H; exact H
       clear H; have H := H1; clear H1; replace H := bE H; obtain ⟨t1131, A310, H⟩ := H; replace H : ((spec_IsPrimitiveMorphism.f k t1108).bind fun t1132 => (laws_FnGrowth.j0 k l0 t1111 t1116 t1117 (t1131 != t1132) t1108)) = some r := H; have A31 := am A310; clear A310; replace H := bE H; obtain ⟨t1132, A320, H⟩ := H; replace H : (laws_FnGrowth.j0 k l0 t1111 t1116 t1117 (t1131 != t1132) t1108) = some r := H; have A32 := am A320; clear A320
       as_aux_lemma =>
        have H' := am H; clear H
        try go_wp2
        replace HO1110 := am (Kd.N_drew HO1110.out); replace HO1115 := am (Kd.R_drew HO1115.out); replace HO1119 := am (Kd.R_drew HO1119.out); replace HO1123 := am (Kd.N_drew HO1123.out); replace HO1127 := am (Kd.N_drew HO1127.out); replace BK1112 := am (blk_drew BK1112.out); replace HB := am (below_drew1 HB.out)
        obtain ⟨Ao34, co34, eo34⟩ := Kd.R_slice HO1115.out
        (first | subst eo34 | (injection eo34 with f1_ f2_ f3_; have f4_ := f1_.symm; have f5_ := f3_.symm; clear f1_ f2_ f3_; subst f4_; subst f5_))
        obtain ⟨Ao35, co35, eo35⟩ := Kd.R_slice HO1119.out
        (first | subst eo35 | (injection eo35 with f1_ f2_ f3_; have f4_ := f1_.symm; have f5_ := f3_.symm; clear f1_ f2_ f3_; subst f4_; subst f5_))
        refine start_ (n := 27) (S := fun w' => w'.cell? ⟨gb1112, 0, none⟩ = some (.slice Ao12 t1108.length co12)) (ds := []) #[false, false, false, false, false, false, false, false, false, false, false, false, false, false, false, false, false, false, false, false, false, false, false, false, false, false, false] (by kernel_rfl) rfl rfl ((blk_cell BK1112.out 0).trans rfl) (fun hHeld => ?_); refine with_tabW laws_FnGrowth.tab8 laws_FnGrowth.bits8 (fun HT_ HW_ => ?_); generalize w20.drew = w33 at HO1110 HO1115 HO1119 HO1123 HO1127 BK1112 HB hHeld ⊢; refine pure_ (i := 0) (N := some 57) (v := ?_) (a' := ?_) (bA 27 1) rfl rfl (any_of HT_.out (by kernel_rfl)) (fun _ _ _ h => h) (Or.inl ⟨by rfl, ?_⟩) ?_ ?_; rotate_left; (intro w'; go_simp; (with_reducible rfl)); rotate_left; (simp only [Act.put, qa, qz, qs, i64_w, i32_w]; rfl); refine pure_ (i := 1) (N := some 58) (v := ?_) (a' := ?_) (bA 27 3) rfl rfl (any_of HT_.out (by kernel_rfl)) (fun _ _ _ h => h) (Or.inl ⟨by rfl, ?_⟩) ?_ ?_; rotate_left
        ·intro w'; go_simp; (with_reducible rfl)
        rotate_left; (simp only [Act.put, qa, qz, qs, i64_w, i32_w]; rfl); refine pure_ (i := 2) (N := some 59) (v := ?_) (a' := ?_) (bA 27 7) rfl rfl (any_of HT_.out (by kernel_rfl)) (fun _ _ _ h => h) (Or.inl ⟨by rfl, ?_⟩) ?_ ?_; rotate_left
        ·intro w'; go_simp; (with_reducible rfl)
        rotate_left; (simp only [Act.put, qa, qz, qs, i64_w, i32_w]; rfl); refine pure_ (i := 3) (N := some 60) (v := ?_) (a' := ?_) (bA 27 15) rfl rfl (any_of HT_.out (by kernel_rfl)) (fun _ _ _ h => h) (Or.inl ⟨by rfl, ?_⟩) ?_ ?_; rotate_left
        ·intro w'; go_simp; (with_reducible rfl)
        rotate_left; (simp only [Act.put, qa, qz, qs, i64_w, i32_w]; rfl); refine pure_ (i := 4) (N := some 61) (v := ?_) (a' := ?_) (bA 27 31) rfl rfl (any_of HT_.out (by kernel_rfl)) (fun _ _ _ h => h) (Or.inl ⟨by rfl, ?_⟩) ?_ ?_; rotate_left
        ·intro w'; go_simp; (with_reducible rfl)
        rotate_left; (simp only [Act.put, qa, qz, qs, i64_w, i32_w]; rfl); refine pure_ (i := 5) (N := some 62) (v := ?_) (a' := ?_) (bA 27 63) rfl rfl (any_of HT_.out (by kernel_rfl)) (fun _ _ _ h => h) (Or.inl ⟨by rfl, ?_⟩) ?_ ?_; rotate_left
        ·intro w'; go_simp; (with_reducible rfl)
        rotate_left; (simp only [Act.put, qa, qz, qs, i64_w, i32_w]; rfl); refine one_ (i := 6) (N := some 63) (bA 27 127) rfl rfl (one_of HT_.out (by kernel_rfl)) (by decide) (fun K hK => ?_); refine goes_ Try.func43 (by kernel_rfl) rfl #[.slice Ao34 t1113.length co34, .slice Ao35 t1117.length co35] (by rfl) rfl rfl (by (try simp only [mT, mC, mN]); first | done | rfl) ?_; (with_reducible refine (laws_sameInts.calls k _ _ t1113 _ _ t1117 true _ ?side1 ?side2 ?side3 ?side4 A23.out).mono ?_); (case side1 => exact xC ((Kd.R_reads' HO1115.out).2.2)); (case side2 => exact (Kd.R_reads' HO1115.out).2.1); (case side3 => exact xC ((Kd.R_reads' HO1119.out).2.2)); (case side4 => exact (Kd.R_reads' HO1119.out).2.1); rintro e w' ⟨rfl, ⟨nd, rfl⟩⟩; refine ⟨_, rfl, ?_⟩; obtain ⟨Ao36, co36, eo36⟩ := Kd.N_slice HO1123.out
        (first | subst eo36 | (injection eo36 with f1_ f2_ f3_; have f4_ := f1_.symm; have f5_ := f3_.symm; clear f1_ f2_ f3_; subst f4_; subst f5_))
        obtain ⟨Ao37, co37, eo37⟩ := Kd.N_slice HO1127.out
        (first | subst eo37 | (injection eo37 with f1_ f2_ f3_; have f4_ := f1_.symm; have f5_ := f3_.symm; clear f1_ f2_ f3_; subst f4_; subst f5_))
        refine hK.out _ _ ((blk_cell BK1112.out 0).trans rfl) (fun hHeld => ?_); clear hK K; refine norm_ (a' := ?_) ?_ ?_; rotate_left; (show Act.put _ (some 63) _ = _; simp only [Act.put, qa, qz, qs, i64_w, i32_w]; rfl); refine pure_ (i := 7) (N := some 64) (v := ?_) (a' := ?_) (bA 27 255) rfl rfl (any_of HT_.out (by kernel_rfl)) (fun _ _ _ h => h) (Or.inl ⟨by rfl, ?_⟩) ?_ ?_; rotate_left
        ·intro w'; go_simp; (with_reducible rfl)
        rotate_left; (simp only [Act.put, qa, qz, qs, i64_w, i32_w]; rfl); refine pure_ (i := 8) (N := some 65) (v := ?_) (a' := ?_) (bA 27 511) rfl rfl (any_of HT_.out (by kernel_rfl)) (fun _ _ _ h => h) (Or.inl ⟨by rfl, ?_⟩) ?_ ?_; rotate_left
        ·intro w'; go_simp; (with_reducible rfl)
        rotate_left; (simp only [Act.put, qa, qz, qs, i64_w, i32_w]; rfl); refine pure_ (i := 9) (N := some 66) (v := ?_) (a' := ?_) (bA 27 1023) rfl rfl (any_of HT_.out (by kernel_rfl)) (fun _ _ _ h => h) (Or.inl ⟨by rfl, ?_⟩) ?_ ?_; rotate_left
        ·intro w'; go_simp; (with_reducible rfl)
        rotate_left; (simp only [Act.put, qa, qz, qs, i64_w, i32_w]; rfl); refine pure_ (i := 10) (N := some 67) (v := ?_) (a' := ?_) (bA 27 2047) rfl rfl (any_of HT_.out (by kernel_rfl)) (fun _ _ _ h => h) (Or.inl ⟨by rfl, ?_⟩) ?_ ?_; rotate_left
        ·intro w'; go_simp; (with_reducible rfl)
        rotate_left; (simp only [Act.put, qa, qz, qs, i64_w, i32_w]; rfl); refine pure_ (i := 11) (N := some 68) (v := ?_) (a' := ?_) (bA 27 4095) rfl rfl (any_of HT_.out (by kernel_rfl)) (fun _ _ _ h => h) (Or.inl ⟨by rfl, ?_⟩) ?_ ?_; rotate_left
        ·intro w'; go_simp; (with_reducible rfl)
        rotate_left; (simp only [Act.put, qa, qz, qs, i64_w, i32_w]; rfl); refine pure_ (i := 12) (N := some 69) (v := ?_) (a' := ?_) (bA 27 8191) rfl rfl (any_of HT_.out (by kernel_rfl)) (fun _ _ _ h => h) (Or.inl ⟨by rfl, ?_⟩) ?_ ?_; rotate_left
        ·intro w'; go_simp; (with_reducible rfl)
        rotate_left; (simp only [Act.put, qa, qz, qs, i64_w, i32_w]; rfl); refine pure_ (i := 13) (N := some 70) (v := ?_) (a' := ?_) (bA 27 16383) rfl rfl (any_of HT_.out (by kernel_rfl)) (fun _ _ _ h => h) (Or.inl ⟨by rfl, ?_⟩) ?_ ?_; rotate_left
        ·intro w'; go_simp; (with_reducible rfl)
        rotate_left; (simp only [Act.put, qa, qz, qs, i64_w, i32_w]; rfl); refine pure_ (i := 14) (N := some 71) (v := ?_) (a' := ?_) (bA 27 32767) rfl rfl (any_of HT_.out (by kernel_rfl)) (fun _ _ _ h => h) (Or.inl ⟨by rfl, ?_⟩) ?_ ?_; rotate_left
        ·intro w'; go_simp; (with_reducible rfl)
        rotate_left; (simp only [Act.put, qa, qz, qs, i64_w, i32_w]; rfl); refine pure_ (i := 15) (N := some 72) (v := ?_) (a' := ?_) (bA 27 65535) rfl rfl (any_of HT_.out (by kernel_rfl)) (fun _ _ _ h => h) (Or.inl ⟨by rfl, ?_⟩) ?_ ?_; rotate_left
        ·intro w'; go_simp; (with_reducible rfl)
        rotate_left; (simp only [Act.put, qa, qz, qs, i64_w, i32_w]; rfl); refine pure_ (i := 16) (N := some 73) (v := ?_) (a' := ?_) (bA 27 131071) rfl rfl (any_of HT_.out (by kernel_rfl)) (fun _ _ _ h => h) (Or.inl ⟨by rfl, ?_⟩) ?_ ?_; rotate_left
        ·intro w'; go_simp; (with_reducible rfl)
        rotate_left; (simp only [Act.put, qa, qz, qs, i64_w, i32_w]; rfl); refine one_ (i := 17) (N := some 74) (bA 27 262143) rfl rfl (one_of HT_.out (by kernel_rfl)) (by decide) (fun K hK => ?_); refine goes_ Try.func58 (by kernel_rfl) rfl #[.slice Ao36 t1121.length co36, .slice Ao37 t1125.length co37] (by rfl) rfl rfl (by (try simp only [mT, mC, mN]); first | done | rfl) ?_; (with_reducible refine (laws_sameWords.calls k _ _ t1121 _ _ t1125 true _ ?side1 ?side2 ?side3 ?side4 A29.out).mono ?_); (case side1 => exact xC ((Kd.N_reads' HO1123.out).2.2)); (case side2 => exact (Kd.N_reads' HO1123.out).2.1); (case side3 => exact xC ((Kd.N_reads' HO1127.out).2.2)); (case side4 => exact (Kd.N_reads' HO1127.out).2.1); rintro e w' ⟨rfl, ⟨nd, rfl⟩⟩; refine ⟨_, rfl, ?_⟩; refine hK.out _ _ ((blk_cell BK1112.out 0).trans rfl) (fun hHeld => ?_); clear hK K; refine norm_ (a' := ?_) ?_ ?_; rotate_left
        ·show Act.put _ (some 74) _ = _; simp only [Act.put, qa, qz, qs, i64_w, i32_w]; rfl
        refine pure_ (i := 18) (N := some 75) (v := ?_) (a' := ?_) (bA 27 524287) rfl rfl (any_of HT_.out (by kernel_rfl)) (fun _ _ _ h => h) (Or.inl ⟨by rfl, ?_⟩) ?_ ?_; rotate_left; (intro w'; go_simp; (with_reducible rfl)); rotate_left; (simp only [Act.put, qa, qz, qs, i64_w, i32_w]; rfl); refine pure_ (i := 19) (N := some 76) (v := ?_) (a' := ?_) (bA 27 1048575) rfl rfl (any_of HT_.out (by kernel_rfl)) (fun _ _ _ h => h) (Or.inl ⟨by rfl, ?_⟩) ?_ ?_; rotate_left
        ·intro w'; go_simp; (with_reducible rfl)
        rotate_left; (simp only [Act.put, qa, qz, qs, i64_w, i32_w]; rfl); refine pure_ (i := 20) (N := some 77) (v := ?_) (a' := ?_) (bA 27 2097151) rfl rfl (any_of HT_.out (by kernel_rfl)) (fun _ _ _ h => h) (Or.inl ⟨by rfl, ?_⟩) ?_ ?_; rotate_left
        ·intro w'; go_simp; (with_reducible rfl)
        rotate_left; (simp only [Act.put, qa, qz, qs, i64_w, i32_w]; rfl); refine take_ (i := 21) (N := some 78) (v := ?_) (a' := ?_) (bA 27 4194303) rfl rfl (take_ofW HT_.out HW_.out (by kernel_rfl)) (fun _ _ _ h => h) (Or.inl ⟨by rfl, ?_⟩) hHeld ?_ ?_; rotate_left
        ·intro w' s0; go_simp; (with_reducible rfl)
        rotate_left; (simp only [Act.put, qa, qz, qs, i64_w, i32_w]; rfl); refine take_ (i := 23) (N := some 80) (v := ?_) (a' := ?_) (bA 27 12582911) rfl rfl (take_ofW HT_.out HW_.out (by kernel_rfl)) (fun _ _ _ h => h) (Or.inl ⟨by rfl, ?_⟩) hHeld ?_ ?_; rotate_left
        ·intro w' s0; go_simp; (with_reducible rfl)
        rotate_left; (simp only [Act.put, qa, qz, qs, i64_w, i32_w]; rfl); refine one_ (i := 22) (N := some 79) (bA 27 16777215) rfl rfl (one_of HT_.out (by kernel_rfl)) (by decide) (fun K hK => ?_); refine goes_ Try.func25 (by kernel_rfl) rfl #[.agg #[.slice Ao12 t1108.length co12]] (by rfl) rfl rfl (by (try simp only [mT, mC, mN]); first | done | rfl) ?_; (with_reducible refine (impl_IsPrimitiveMorphism.calls k _ _ t1108 t1131 _ ?side1 ?side2 A31.out).mono ?_); (case side1 => exact xC ((Kd.N_reads' HO1110.out).2.2)); (case side2 => exact (Kd.N_reads' HO1110.out).2.1); rintro e w38 ⟨rfl, hb⟩; refine ⟨_, rfl, ?_⟩; replace HO1110 := am (Kd.N_below (by exact rN HO1110) hb); replace HO1115 := am (Kd.R_below (by exact rR HO1115) hb); replace HO1119 := am (Kd.R_below (by exact rR HO1119) hb); replace HO1123 := am (Kd.N_below (by exact rN HO1123) hb); replace HO1127 := am (Kd.N_below (by exact rN HO1127) hb); replace BK1112 := bK BK1112 hb; replace HB := bS HB hb
        (try clear hb); (try clear hb2); (try clear hk); (try clear hi); refine hK.out _ _ ((blk_cell BK1112.out 0).trans rfl) (fun hHeld => ?_); clear hK K; refine norm_ (a' := ?_) ?_ ?_; rotate_left; (show Act.put _ (some 79) _ = _; simp only [Act.put, qa, qz, qs, i64_w, i32_w]; rfl); refine one_ (i := 24) (N := some 81) (bA 27 33554431) rfl rfl (one_of HT_.out (by kernel_rfl)) (by decide) (fun K hK => ?_); refine goes_ Try.func24 (by kernel_rfl) rfl #[.agg #[.slice Ao12 t1108.length co12]] (by rfl) rfl rfl (by (try simp only [mT, mC, mN]); first | done | rfl) ?_; (with_reducible refine (spec_IsPrimitiveMorphism.calls k _ _ t1108 t1132 _ ?side1 ?side2 A32.out).mono ?_); (case side1 => exact xC ((Kd.N_reads' HO1110.out).2.2)); (case side2 => exact (Kd.N_reads' HO1110.out).2.1); rintro e w39 ⟨rfl, hb⟩; refine ⟨_, rfl, ?_⟩; replace HO1110 := am (Kd.N_below (by exact rN HO1110) hb); replace HO1115 := am (Kd.R_below (by exact rR HO1115) hb); replace HO1119 := am (Kd.R_below (by exact rR HO1119) hb); replace HO1123 := am (Kd.N_below (by exact rN HO1123) hb); replace HO1127 := am (Kd.N_below (by exact rN HO1127) hb); replace BK1112 := bK BK1112 hb; replace HB := bS HB hb
        (try clear hb); (try clear hb2); (try clear hk); (try clear hi); refine hK.out _ _ ((blk_cell BK1112.out 0).trans rfl) (fun hHeld => ?_); clear hK K; refine norm_ (a' := ?_) ?_ ?_; rotate_left; (show Act.put _ (some 81) _ = _; simp only [Act.put, qa, qz, qs, i64_w, i32_w]; rfl); refine pure_ (i := 25) (N := some 82) (v := ?_) (a' := ?_) (bA 27 67108863) rfl rfl (any_of HT_.out (by kernel_rfl)) (fun _ _ _ h => h) (Or.inl ⟨by rfl, ?_⟩) ?_ ?_; rotate_left
        ·intro w'; go_simp; (with_reducible rfl)
        rotate_left; (simp only [Act.put, qa, qz, qs, i64_w, i32_w]; rfl); refine pure_ (i := 26) (N := some 83) (v := ?_) (a' := ?_) (bA 27 134217727) rfl rfl (any_of HT_.out (by kernel_rfl)) (fun _ _ _ h => h) (Or.inl ⟨by rfl, ?_⟩) ?_ ?_; rotate_left
        ·intro w'; go_simp; (with_reducible rfl)
        rotate_left; (simp only [Act.put, qa, qz, qs, i64_w, i32_w]; rfl); refine done_ (done_of HT_.out (by kernel_rfl)) ?_
        try go_wp2
        go_meet
        case rel => exact ⟨_, ((t1131 != t1132)), (by first | rfl | (simp; done) | (simp [*]; done)), H', ⟨by first | omega | exact Nat.le_refl _⟩, ⟨by exact xR (Kd.R_mono HO1119.out (fun _ hk => trivial))⟩, ⟨by exact xN (Kd.N_mono HO1110.out (fun _ hk => ⟨hk.1.1.2, hk.1.1.1.1.2⟩))⟩, ⟨by exact rX BK1112⟩, ⟨by exact rB HB⟩⟩
      ·replace c30 := Bool.eq_false_iff.mpr c30; subst c30; have H1 : (laws_FnGrowth.j0 k l0 t1111 t1116 t1117 true t1108) = some r := by rw [if_neg (show ¬ (false = true) by decide)] at H; exact H
       clear H; have H := H1; clear H1
       as_aux_lemma =>
        first | exact (laws_FnGrowth.j0_no H HRT.out).elim | exact (laws_FnGrowth.j3_no H HRT.out).elim | exact (laws_FnGrowth.j4_no H HRT.out).elim
    ·replace c24 := Bool.eq_false_iff.mpr c24; subst c24; have H1 : (laws_FnGrowth.j0 k l0 t1111 t1116 t1117 true t1108) = some r := by rw [if_neg (show ¬ (false = true) by decide)] at H; exact H
     clear H; have H := H1; clear H1
     as_aux_lemma =>
      first | exact (laws_FnGrowth.j0_no H HRT.out).elim | exact (laws_FnGrowth.j3_no H HRT.out).elim | exact (laws_FnGrowth.j4_no H HRT.out).elim
  case rest =>
   clear HC9
   try clear c2
   try clear p2
   try clear c3
   try clear c4
   try clear c5
   try clear c24
   try clear c25
   try clear c30
   try clear c43
   obtain ⟨kq, x83_8, rfl, HA, HJ8, HO_7, HO_1113000, BK1112, HB⟩ := hcut; cases kq with
   | zero => exact absurd HA.out (by simp [laws_FnGrowth.j0])
   | succ kj8 =>
    have H := HA.out; clear HA; simp only [laws_FnGrowth.j0] at H; by_cases c48 : x83_8 = true
    ·subst c48; have H1 : (some false) = some r := by rw [if_pos rfl] at H; exact H
     rw [HRT.out] at H1; cases H1
    ·replace c48 := Bool.eq_false_iff.mpr c48; subst c48; have H1 : (laws_FnGrowth.l0 kj8 l0 t1111 t1116 t1117 0 t1108) = some r := by rw [if_neg (show ¬ (false = true) by decide)] at H; exact H
     clear H; have H := H1; clear H1; have H' := am H; clear H; go_wp2; go_loopg [13] kj8 (fun kq v13 w' => ∃ (x13_2 : Int), v13 = .int .i64 x13_2 ∧ Aside0 (laws_FnGrowth.l0 kq l0 t1111 t1116 t1117 x13_2 t1108 = some r) ∧ Aside0 (kq ≤ kj8) ∧ Aside0 (Kd.R (Kd.int .i64) 3 w' w.heap.size (fun _ => True) v1118 t1117) ∧ Aside0 (Kd.N (Kd.slice 3 (Kd.int .i64)) 36 w' w.heap.size (fun k_ => some k_ ≠ (v1118 : Value).ownBlock ∧ k_ ≠ gb1112) (.slice Ao12 t1108.length co12) t1108) ∧ Aside0 (w'.heap[gb1112]? = some (.cells #[(.slice Ao12 t1108.length co12)] 28 (0, 0))) ∧ Aside0 (Below w.heap.size w w'))
     case atStart => exact ⟨(0), (by first | rfl | (simp; done) | (simp [*]; done)), H', ⟨Nat.le_refl _⟩, ⟨by exact rR HO_7⟩, ⟨by exact rN HO_1113000⟩, ⟨by exact rX BK1112⟩, ⟨by exact rB HB⟩⟩
     case round =>
      clear H'
      try clear c2
      try clear p2
      try clear c3
      try clear c4
      try clear c5
      try clear c24
      try clear c25
      try clear c30
      try clear c43
      try clear c48
      try clear p2
      obtain ⟨x13_2, rfl, HA, HK2, HO_7, HO_1113000, BK1112, HB⟩ := hrel; cases gk with
      | zero => exact absurd HA.out (by simp [laws_FnGrowth.l0])
      | succ k2 =>
       have H := HA.out; clear HA; simp only [laws_FnGrowth.l0] at H; have HC49 := am H; clear H; go_upto_region 11 with (fail); go_cut [94] (fun v94 wc => ∃ (kq : Nat) (x94_48 : Bool), v94 = .bool x94_48 ∧ Aside0 (laws_FnGrowth.j2 kq l0 t1111 t1116 t1117 x13_2 x94_48 t1108 = some r) ∧ Aside0 (kq ≤ k2) ∧ Aside0 (Kd.R (Kd.int .i64) 3 wc w.heap.size (fun _ => True) v1118 t1117) ∧ Aside0 (Kd.N (Kd.slice 3 (Kd.int .i64)) 36 wc w.heap.size (fun k_ => some k_ ≠ (v1118 : Value).ownBlock ∧ k_ ≠ gb1112) (.slice Ao12 t1108.length co12) t1108) ∧ Aside0 (wc.heap[gb1112]? = some (.cells #[(.slice Ao12 t1108.length co12)] 28 (0, 0))) ∧ Aside0 (Below w.heap.size w wc))
       case first =>
        have H := HC49.out; clear HC49; by_cases c50 : x13_2 < (t1117.length : Int)
        ·rw [if_pos c50] at H; have c50b0 : decide (x13_2 < (t1117.length : Int)) = true := decide_eq_true c50; clear c50
         (first | rw [c50b0] | (simp only [i64_w, i32_w]; rw [c50b0]) | skip)
         by_cases c51 : t1116 = true
         ·subst c51; have H1 : (laws_FnGrowth.j2 k2 l0 t1111 true t1117 x13_2 (decide (t1111 ≤ 6)) t1108) = some r := by rw [if_pos rfl] at H; exact H
          clear H; have H := H1; clear H1
          as_aux_lemma =>
           have H' := am H; clear H; obtain ⟨Ao52, co52, eo52⟩ := Kd.R_slice HO_7.out; subst eo52; go_wp2; go_meet
           case rel => exact ⟨_, (decide (t1111 ≤ 6)), (by first | rfl | (simp; done) | (simp [*]; done)), H', ⟨by have := HJ8.out; have := HK2.out; first | omega | exact Nat.le_refl _⟩, ⟨by exact rR HO_7⟩, ⟨by exact rN HO_1113000⟩, ⟨by exact rX BK1112⟩, ⟨by exact rB HB⟩⟩
         ·replace c51 := Bool.eq_false_iff.mpr c51; subst c51; have H1 : (laws_FnGrowth.j2 k2 l0 t1111 false t1117 x13_2 false t1108) = some r := by rw [if_neg (show ¬ (false = true) by decide)] at H; exact H
          clear H; have H := H1; clear H1
          as_aux_lemma =>
           have H' := am H; clear H; obtain ⟨Ao53, co53, eo53⟩ := Kd.R_slice HO_7.out; subst eo53; go_wp2; go_meet
           case rel => exact ⟨_, (false), (by first | rfl | (simp; done) | (simp [*]; done)), H', ⟨by have := HJ8.out; have := HK2.out; first | omega | exact Nat.le_refl _⟩, ⟨by exact rR HO_7⟩, ⟨by exact rN HO_1113000⟩, ⟨by exact rX BK1112⟩, ⟨by exact rB HB⟩⟩
        ·rw [if_neg c50] at H; have c50b0 : decide (x13_2 < (t1117.length : Int)) = false := decide_eq_false c50; clear c50
         (first | rw [c50b0] | (simp only [i64_w, i32_w]; rw [c50b0]) | skip)
         as_aux_lemma =>
          have H' := am H; clear H; obtain ⟨Ao54, co54, eo54⟩ := Kd.R_slice HO_7.out; subst eo54; go_wp2; go_meet
          case rel => exact ⟨_, (false), (by first | rfl | (simp; done) | (simp [*]; done)), H', ⟨by have := HJ8.out; have := HK2.out; first | omega | exact Nat.le_refl _⟩, ⟨by exact rR HO_7⟩, ⟨by exact rN HO_1113000⟩, ⟨by exact rX BK1112⟩, ⟨by exact rB HB⟩⟩
       case rest =>
        clear HC49
        try clear c2
        try clear p2
        try clear c3
        try clear c4
        try clear c5
        try clear c24
        try clear c25
        try clear c30
        try clear c43
        try clear c48
        try clear c50
        try clear c50b0
        try clear c51
        try clear p2
        obtain ⟨kq, x94_48, rfl, HA, HJ48, HO_7, HO_1113000, BK1112, HB⟩ := hcut; cases kq with
        | zero => exact absurd HA.out (by simp [laws_FnGrowth.j2])
        | succ kj48 =>
         have H := HA.out; clear HA; simp only [laws_FnGrowth.j2] at H; by_cases c55 : x94_48 = true
         ·subst c55; have H1 : ((spec_IterateMorphism.f kj48 t1108 x13_2 t1111).bind fun bt1133 => (if bt1133.2 = true then (if 0 ≤ x13_2 then (if x13_2 < (t1117.length : Int) then (if (bt1133.1.length : Int) = (rd t1117 x13_2) then (laws_FnGrowth.l0 kj48 l0 t1111 t1116 t1117 (wrap64 (x13_2 + 1)) t1108) else (some false)) else (none)) else (none)) else (laws_FnGrowth.l0 kj48 l0 t1111 t1116 t1117 (wrap64 (x13_2 + 1)) t1108))) = some r := by rw [if_pos rfl] at H; exact H
          clear H; have H := H1; clear H1; replace H := bE H; obtain ⟨⟨t1133, t1136⟩, A560, H⟩ := H; replace H : (if t1136 = true then (if 0 ≤ x13_2 then (if x13_2 < (t1117.length : Int) then (if (t1133.length : Int) = (rd t1117 x13_2) then (laws_FnGrowth.l0 kj48 l0 t1111 t1116 t1117 (wrap64 (x13_2 + 1)) t1108) else (some false)) else (none)) else (none)) else (laws_FnGrowth.l0 kj48 l0 t1111 t1116 t1117 (wrap64 (x13_2 + 1)) t1108)) = some r := H; have A56 := am A560; clear A560; by_cases c57 : t1136 = true
          ·subst c57; have H1 : (if 0 ≤ x13_2 then (if x13_2 < (t1117.length : Int) then (if (t1133.length : Int) = (rd t1117 x13_2) then (laws_FnGrowth.l0 kj48 l0 t1111 t1116 t1117 (wrap64 (x13_2 + 1)) t1108) else (some false)) else (none)) else (none)) = some r := by rw [if_pos rfl] at H; exact H
           clear H; have H := H1; clear H1; by_cases c58 : 0 ≤ x13_2
           ·rw [if_pos c58] at H; have c58b0 : decide (0 ≤ x13_2) = true := decide_eq_true c58; clear c58; by_cases c59 : x13_2 < (t1117.length : Int)
            ·rw [if_pos c59] at H; have c59b0 : decide (x13_2 < (t1117.length : Int)) = true := decide_eq_true c59; clear c59; by_cases c60 : (t1133.length : Int) = (rd t1117 x13_2)
             ·rw [if_pos c60] at H; have c60b0 : ((t1133.length : Int) == (rd t1117 x13_2)) = true := beq_iff_eq.mpr c60; have c60b1 : ((t1133.length : Int) != (rd t1117 x13_2)) = false := bne_eq_false_iff_eq.mpr c60; clear c60
              as_aux_lemma =>
               have H' := am H; clear H; have hcz61_0 := z10 BK1112; have hfz61_0 := blk_frozen BK1112.out 0; go_wp2_with (first | ((with_reducible refine gate_callee (f := 60) rfl ?_); refine goesL_ (some 101) rfl rfl Try.func60 (by kernel_rfl) rfl #[.agg #[.slice Ao12 t1108.length co12], .int .i64 x13_2, .int .i64 t1111] rfl (by (try simp only [mT, mC, mN]); first | done | rfl) ?_; (with_reducible refine (spec_IterateMorphism.calls kj48 _ _ t1108 x13_2 t1111 t1133 true _ ?side1 ?side2 A56.out).mono ?_); (case side1 => exact xC ((Kd.N_reads' HO_1113000.out).2.2)); (case side2 => exact (Kd.N_reads' HO_1113000.out).2.1); rintro e w62 ⟨v1134, rfl, ho0, hb⟩; refine ⟨_, rfl, ?_⟩; replace HO_1113000 := am (Kd.N_elder' (by exact rN HO_1113000) (Kd.R_base ho0) hb); have HO1135 := am (Kd.R_lower (Kd.R_new' ho0 (Kd.R_lt (by exact rR HO_7))) (bZ HB)); replace HO_7 := am (Kd.R_elder' (by exact rR HO_7) (Kd.R_base ho0) hb); replace BK1112 := bK BK1112 hb; replace HB := bS HB hb; clear hb ho0; obtain ⟨Ao63, co63, eo63⟩ := Kd.R_slice HO1135.out; subst eo63; obtain ⟨Ao64, co64, eo64⟩ := Kd.R_slice HO_7.out; subst eo64; have p1137 : 0 ≤ (x13_2 : Int) := oD; have q1137 : x13_2 < (t1117.length : Int) := oD; obtain ⟨ad1137, e1137, hx1137_0⟩ := Kd.at_int (Kd.R_reads' HO_7.out).2.2 x13_2 p1137 q1137; cases e1137; replace p1137 := eq_true p1137; replace q1137 := eq_true q1137)); go_roundg kj48
               case measure => have := HJ8.out; have := HK2.out; have := HJ48.out; omega
               case rel => exact ⟨(wrap64 (x13_2 + 1)), (by first | rfl | (simp; done) | (simp [*]; done)), H', ⟨by have := HJ8.out; have := HK2.out; have := HJ48.out; omega⟩, ⟨by exact xR (Kd.R_mono HO_7.out (fun _ hk => trivial))⟩, ⟨by exact xN (Kd.N_mono HO_1113000.out (fun _ hk => ⟨hk.1.1, hk.1.2⟩))⟩, ⟨by exact rX BK1112⟩, ⟨by exact rB HB⟩⟩
             ·rw [if_neg c60] at H; have c60b0 : ((t1133.length : Int) == (rd t1117 x13_2)) = false := beq_eq_false_iff_ne.mpr c60; have c60b1 : ((t1133.length : Int) != (rd t1117 x13_2)) = true := bne_iff_ne.mpr c60
              as_aux_lemma =>
               obtain rfl := Option.some.inj H; have hcz65_0 := z10 BK1112; have hfz65_0 := blk_frozen BK1112.out 0; go_wp2_with (first | ((with_reducible refine gate_callee (f := 60) rfl ?_); refine goesL_ (some 101) rfl rfl Try.func60 (by kernel_rfl) rfl #[.agg #[.slice Ao12 t1108.length co12], .int .i64 x13_2, .int .i64 t1111] rfl (by (try simp only [mT, mC, mN]); first | done | rfl) ?_; (with_reducible refine (spec_IterateMorphism.calls kj48 _ _ t1108 x13_2 t1111 t1133 true _ ?side1 ?side2 A56.out).mono ?_); (case side1 => exact xC ((Kd.N_reads' HO_1113000.out).2.2)); (case side2 => exact (Kd.N_reads' HO_1113000.out).2.1); rintro e w66 ⟨v1134, rfl, ho0, hb⟩; refine ⟨_, rfl, ?_⟩; replace HO_1113000 := am (Kd.N_elder' (by exact rN HO_1113000) (Kd.R_base ho0) hb); have HO1135 := am (Kd.R_lower (Kd.R_new' ho0 (Kd.R_lt (by exact rR HO_7))) (bZ HB)); replace HO_7 := am (Kd.R_elder' (by exact rR HO_7) (Kd.R_base ho0) hb); replace BK1112 := bK BK1112 hb; replace HB := bS HB hb; clear hb ho0; obtain ⟨Ao67, co67, eo67⟩ := Kd.R_slice HO1135.out; subst eo67; obtain ⟨Ao68, co68, eo68⟩ := Kd.R_slice HO_7.out; subst eo68; have p1137 : 0 ≤ (x13_2 : Int) := oD; have q1137 : x13_2 < (t1117.length : Int) := oD; obtain ⟨ad1137, e1137, hx1137_0⟩ := Kd.at_int (Kd.R_reads' HO_7.out).2.2 x13_2 p1137 q1137; cases e1137; replace p1137 := eq_true p1137; replace q1137 := eq_true q1137)); go_ret; exact ⟨by first | rfl | (simp [errW_none, errW_some] <;> rfl) | (simp [*, errW_none, errW_some] <;> rfl), by exact rB HB⟩
            ·rw [if_neg c59] at H; exact absurd H (by simp)
           ·rw [if_neg c58] at H; exact absurd H (by simp)
          ·replace c57 := Bool.eq_false_iff.mpr c57; subst c57; have H1 : (laws_FnGrowth.l0 kj48 l0 t1111 t1116 t1117 (wrap64 (x13_2 + 1)) t1108) = some r := by rw [if_neg (show ¬ (false = true) by decide)] at H; exact H
           clear H; have H := H1; clear H1
           as_aux_lemma =>
            have H' := am H; clear H; have hcz69_0 := z10 BK1112; have hfz69_0 := blk_frozen BK1112.out 0; go_wp2_with (first | ((with_reducible refine gate_callee (f := 60) rfl ?_); refine goesL_ (some 101) rfl rfl Try.func60 (by kernel_rfl) rfl #[.agg #[.slice Ao12 t1108.length co12], .int .i64 x13_2, .int .i64 t1111] rfl (by (try simp only [mT, mC, mN]); first | done | rfl) ?_; (with_reducible refine (spec_IterateMorphism.calls kj48 _ _ t1108 x13_2 t1111 t1133 false _ ?side1 ?side2 A56.out).mono ?_); (case side1 => exact xC ((Kd.N_reads' HO_1113000.out).2.2)); (case side2 => exact (Kd.N_reads' HO_1113000.out).2.1); rintro e w70 ⟨v1134, rfl, ho0, hb⟩; refine ⟨_, rfl, ?_⟩; replace HO_1113000 := am (Kd.N_elder' (by exact rN HO_1113000) (Kd.R_base ho0) hb); have HO1135 := am (Kd.R_lower (Kd.R_new' ho0 (Kd.R_lt (by exact rR HO_7))) (bZ HB)); replace HO_7 := am (Kd.R_elder' (by exact rR HO_7) (Kd.R_base ho0) hb); replace BK1112 := bK BK1112 hb; replace HB := bS HB hb; clear hb ho0)); go_roundg kj48
            case measure => have := HJ8.out; have := HK2.out; have := HJ48.out; omega
            case rel => exact ⟨(wrap64 (x13_2 + 1)), (by first | rfl | (simp; done) | (simp [*]; done)), H', ⟨by have := HJ8.out; have := HK2.out; have := HJ48.out; omega⟩, ⟨by exact xR (Kd.R_mono HO_7.out (fun _ hk => trivial))⟩, ⟨by exact xN (Kd.N_mono HO_1113000.out (fun _ hk => ⟨hk.1.1, hk.1.2⟩))⟩, ⟨by exact rX BK1112⟩, ⟨by exact rB HB⟩⟩
         ·replace c55 := Bool.eq_false_iff.mpr c55; subst c55; have H1 : ((spec_DrawCountSquareFree.f kj48 l0).bind fun bt1138 => ((impl_CountSquareFree.f kj48 bt1138.1 bt1138.2).bind fun t1140 => ((spec_DrawCountOverlapFree.f kj48 l0).bind fun t1141 => ((impl_CountOverlapFree.f kj48 t1141).bind fun t1142 => ((spec_CountSquareFree.f kj48 bt1138.1 bt1138.2).bind fun t1143 => (if t1140 = t1143 then ((spec_CountOverlapFree.f kj48 t1141).bind fun t1144 => (laws_FnGrowth.j3 kj48 l0 bt1138.1 bt1138.2 t1140 t1141 t1142 (t1142 != t1144))) else (laws_FnGrowth.j3 kj48 l0 bt1138.1 bt1138.2 t1140 t1141 t1142 true))))))) = some r := by rw [if_neg (show ¬ (false = true) by decide)] at H; exact H
          clear H; have H := H1; clear H1; replace H := bE H; obtain ⟨⟨t1138, t1139⟩, A710, H⟩ := H; replace H : ((impl_CountSquareFree.f kj48 t1138 t1139).bind fun t1140 => ((spec_DrawCountOverlapFree.f kj48 l0).bind fun t1141 => ((impl_CountOverlapFree.f kj48 t1141).bind fun t1142 => ((spec_CountSquareFree.f kj48 t1138 t1139).bind fun t1143 => (if t1140 = t1143 then ((spec_CountOverlapFree.f kj48 t1141).bind fun t1144 => (laws_FnGrowth.j3 kj48 l0 t1138 t1139 t1140 t1141 t1142 (t1142 != t1144))) else (laws_FnGrowth.j3 kj48 l0 t1138 t1139 t1140 t1141 t1142 true)))))) = some r := H; have A71 := am A710; clear A710; replace H := bE H; obtain ⟨t1140, A720, H⟩ := H; replace H : ((spec_DrawCountOverlapFree.f kj48 l0).bind fun t1141 => ((impl_CountOverlapFree.f kj48 t1141).bind fun t1142 => ((spec_CountSquareFree.f kj48 t1138 t1139).bind fun t1143 => (if t1140 = t1143 then ((spec_CountOverlapFree.f kj48 t1141).bind fun t1144 => (laws_FnGrowth.j3 kj48 l0 t1138 t1139 t1140 t1141 t1142 (t1142 != t1144))) else (laws_FnGrowth.j3 kj48 l0 t1138 t1139 t1140 t1141 t1142 true))))) = some r := H; have A72 := am A720; clear A720; replace H := bE H; obtain ⟨t1141, A730, H⟩ := H; replace H : ((impl_CountOverlapFree.f kj48 t1141).bind fun t1142 => ((spec_CountSquareFree.f kj48 t1138 t1139).bind fun t1143 => (if t1140 = t1143 then ((spec_CountOverlapFree.f kj48 t1141).bind fun t1144 => (laws_FnGrowth.j3 kj48 l0 t1138 t1139 t1140 t1141 t1142 (t1142 != t1144))) else (laws_FnGrowth.j3 kj48 l0 t1138 t1139 t1140 t1141 t1142 true)))) = some r := H; have A73 := am A730; clear A730; replace H := bE H; obtain ⟨t1142, A740, H⟩ := H; replace H : ((spec_CountSquareFree.f kj48 t1138 t1139).bind fun t1143 => (if t1140 = t1143 then ((spec_CountOverlapFree.f kj48 t1141).bind fun t1144 => (laws_FnGrowth.j3 kj48 l0 t1138 t1139 t1140 t1141 t1142 (t1142 != t1144))) else (laws_FnGrowth.j3 kj48 l0 t1138 t1139 t1140 t1141 t1142 true))) = some r := H; have A74 := am A740; clear A740; have HC75 := am H; clear H; go_upto_region 20 with (first | ((with_reducible refine gate_callee (f := 61) rfl ?_); refine goesL_ (some 116) rfl rfl Try.func61 (by kernel_rfl) rfl #[.slice A0 l0.length c0] rfl (by (try simp only [mT, mC, mN]); first | done | rfl) ?_; (with_reducible refine (spec_DrawCountSquareFree.calls kj48 _ _ l0 t1138 t1139 _ ?side1 ?side2 A71.out).mono ?_); (case side1 => exact xC ((Kd.C_below HR0.out HB.out))); (case side2 => exact HC0.out); rintro e w76 ⟨rfl, hb⟩; refine ⟨_, rfl, ?_⟩; replace HO_7 := am (Kd.R_below (by exact rR HO_7) hb); replace HO_1113000 := am (Kd.N_below (by exact rN HO_1113000) hb); replace BK1112 := bK BK1112 hb; replace HB := bS HB hb; clear hb) | ((with_reducible refine gate_callee (f := 62) rfl ?_); refine goesL_ (some 121) rfl rfl Try.func62 (by kernel_rfl) rfl #[.int .i64 t1138, .int .i64 t1139] rfl (by (try simp only [mT, mC, mN]); first | done | rfl) ?_; (with_reducible refine (impl_CountSquareFree.calls kj48 t1138 t1139 t1140 _ A72.out).mono ?_); rintro e w77 ⟨rfl, hb⟩; refine ⟨_, rfl, ?_⟩; replace HO_7 := am (Kd.R_below (by exact rR HO_7) hb); replace HO_1113000 := am (Kd.N_below (by exact rN HO_1113000) hb); replace BK1112 := bK BK1112 hb; replace HB := bS HB hb; clear hb) | ((with_reducible refine gate_callee (f := 63) rfl ?_); refine goesL_ (some 123) rfl rfl Try.func63 (by kernel_rfl) rfl #[.slice A0 l0.length c0] rfl (by (try simp only [mT, mC, mN]); first | done | rfl) ?_; (with_reducible refine (spec_DrawCountOverlapFree.calls kj48 _ _ l0 t1141 _ ?side1 ?side2 A73.out).mono ?_); (case side1 => exact xC ((Kd.C_below HR0.out HB.out))); (case side2 => exact HC0.out); rintro e w78 ⟨rfl, hb⟩; refine ⟨_, rfl, ?_⟩; replace HO_7 := am (Kd.R_below (by exact rR HO_7) hb); replace HO_1113000 := am (Kd.N_below (by exact rN HO_1113000) hb); replace BK1112 := bK BK1112 hb; replace HB := bS HB hb; clear hb) | ((with_reducible refine gate_callee (f := 64) rfl ?_); refine goesL_ (some 125) rfl rfl Try.func64 (by kernel_rfl) rfl #[.int .i64 t1141] rfl (by (try simp only [mT, mC, mN]); first | done | rfl) ?_; (with_reducible refine (impl_CountOverlapFree.calls kj48 t1141 t1142 _ A74.out).mono ?_); rintro e w79 ⟨rfl, hb⟩; refine ⟨_, rfl, ?_⟩; replace HO_7 := am (Kd.R_below (by exact rR HO_7) hb); replace HO_1113000 := am (Kd.N_below (by exact rN HO_1113000) hb); replace BK1112 := bK BK1112 hb; replace HB := bS HB hb; clear hb)); (try simp only [Act.put, qa, qz, qs]); go_cut [136] (fun v136 wc => ∃ (kq : Nat) (x136_74 : Bool), v136 = .bool x136_74 ∧ Aside0 (laws_FnGrowth.j3 kq l0 t1138 t1139 t1140 t1141 t1142 x136_74 = some r) ∧ Aside0 (kq ≤ kj48) ∧ Aside0 (Kd.N (Kd.slice 3 (Kd.int .i64)) 36 wc w.heap.size (fun k_ => k_ ≠ gb1112) (.slice Ao12 t1108.length co12) t1108) ∧ Aside0 (wc.heap[gb1112]? = some (.cells #[(.slice Ao12 t1108.length co12)] 28 (0, 0))) ∧ Aside0 (Below w.heap.size w wc))
          case first =>
           have H := HC75.out; clear HC75; replace H := bE H; obtain ⟨t1143, A800, H⟩ := H; replace H : (if t1140 = t1143 then ((spec_CountOverlapFree.f kj48 t1141).bind fun t1144 => (laws_FnGrowth.j3 kj48 l0 t1138 t1139 t1140 t1141 t1142 (t1142 != t1144))) else (laws_FnGrowth.j3 kj48 l0 t1138 t1139 t1140 t1141 t1142 true)) = some r := H; have A80 := am A800; clear A800; by_cases c81 : t1140 = t1143
           ·rw [if_pos c81] at H; have c81b0 : (t1140 == t1143) = true := beq_iff_eq.mpr c81; have c81b1 : (t1140 != t1143) = false := bne_eq_false_iff_eq.mpr c81; clear c81
            (first | rw [c81b0] | (simp only [i64_w, i32_w]; rw [c81b0]) | skip)
            replace H := bE H; obtain ⟨t1144, A820, H⟩ := H; replace H : (laws_FnGrowth.j3 kj48 l0 t1138 t1139 t1140 t1141 t1142 (t1142 != t1144)) = some r := H; have A82 := am A820; clear A820
            as_aux_lemma =>
             have H' := am H; clear H; go_wp2_with (first | ((with_reducible refine gate_callee (f := 65) rfl ?_); refine goesL_ (some 129) rfl rfl Try.func65 (by kernel_rfl) rfl #[.int .i64 t1138, .int .i64 t1139] rfl (by (try simp only [mT, mC, mN]); first | done | rfl) ?_; (with_reducible refine (spec_CountSquareFree.calls kj48 t1138 t1139 t1143 _ A80.out).mono ?_); rintro e w83 ⟨rfl, hb⟩; refine ⟨_, rfl, ?_⟩; replace HO_7 := am (Kd.R_below (by exact rR HO_7) hb); replace HO_1113000 := am (Kd.N_below (by exact rN HO_1113000) hb); replace BK1112 := bK BK1112 hb; replace HB := bS HB hb; clear hb) | (go_at_call 66; (with_reducible refine (spec_CountOverlapFree.calls kj48 t1141 t1144 _ A82.out).mono ?_); rintro e w84 ⟨rfl, hb⟩; replace HO_7 := am (Kd.R_below (by exact rR HO_7) hb); replace HO_1113000 := am (Kd.N_below (by exact rN HO_1113000) hb); replace BK1112 := bK BK1112 hb; replace HB := bS HB hb; clear hb)); go_meet
             case rel => exact ⟨_, ((t1142 != t1144)), (by first | rfl | (simp; done) | (simp [*]; done)), H', ⟨by have := HJ8.out; have := HK2.out; have := HJ48.out; first | omega | exact Nat.le_refl _⟩, ⟨by exact xN (Kd.N_mono HO_1113000.out (fun _ hk => hk.2))⟩, ⟨by exact rX BK1112⟩, ⟨by exact rB HB⟩⟩
           ·rw [if_neg c81] at H; have c81b0 : (t1140 == t1143) = false := beq_eq_false_iff_ne.mpr c81; have c81b1 : (t1140 != t1143) = true := bne_iff_ne.mpr c81
            (first | rw [c81b0] | (simp only [i64_w, i32_w]; rw [c81b0]) | skip)
            as_aux_lemma =>
             first | exact (laws_FnGrowth.j0_no H HRT.out).elim | exact (laws_FnGrowth.j3_no H HRT.out).elim | exact (laws_FnGrowth.j4_no H HRT.out).elim
          case rest =>
           clear HC75
           try clear p1
           try clear q1
           try clear hx1
           try clear c2
           try clear p2
           try clear c3
           try clear c4
           try clear c5
           try clear c6
           try clear p6
           try clear c8
           try clear p11
           try clear q11
           try clear hx11
           try clear c24
           try clear c25
           try clear c30
           try clear c43
           try clear c48
           try clear c50
           try clear c50b0
           try clear c51
           try clear c55
           try clear c57
           try clear c58
           try clear c58b0
           try clear c59
           try clear c59b0
           try clear c60
           try clear c60b0
           try clear c60b1
           try clear c61
           try clear c62
           try clear c63
           try clear c64
           try clear p64
           try clear c65
           try clear c81
           try clear c81b0
           try clear c81b1
           try clear hcz61_0
           try clear hcz65_0
           try clear hcz69_0
           try clear hfz61_0
           try clear hfz65_0
           try clear hfz69_0
           try clear hx1137_0
           try clear p1137
           try clear p2
           try clear q1137
           obtain ⟨kq, x136_74, rfl, HA, HJ74, HO_1113000, BK1112, HB⟩ := hcut; cases kq with
           | zero => exact absurd HA.out (by simp [laws_FnGrowth.j3])
           | succ kj74 =>
            have H := HA.out; clear HA; simp only [laws_FnGrowth.j3] at H; by_cases c86 : x136_74 = true
            ·subst c86; have H1 : (some false) = some r := by rw [if_pos rfl] at H; exact H
             rw [HRT.out] at H1; cases H1
            ·replace c86 := Bool.eq_false_iff.mpr c86; subst c86; have H1 : (if t1140 ≥ 0 then (if t1139 > 0 then ((spec_CountSquareFree.f kj74 t1138 (wrap64 (t1139 - 1))).bind fun t1145 => (if t1140 > (wrap64 (t1138 * t1145)) then (laws_FnGrowth.j4 kj74 l0 true) else (if t1142 ≥ 0 then (if t1141 > 0 then ((spec_CountOverlapFree.f kj74 (wrap64 (t1141 - 1))).bind fun t1146 => (if t1142 > (wrap64 (2 * t1146)) then (laws_FnGrowth.j4 kj74 l0 true) else (laws_FnGrowth.j4 kj74 l0 (decide (t1142 < 2))))) else (laws_FnGrowth.j4 kj74 l0 false)) else (laws_FnGrowth.j4 kj74 l0 false)))) else (if t1142 ≥ 0 then (if t1141 > 0 then ((spec_CountOverlapFree.f kj74 (wrap64 (t1141 - 1))).bind fun t1147 => (if t1142 > (wrap64 (2 * t1147)) then (laws_FnGrowth.j4 kj74 l0 true) else (laws_FnGrowth.j4 kj74 l0 (decide (t1142 < 2))))) else (laws_FnGrowth.j4 kj74 l0 false)) else (laws_FnGrowth.j4 kj74 l0 false))) else (if t1142 ≥ 0 then (if t1141 > 0 then ((spec_CountOverlapFree.f kj74 (wrap64 (t1141 - 1))).bind fun t1148 => (if t1142 > (wrap64 (2 * t1148)) then (laws_FnGrowth.j4 kj74 l0 true) else (laws_FnGrowth.j4 kj74 l0 (decide (t1142 < 2))))) else (laws_FnGrowth.j4 kj74 l0 false)) else (laws_FnGrowth.j4 kj74 l0 false))) = some r := by rw [if_neg (show ¬ (false = true) by decide)] at H; exact H
             clear H; have H := H1; clear H1; have HC87 := am H; clear H; go_upto_region 22 with (fail); go_cut [172] (fun v172 wc => ∃ (kq : Nat) (x172_86 : Bool), v172 = .bool x172_86 ∧ Aside0 (laws_FnGrowth.j4 kq l0 x172_86 = some r) ∧ Aside0 (kq ≤ kj74) ∧ Aside0 (Kd.N (Kd.slice 3 (Kd.int .i64)) 36 wc w.heap.size (fun k_ => k_ ≠ gb1112) (.slice Ao12 t1108.length co12) t1108) ∧ Aside0 (wc.heap[gb1112]? = some (.cells #[(.slice Ao12 t1108.length co12)] 28 (0, 0))) ∧ Aside0 (Below w.heap.size w wc))
             case first =>
              have H := HC87.out; clear HC87; by_cases c88 : t1140 ≥ 0
              ·rw [if_pos c88] at H; have c88b0 : decide (0 ≤ t1140) = true := decide_eq_true c88; clear c88
               (first | rw [c88b0] | (simp only [i64_w, i32_w]; rw [c88b0]) | skip)
               by_cases c89 : t1139 > 0
               ·rw [if_pos c89] at H; have c89b0 : decide (0 < t1139) = true := decide_eq_true c89; clear c89; replace H := bE H; obtain ⟨t1145, A900, H⟩ := H; replace H : (if t1140 > (wrap64 (t1138 * t1145)) then (laws_FnGrowth.j4 kj74 l0 true) else (if t1142 ≥ 0 then (if t1141 > 0 then ((spec_CountOverlapFree.f kj74 (wrap64 (t1141 - 1))).bind fun t1146 => (if t1142 > (wrap64 (2 * t1146)) then (laws_FnGrowth.j4 kj74 l0 true) else (laws_FnGrowth.j4 kj74 l0 (decide (t1142 < 2))))) else (laws_FnGrowth.j4 kj74 l0 false)) else (laws_FnGrowth.j4 kj74 l0 false))) = some r := H; have A90 := am A900; clear A900; by_cases c91 : t1140 > (wrap64 (t1138 * t1145))
                ·rw [if_pos c91] at H; have c91b0 : decide ((wrap64 (t1138 * t1145)) < t1140) = true := decide_eq_true c91; clear c91
                 as_aux_lemma =>
                  first | exact (laws_FnGrowth.j0_no H HRT.out).elim | exact (laws_FnGrowth.j3_no H HRT.out).elim | exact (laws_FnGrowth.j4_no H HRT.out).elim
                ·rw [if_neg c91] at H; have c91b0 : decide ((wrap64 (t1138 * t1145)) < t1140) = false := decide_eq_false c91; clear c91; by_cases c93 : t1142 ≥ 0
                 ·rw [if_pos c93] at H; have c93b0 : decide (0 ≤ t1142) = true := decide_eq_true c93; clear c93; by_cases c94 : t1141 > 0
                  ·rw [if_pos c94] at H; have c94b0 : decide (0 < t1141) = true := decide_eq_true c94; clear c94; replace H := bE H; obtain ⟨t1146, A950, H⟩ := H; replace H : (if t1142 > (wrap64 (2 * t1146)) then (laws_FnGrowth.j4 kj74 l0 true) else (laws_FnGrowth.j4 kj74 l0 (decide (t1142 < 2)))) = some r := H; have A95 := am A950; clear A950; by_cases c96 : t1142 > (wrap64 (2 * t1146))
                   ·rw [if_pos c96] at H; have c96b0 : decide ((wrap64 (2 * t1146)) < t1142) = true := decide_eq_true c96; clear c96
                    as_aux_lemma =>
                     first | exact (laws_FnGrowth.j0_no H HRT.out).elim | exact (laws_FnGrowth.j3_no H HRT.out).elim | exact (laws_FnGrowth.j4_no H HRT.out).elim
                   ·rw [if_neg c96] at H; have c96b0 : decide ((wrap64 (2 * t1146)) < t1142) = false := decide_eq_false c96; clear c96
                    as_aux_lemma =>
                     have H' := am H; clear H; go_wp2_with (first | (go_at_call 65; (with_reducible refine (spec_CountSquareFree.calls kj74 t1138 (wrap64 (t1139 - 1)) t1145 _ A90.out).mono ?_); rintro e w99 ⟨rfl, hb⟩; replace HO_1113000 := am (Kd.N_below (by exact rN HO_1113000) hb); replace BK1112 := bK BK1112 hb; replace HB := bS HB hb; clear hb) | (go_at_call 66; (with_reducible refine (spec_CountOverlapFree.calls kj74 (wrap64 (t1141 - 1)) t1146 _ A95.out).mono ?_); rintro e w100 ⟨rfl, hb⟩; replace HO_1113000 := am (Kd.N_below (by exact rN HO_1113000) hb); replace BK1112 := bK BK1112 hb; replace HB := bS HB hb; clear hb)); go_meet
                     case rel => exact ⟨_, (decide (t1142 < 2)), (by first | rfl | (simp; done) | (simp [*]; done)), H', ⟨by have := HJ8.out; have := HK2.out; have := HJ48.out; have := HJ74.out; first | omega | exact Nat.le_refl _⟩, ⟨by exact rN HO_1113000⟩, ⟨by exact rX BK1112⟩, ⟨by exact rB HB⟩⟩
                  ·rw [if_neg c94] at H; have c94b0 : decide (0 < t1141) = false := decide_eq_false c94; clear c94
                   as_aux_lemma =>
                    have H' := am H; clear H; go_wp2_with (first | (go_at_call 65; (with_reducible refine (spec_CountSquareFree.calls kj74 t1138 (wrap64 (t1139 - 1)) t1145 _ A90.out).mono ?_); rintro e w101 ⟨rfl, hb⟩; replace HO_1113000 := am (Kd.N_below (by exact rN HO_1113000) hb); replace BK1112 := bK BK1112 hb; replace HB := bS HB hb; clear hb)); go_meet
                    case rel => exact ⟨_, (false), (by first | rfl | (simp; done) | (simp [*]; done)), H', ⟨by have := HJ8.out; have := HK2.out; have := HJ48.out; have := HJ74.out; first | omega | exact Nat.le_refl _⟩, ⟨by exact rN HO_1113000⟩, ⟨by exact rX BK1112⟩, ⟨by exact rB HB⟩⟩
                 ·rw [if_neg c93] at H; have c93b0 : decide (0 ≤ t1142) = false := decide_eq_false c93; clear c93
                  as_aux_lemma =>
                   have H' := am H; clear H; go_wp2_with (first | (go_at_call 65; (with_reducible refine (spec_CountSquareFree.calls kj74 t1138 (wrap64 (t1139 - 1)) t1145 _ A90.out).mono ?_); rintro e w102 ⟨rfl, hb⟩; replace HO_1113000 := am (Kd.N_below (by exact rN HO_1113000) hb); replace BK1112 := bK BK1112 hb; replace HB := bS HB hb; clear hb)); go_meet
                   case rel => exact ⟨_, (false), (by first | rfl | (simp; done) | (simp [*]; done)), H', ⟨by have := HJ8.out; have := HK2.out; have := HJ48.out; have := HJ74.out; first | omega | exact Nat.le_refl _⟩, ⟨by exact rN HO_1113000⟩, ⟨by exact rX BK1112⟩, ⟨by exact rB HB⟩⟩
               ·rw [if_neg c89] at H; have c89b0 : decide (0 < t1139) = false := decide_eq_false c89; clear c89; by_cases c103 : t1142 ≥ 0
                ·rw [if_pos c103] at H; have c103b0 : decide (0 ≤ t1142) = true := decide_eq_true c103; clear c103; by_cases c104 : t1141 > 0
                 ·rw [if_pos c104] at H; have c104b0 : decide (0 < t1141) = true := decide_eq_true c104; clear c104; replace H := bE H; obtain ⟨t1147, A1050, H⟩ := H; replace H : (if t1142 > (wrap64 (2 * t1147)) then (laws_FnGrowth.j4 kj74 l0 true) else (laws_FnGrowth.j4 kj74 l0 (decide (t1142 < 2)))) = some r := H; have A105 := am A1050; clear A1050; by_cases c106 : t1142 > (wrap64 (2 * t1147))
                  ·rw [if_pos c106] at H; have c106b0 : decide ((wrap64 (2 * t1147)) < t1142) = true := decide_eq_true c106; clear c106
                   as_aux_lemma =>
                    first | exact (laws_FnGrowth.j0_no H HRT.out).elim | exact (laws_FnGrowth.j3_no H HRT.out).elim | exact (laws_FnGrowth.j4_no H HRT.out).elim
                  ·rw [if_neg c106] at H; have c106b0 : decide ((wrap64 (2 * t1147)) < t1142) = false := decide_eq_false c106; clear c106
                   as_aux_lemma =>
                    have H' := am H; clear H; go_wp2_with (first | (go_at_call 66; (with_reducible refine (spec_CountOverlapFree.calls kj74 (wrap64 (t1141 - 1)) t1147 _ A105.out).mono ?_); rintro e w108 ⟨rfl, hb⟩; replace HO_1113000 := am (Kd.N_below (by exact rN HO_1113000) hb); replace BK1112 := bK BK1112 hb; replace HB := bS HB hb; clear hb)); go_meet
                    case rel => exact ⟨_, (decide (t1142 < 2)), (by first | rfl | (simp; done) | (simp [*]; done)), H', ⟨by have := HJ8.out; have := HK2.out; have := HJ48.out; have := HJ74.out; first | omega | exact Nat.le_refl _⟩, ⟨by exact rN HO_1113000⟩, ⟨by exact rX BK1112⟩, ⟨by exact rB HB⟩⟩
                 ·rw [if_neg c104] at H; have c104b0 : decide (0 < t1141) = false := decide_eq_false c104; clear c104
                  as_aux_lemma =>
                   have H' := am H; clear H; go_wp2; go_meet
                   case rel => exact ⟨_, (false), (by first | rfl | (simp; done) | (simp [*]; done)), H', ⟨by have := HJ8.out; have := HK2.out; have := HJ48.out; have := HJ74.out; first | omega | exact Nat.le_refl _⟩, ⟨by exact rN HO_1113000⟩, ⟨by exact rX BK1112⟩, ⟨by exact rB HB⟩⟩
                ·rw [if_neg c103] at H; have c103b0 : decide (0 ≤ t1142) = false := decide_eq_false c103; clear c103
                 as_aux_lemma =>
                  have H' := am H; clear H; go_wp2; go_meet
                  case rel => exact ⟨_, (false), (by first | rfl | (simp; done) | (simp [*]; done)), H', ⟨by have := HJ8.out; have := HK2.out; have := HJ48.out; have := HJ74.out; first | omega | exact Nat.le_refl _⟩, ⟨by exact rN HO_1113000⟩, ⟨by exact rX BK1112⟩, ⟨by exact rB HB⟩⟩
              ·rw [if_neg c88] at H; have c88b0 : decide (0 ≤ t1140) = false := decide_eq_false c88; clear c88
               (first | rw [c88b0] | (simp only [i64_w, i32_w]; rw [c88b0]) | skip)
               by_cases c109 : t1142 ≥ 0
               ·rw [if_pos c109] at H; have c109b0 : decide (0 ≤ t1142) = true := decide_eq_true c109; clear c109; by_cases c110 : t1141 > 0
                ·rw [if_pos c110] at H; have c110b0 : decide (0 < t1141) = true := decide_eq_true c110; clear c110; replace H := bE H; obtain ⟨t1148, A1110, H⟩ := H; replace H : (if t1142 > (wrap64 (2 * t1148)) then (laws_FnGrowth.j4 kj74 l0 true) else (laws_FnGrowth.j4 kj74 l0 (decide (t1142 < 2)))) = some r := H; have A111 := am A1110; clear A1110; by_cases c112 : t1142 > (wrap64 (2 * t1148))
                 ·rw [if_pos c112] at H; have c112b0 : decide ((wrap64 (2 * t1148)) < t1142) = true := decide_eq_true c112; clear c112
                  as_aux_lemma =>
                   first | exact (laws_FnGrowth.j0_no H HRT.out).elim | exact (laws_FnGrowth.j3_no H HRT.out).elim | exact (laws_FnGrowth.j4_no H HRT.out).elim
                 ·rw [if_neg c112] at H; have c112b0 : decide ((wrap64 (2 * t1148)) < t1142) = false := decide_eq_false c112; clear c112
                  as_aux_lemma =>
                   have H' := am H; clear H; go_wp2_with (first | (go_at_call 66; (with_reducible refine (spec_CountOverlapFree.calls kj74 (wrap64 (t1141 - 1)) t1148 _ A111.out).mono ?_); rintro e w114 ⟨rfl, hb⟩; replace HO_1113000 := am (Kd.N_below (by exact rN HO_1113000) hb); replace BK1112 := bK BK1112 hb; replace HB := bS HB hb; clear hb)); go_meet
                   case rel => exact ⟨_, (decide (t1142 < 2)), (by first | rfl | (simp; done) | (simp [*]; done)), H', ⟨by have := HJ8.out; have := HK2.out; have := HJ48.out; have := HJ74.out; first | omega | exact Nat.le_refl _⟩, ⟨by exact rN HO_1113000⟩, ⟨by exact rX BK1112⟩, ⟨by exact rB HB⟩⟩
                ·rw [if_neg c110] at H; have c110b0 : decide (0 < t1141) = false := decide_eq_false c110; clear c110
                 as_aux_lemma =>
                  have H' := am H; clear H; go_wp2; go_meet
                  case rel => exact ⟨_, (false), (by first | rfl | (simp; done) | (simp [*]; done)), H', ⟨by have := HJ8.out; have := HK2.out; have := HJ48.out; have := HJ74.out; first | omega | exact Nat.le_refl _⟩, ⟨by exact rN HO_1113000⟩, ⟨by exact rX BK1112⟩, ⟨by exact rB HB⟩⟩
               ·rw [if_neg c109] at H; have c109b0 : decide (0 ≤ t1142) = false := decide_eq_false c109; clear c109
                as_aux_lemma =>
                 have H' := am H; clear H; go_wp2; go_meet
                 case rel => exact ⟨_, (false), (by first | rfl | (simp; done) | (simp [*]; done)), H', ⟨by have := HJ8.out; have := HK2.out; have := HJ48.out; have := HJ74.out; first | omega | exact Nat.le_refl _⟩, ⟨by exact rN HO_1113000⟩, ⟨by exact rX BK1112⟩, ⟨by exact rB HB⟩⟩
             case rest =>
              clear HC87
              try clear c1
              try clear p1
              try clear q1
              try clear hx1
              try clear c2
              try clear p2
              try clear c3
              try clear c4
              try clear c5
              try clear c6
              try clear p6
              try clear c8
              try clear c9
              try clear c10
              try clear c11
              try clear p11
              try clear q11
              try clear hx11
              try clear c24
              try clear c25
              try clear c30
              try clear c43
              try clear c48
              try clear c50
              try clear c50b0
              try clear c51
              try clear c55
              try clear c57
              try clear c58
              try clear c58b0
              try clear c59
              try clear c59b0
              try clear c60
              try clear c60b0
              try clear c60b1
              try clear c61
              try clear c62
              try clear c63
              try clear c64
              try clear p64
              try clear c65
              try clear c81
              try clear c81b0
              try clear c81b1
              try clear c86
              try clear c88
              try clear c88b0
              try clear c89
              try clear c89b0
              try clear c91
              try clear c91b0
              try clear c93
              try clear c93b0
              try clear c94
              try clear c94b0
              try clear c96
              try clear c96b0
              try clear c103
              try clear c103b0
              try clear c104
              try clear c104b0
              try clear c106
              try clear c106b0
              try clear c109
              try clear c109b0
              try clear c110
              try clear c110b0
              try clear c112
              try clear c112b0
              try clear p113
              try clear q113
              try clear hx113
              try clear hcz61_0
              try clear hcz65_0
              try clear hcz69_0
              try clear hfz61_0
              try clear hfz65_0
              try clear hfz69_0
              try clear hx1137_0
              try clear p1
              try clear p11
              try clear p1137
              try clear p2
              try clear p6
              try clear p64
              try clear q1
              try clear q11
              try clear q1137
              obtain ⟨kq, x172_86, rfl, HA, HJ86, HO_1113000, BK1112, HB⟩ := hcut; cases kq with
              | zero => exact absurd HA.out (by simp [laws_FnGrowth.j4])
              | succ kj86 =>
               have H := HA.out; clear HA; simp only [laws_FnGrowth.j4] at H; by_cases c115 : x172_86 = true
               ·subst c115; have H1 : (some false) = some r := by rw [if_pos rfl] at H; exact H
                rw [HRT.out] at H1; cases H1
               ·replace c115 := Bool.eq_false_iff.mpr c115; subst c115; have H1 : ((spec_DrawLettersAfter.f kj86 l0).bind fun bt1149 => ((impl_LettersAfter.f kj86 bt1149.1 bt1149.2.1 bt1149.2.2).bind fun bt1155 => ((spec_LettersAfter.f kj86 bt1149.1 bt1149.2.1 bt1149.2.2).bind fun bt1159 => (if (bt1155.2 == bt1159.2) = true then ((laws_sameInts.f kj86 bt1155.1 bt1159.1).bind fun t1163 => (some t1163)) else (some false))))) = some r := by rw [if_neg (show ¬ (false = true) by decide)] at H; exact H
                clear H; have H := H1; clear H1; replace H := bE H; obtain ⟨⟨t1149, t1152, t1153⟩, A1160, H⟩ := H; replace H : ((impl_LettersAfter.f kj86 t1149 t1152 t1153).bind fun bt1155 => ((spec_LettersAfter.f kj86 t1149 t1152 t1153).bind fun bt1159 => (if (bt1155.2 == bt1159.2) = true then ((laws_sameInts.f kj86 bt1155.1 bt1159.1).bind fun t1163 => (some t1163)) else (some false)))) = some r := H; have A116 := am A1160; clear A1160; replace H := bE H; obtain ⟨⟨t1155, t1158⟩, A1170, H⟩ := H; replace H : ((spec_LettersAfter.f kj86 t1149 t1152 t1153).bind fun bt1159 => (if (t1158 == bt1159.2) = true then ((laws_sameInts.f kj86 t1155 bt1159.1).bind fun t1163 => (some t1163)) else (some false))) = some r := H; have A117 := am A1170; clear A1170; replace H := bE H; obtain ⟨⟨t1159, t1162⟩, A1180, H⟩ := H; replace H : (if (t1158 == t1162) = true then ((laws_sameInts.f kj86 t1155 t1159).bind fun t1163 => (some t1163)) else (some false)) = some r := H; have A118 := am A1180; clear A1180; by_cases c119 : (t1158 == t1162) = true
                ·rw [if_pos c119] at H; have c119b0 : (t1158 == t1162) = true := c119; (try (have c119b1 : decide (t1158 = t1162) = true := by simpa using c119)); (try (have c119b2 : (t1158 == t1162) = true := by simpa using c119)); clear c119; replace H := bE H; obtain ⟨t1163, A1200, H⟩ := H; replace H : (some t1163) = some r := H; have A120 := am A1200; clear A1200
                 as_aux_lemma =>
                  obtain rfl := Option.some.inj H; go_wp2_with (first | ((with_reducible refine gate_callee (f := 67) rfl ?_); refine goesL_ (some 175) rfl rfl Try.func67 (by kernel_rfl) rfl #[.slice A0 l0.length c0] rfl (by (try simp only [mT, mC, mN]); first | done | rfl) ?_; (with_reducible refine (spec_DrawLettersAfter.calls kj86 _ _ l0 t1149 t1152 t1153 _ ?side1 ?side2 A116.out).mono ?_); (case side1 => exact xC ((Kd.C_below HR0.out HB.out))); (case side2 => exact HC0.out); rintro e w121 ⟨v1150, rfl, ho0, hb⟩; refine ⟨_, rfl, ?_⟩; have HO1151 := am (Kd.N_lower (Kd.N_mono (ok' := fun k_ => some k_ ≠ (.slice Ao12 t1108.length co12 : Value).ownBlock ∧ k_ ≠ gb1112) ho0 (fun k_ hk_ => ⟨(Kd.fresh' (Kd.N_lt (by exact rN HO_1113000)) k_ hk_), (Kd.freshB (g := gb1112) (o := .cells #[.slice Ao12 t1108.length co12] 28 (0, 0)) (by exact rX BK1112) k_ hk_)⟩)) (bZ HB)); replace HO_1113000 := am (Kd.N_elder' (by exact rN HO_1113000) (by first | exact Kd.N_base ho0 | exact Kd.S_base ho0) hb); replace BK1112 := bK BK1112 hb; replace HB := bS HB hb; clear hb ho0) | ((with_reducible refine gate_dst (N := 21) rfl ?_); (try (refine gate_guard (by rfl) ?_; dsimp only)); refine box_event ?hg (N := 21) ?hd (cs := #[.slice none 0 0]) (t := 28) ?hr ?_; (case hd | hg => rfl); (case hr => go_simp <;> rfl); intro gb1154 hg w122 hbox hb; replace HO_1113000 := am (Kd.N_below (Kd.N_elderB (by exact rN HO_1113000) gb1154 (Nat.le_of_eq hg.symm)) hb); replace HO1151 := am (Kd.N_below (Kd.N_elderB (by exact rN HO1151) gb1154 (Nat.le_of_eq hg.symm)) hb); have BK1154 := am (hbox); have GW1154 := am ((by rw [hg]; exact (bZ HB) : w.heap.size ≤ gb1154)); have GE1154 := am ((by rw [hg]; exact (bZ HB) : w.heap.size ≤ gb1154)); replace HB := bS HB hb; have NB1112_1154 := am ((by rw [hg]; exact Nat.ne_of_lt (blk_lt (g := gb1112) (o := .cells #[.slice Ao12 t1108.length co12] 28 (0, 0)) (by exact rX BK1112)) : gb1112 ≠ gb1154)); have NB1154_1112 := am ((by rw [hg]; exact Nat.ne_of_gt (blk_lt (g := gb1112) (o := .cells #[.slice Ao12 t1108.length co12] 28 (0, 0)) (by exact rX BK1112)) : gb1154 ≠ gb1112)); replace BK1112 := bK BK1112 hb; have qW1154 := Ge.mk GW1154.out; have qE1154 := Ge.mk GE1154.out; clear hb hbox hg; obtain ⟨Ao123, co123, eo123⟩ := Kd.N_slice HO1151.out; subst eo123; have hnb124 := NB1154_1112.out; have hnc124 := NB1112_1154.out; have hcz125_0 := z10 BK1154; have hfz125_0 := blk_frozen BK1154.out 0) | ((with_reducible refine gate_callee (f := 27) rfl ?_); refine goesL_ (some 183) rfl rfl Try.func27 (by kernel_rfl) rfl #[.agg #[.slice Ao123 t1149.length co123], .int .i64 t1152, .int .i64 t1153] rfl (by (try simp only [mT, mC, mN]); first | done | rfl) ?_; (with_reducible refine (impl_LettersAfter.calls kj86 _ _ t1149 t1152 t1153 t1155 t1158 _ ?side1 ?side2 A117.out).mono ?_); (case side1 => refine (Kd.N_reads' (e := 36) (base := w.heap.size) (ok := fun k_ => ((some k_ ≠ (.slice Ao12 t1108.length co12 : Value).ownBlock ∧ k_ ≠ gb1112) ∧ k_ ≠ gb1154)) (n := t1149.length) (c := co123) ?_).2.2; exact (by exact xN ((Kd.N_mono (Kd.N_far (p := ⟨gb1154, 0, none⟩) (Kd.N_mono HO1151.out (fun k_ hk => (⟨hk, hk.2⟩ : _ ∧ k_ ≠ gb1154))) (fun _ hk => hk.2) (.slice Ao123 t1149.length co123)) (fun _ h_ => h_.1))))); (case side2 => exact (Kd.N_reads' HO1151.out).2.1); rintro e w126 ⟨v1156, rfl, ho0, hb⟩; refine ⟨_, rfl, ?_⟩; replace HO_1113000 := am (Kd.N_elder' (by exact xN ((Kd.N_mono (Kd.N_far (p := ⟨gb1154, 0, none⟩) (Kd.N_mono HO_1113000.out (fun k_ hk => (⟨hk, hk.2⟩ : _ ∧ k_ ≠ gb1154))) (fun _ hk => hk.2) (.slice Ao123 t1149.length co123)) (fun _ h_ => h_.1)))) (Kd.R_base ho0) hb); replace HO1151 := am (Kd.N_elder' (by exact xN ((Kd.N_mono (Kd.N_far (p := ⟨gb1154, 0, none⟩) (Kd.N_mono HO1151.out (fun k_ hk => (⟨hk, hk.2⟩ : _ ∧ k_ ≠ gb1154))) (fun _ hk => hk.2) (.slice Ao123 t1149.length co123)) (fun _ h_ => h_.1)))) (Kd.R_base ho0) hb); have HO1157 := am (Kd.R_lower ho0 (bZ HB)); replace BK1112 := am (blk_below (g := gb1112) (o := .cells #[.slice Ao12 t1108.length co12] 28 (0, 0)) (by (with_reducible repeat (first | refine blk_drewN ?_ _ | refine blk_drew ?_ | refine blk_alloc ?_ _)); refine blk_far ?_ NB1112_1154.out _; exact rX BK1112) hb); replace BK1154 := am (blk_below (g := gb1154) (o := .cells #[.slice Ao123 t1149.length co123] 28 (0, 0)) (by (with_reducible repeat (first | refine blk_drewN ?_ _ | refine blk_drew ?_ | refine blk_alloc ?_ _)); refine blk_put (cs := #[.slice none 0 0]) ?_ 0 _ rfl; exact rX BK1154) hb); replace HB := bS HB hb; clear hb ho0; have hcz127_0 := z10 BK1154; have hfz127_0 := blk_frozen BK1154.out 0) | ((with_reducible refine gate_callee (f := 26) rfl ?_); refine goesL_ (some 190) rfl rfl Try.func26 (by kernel_rfl) rfl #[.agg #[.slice Ao123 t1149.length co123], .int .i64 t1152, .int .i64 t1153] rfl (by (try simp only [mT, mC, mN]); first | done | rfl) ?_; (with_reducible refine (spec_LettersAfter.calls kj86 _ _ t1149 t1152 t1153 t1159 t1162 _ ?side1 ?side2 A118.out).mono ?_); (case side1 => exact xC ((Kd.N_reads' HO1151.out).2.2)); (case side2 => exact (Kd.N_reads' HO1151.out).2.1); rintro e w128 ⟨v1160, rfl, ho0, hb⟩; refine ⟨_, rfl, ?_⟩; replace HO_1113000 := am (Kd.N_elder' (by exact rN HO_1113000) (Kd.R_base ho0) hb); replace HO1151 := am (Kd.N_elder' (by exact rN HO1151) (Kd.R_base ho0) hb); have HO1161 := am (Kd.R_lower (Kd.R_new' ho0 (Kd.R_lt (by exact rR HO1157))) (bZ HB)); replace HO1157 := am (Kd.R_elder' (by exact rR HO1157) (Kd.R_base ho0) hb); replace BK1112 := bK BK1112 hb; replace BK1154 := bK BK1154 hb; replace HB := bS HB hb; clear hb ho0; obtain ⟨Ao129, co129, eo129⟩ := Kd.R_slice HO1157.out; subst eo129; obtain ⟨Ao130, co130, eo130⟩ := Kd.R_slice HO1161.out; subst eo130) | (go_at_call 43; (with_reducible refine (laws_sameInts.calls kj86 _ _ t1155 _ _ t1159 t1163 _ ?side1 ?side2 ?side3 ?side4 A120.out).mono ?_); (case side1 => exact xC ((Kd.R_reads' HO1157.out).2.2)); (case side2 => exact (Kd.R_reads' HO1157.out).2.1); (case side3 => exact xC ((Kd.R_reads' HO1161.out).2.2)); (case side4 => exact (Kd.R_reads' HO1161.out).2.1); rintro e w' ⟨rfl, ⟨nd, rfl⟩⟩)); go_ret; exact ⟨by first | rfl | (simp [errW_none, errW_some] <;> rfl) | (simp [*, errW_none, errW_some] <;> rfl), by exact rB HB⟩
                ·rw [if_neg c119] at H; rw [HRT.out] at H; cases H
/-- THE ONE PURE STATEMENT of laws_FnGrowth: yours. -/
def laws_FnGrowth.Pure : Prop := ∀ (l0 : List Int), l0.length ≤ maxLen → l0.length * 1 ≤ 140737488351232 → (∀ x ∈ l0, (Lit.int .u8 x).wf = true) → ∃ k, laws_FnGrowth.f k l0 = some true
theorem laws_FnGrowth.walk (P : laws_FnGrowth.Pure) (a0 : Option Addr) (len0 cap0 : Nat) (z0 : List Int) (w : World) (w0 : (a0 = none ∧ len0 = 0 ∧ cap0 = 0 ∧ z0 = []) ∨ ∃ x, a0 = some x ∧ len0 ≤ cap0 ∧ cap0 ≤ maxLen ∧ z0.length = cap0 ∧ (∀ i, i < z0.length → w.cell? (x.add i) = some (.int .u8 (z0.getD i 0))) ∧ ∀ n ∈ z0, (Lit.int .u8 n).wf = true) (y0 : len0 * 1 ≤ 140737488351232) :
  Calls Try.prog 12 #[.slice a0 len0 cap0] w fun e w' => e = .returned (.bool true) ∧ Below w.heap.size w w' := by
 obtain ⟨l0, rfl, hr0, hm0, hw0, hc0⟩ := ReadsInt.ofRowC w0; obtain ⟨k, h⟩ := P l0 hm0 y0 hw0; refine (laws_FnGrowth.calls k _ _ l0 true w (Kd.C_of_reads (d := (0 : Int)) (h1 := fun _ => rfl) hr0) hc0 h rfl).mono ?_; rintro e w' ⟨rfl, hd⟩; exact ⟨rfl, hd⟩
end
end Go.Proofs.Ytooamcjgejajeaa.M
/- Morphisms and words: program and reference tell the same and make the same images. No condition but lengths that fit. -/
namespace Go.Proofs.Ytooamcjgejajeaa.M
open Go.RowKit Go.Proofs.YtooamcjgejajeaaW.PrintWords Go.Proofs.Ytooamcjgejajeaa.K
set_option linter.unusedVariables false
def isL (w : List Int) (n : Nat) : Bool := w.all fun x => decide (0 ≤ x ∧ x < (n : Int))
theorem isL_cons (x : Int) (w : List Int) (n : Nat) : isL (x :: w) n = (decide (0 ≤ x ∧ x < (n : Int)) && isL w n) := by simp [isL]
def iw (w : List Int) (n : Nat) : Bool := isL w n && (decide (1 ≤ n ∧ n ≤ 16) && decide (w.length ≤ 400))
def mo (ms : List (List Int)) : Bool := decide (1 ≤ ms.length ∧ ms.length ≤ 16) && ms.all fun im => decide (im.length ≤ 8) && isL im ms.length
theorem specIsWord_ev (w : List Int) (n : Nat) (hw : w.length ≤ 1048576) : Ev (fun k => spec_IsWord.f k w (n : Int)) (iw w n) := by
 have key : ∀ i, i ≤ w.length → Ev (fun k => spec_IsWord.l0 k w (n : Int) (i : Int)) (isL (w.drop i) n && (decide (1 ≤ n ∧ n ≤ 16) && decide (w.length ≤ 400))) := by
  refine down w.length ?_ ?_
  ·refine Ev.step (fun k => by simp only [spec_IsWord.l0]; rw [_root_.if_neg (by omega)]) ?_; refine Ev.bind (Ev.val (l1In_val _ _ _)) ?_; rw [List.drop_length]; by_cases q : 1 ≤ n ∧ n ≤ 16
   ·rw [decide_eq_true (show 1 ≤ (n : Int) ∧ (n : Int) ≤ 16 by omega)]; refine Ev.if_pos rfl (Ev.same (Ev.some _) ?_); rw [decide_eq_true q]; simp [isL]; omega
   ·rw [decide_eq_false (show ¬ (1 ≤ (n : Int) ∧ (n : Int) ≤ 16) by omega)]; refine Ev.if_neg (by simp) (Ev.same (Ev.some _) ?_); rw [decide_eq_false q]; simp
  ·intro i hi ih; rw [drop_eq w i hi, isL_cons]; refine Ev.step (fun k => by simp only [spec_IsWord.l0]; rw [_root_.if_pos (by omega), _root_.if_pos (by omega), wsucc (by omega), rd_get w i hi]) ?_; refine Ev.ite (fun q => ?_) (fun q => ?_)
   ·rw [decide_eq_false (by omega)]; exact Ev.some _
   ·refine Ev.ite (fun q2 => ?_) (fun q2 => ?_)
    ·rw [decide_eq_false (by omega)]; exact Ev.some _
    ·rw [decide_eq_true (by omega), Bool.true_and]; exact ih
 exact key 0 (by omega)
theorem areLetters_ev (w : List Int) (n : Nat) (hw : w.length ≤ 1048576) : Ev (fun k => impl_areLetters.f k w (n : Int)) (isL w n) := by
 have key : ∀ i, i ≤ w.length → Ev (fun k => impl_areLetters.l0 k (n : Int) w (w.length : Int) (i : Int)) (isL (w.drop i) n) := by
  refine down w.length ?_ ?_
  ·refine Ev.step (fun k => by simp only [impl_areLetters.l0]; rw [_root_.if_neg (by omega)]) ?_; rw [List.drop_length]; exact Ev.some _
  ·intro i hi ih; rw [drop_eq w i hi, isL_cons]; refine Ev.step (fun k => by simp only [impl_areLetters.l0]; rw [_root_.if_pos (by omega), _root_.if_pos (by omega), _root_.if_pos (by omega), wsucc (by omega), rd_get w i hi]) ?_; refine Ev.ite (fun q => ?_) (fun q => ?_)
   ·rw [decide_eq_false (by omega)]; exact Ev.some _
   ·refine Ev.ite (fun q2 => ?_) (fun q2 => ?_)
    ·rw [decide_eq_false (by omega)]; exact Ev.some _
    ·rw [decide_eq_true (by omega), Bool.true_and]; exact ih
 unfold impl_areLetters.f; exact key 0 (by omega)
theorem implIsMorphism_ev (ms : List (List Int)) (h : ms.length ≤ 1048576) (ht : total ms ≤ 1048576) : Ev (fun k => impl_IsMorphism.f k ms) (mo ms) := by
 have key : ∀ i, i ≤ ms.length → Ev (fun k => impl_IsMorphism.l0 k (ms.length : Int) ms (ms.length : Int) (i : Int)) ((ms.drop i).all fun im => decide (im.length ≤ 8) && isL im ms.length) := by
  refine down ms.length ?_ ?_
  ·refine Ev.step (fun k => by simp only [impl_IsMorphism.l0]; rw [_root_.if_neg (by omega)]) ?_; rw [List.drop_length]; exact Ev.some _
  ·intro i hi ih; rw [drop_eq ms i hi, List.all_cons]; refine Ev.step (fun k => by simp only [impl_IsMorphism.l0]; rw [_root_.if_pos (by omega), _root_.if_pos (by omega), _root_.if_pos (by omega), wsucc (by omega), rdLL ms i hi]) ?_; refine Ev.ite (fun q => ?_) (fun q => ?_)
   ·rw [decide_eq_false (by omega), Bool.false_and, Bool.false_and]; exact Ev.some _
   ·rw [decide_eq_true (by omega), Bool.true_and]; refine Ev.bind (areLetters_ev _ _ (by have := total_at ms i hi; omega)) ?_; refine Ev.ite (fun q2 => ?_) (fun q2 => ?_)
    ·rw [q2, Bool.true_and]; exact ih
    ·rw [Bool.eq_false_iff.2 q2, Bool.false_and]; exact Ev.some _
 have big : ∀ b : Bool, b = !decide (1 ≤ ms.length ∧ ms.length ≤ 16) → Ev (fun k => impl_IsMorphism.j0 k (ms.length : Int) b ms) (mo ms) := by
  intro b hb; subst hb; unfold mo; by_cases q : 1 ≤ ms.length ∧ ms.length ≤ 16
  ·rw [decide_eq_true q]; refine Ev.step (fun k => by simp only [impl_IsMorphism.j0]; rw [_root_.if_neg (by simp)]) ?_; rw [Bool.true_and]; exact key 0 (by omega)
  ·rw [decide_eq_false q]; refine Ev.step (fun k => by simp only [impl_IsMorphism.j0]; rw [_root_.if_pos (by simp)]) ?_; exact Ev.some _
 unfold impl_IsMorphism.f; refine Ev.ite (fun q => ?_) (fun q => ?_)
 ·exact big true (by rw [decide_eq_false (by omega)]; rfl)
 ·refine big _ ?_; by_cases q2 : (ms.length : Int) > 16
  ·rw [decide_eq_true q2, decide_eq_false (by omega)]; rfl
  ·rw [decide_eq_false q2, decide_eq_true (by omega)]; rfl
theorem specIsMorphism_ev (ms : List (List Int)) (h : ms.length ≤ 1048576) (ht : total ms ≤ 1048576) : Ev (fun k => spec_IsMorphism.f k ms) (mo ms) := by
 have key : ∀ i, i ≤ ms.length → Ev (fun k => spec_IsMorphism.l0 k (i : Int) ms) (decide (1 ≤ ms.length ∧ ms.length ≤ 16) && (ms.drop i).all fun im => decide (im.length ≤ 8) && isL im ms.length) := by
  refine down ms.length ?_ ?_
  ·refine Ev.step (fun k => by simp only [spec_IsMorphism.l0]; rw [_root_.if_neg (by omega)]) ?_; refine Ev.bind (Ev.val (l1In_val _ _ _)) (Ev.same (Ev.some _) ?_); rw [List.drop_length]; rw [List.all_nil, Bool.and_true, decide_eq_decide]; omega
  ·intro i hi ih; rw [drop_eq ms i hi, List.all_cons]; refine Ev.step (fun k => by simp only [spec_IsMorphism.l0]; rw [_root_.if_pos (by omega), _root_.if_pos (by omega), wsucc (by omega), rdLL ms i hi]) ?_; refine Ev.bind (specIsWord_ev _ _ (by have := total_at ms i hi; omega)) ?_; unfold iw; by_cases q0 : 1 ≤ ms.length ∧ ms.length ≤ 16
   ·rw [decide_eq_true q0] at ih ⊢; rw [Bool.true_and] at ih ⊢; rw [Bool.true_and]; by_cases q1 : isL ms[i] ms.length = true
    ·rw [q1, Bool.true_and, Bool.and_true]; by_cases q2 : ms[i].length ≤ 400
     ·rw [decide_eq_true q2]; refine Ev.if_pos rfl (Ev.ite (fun q => ?_) (fun q => ?_))
      ·rw [decide_eq_false (show ¬ ms[i].length ≤ 8 by omega), Bool.false_and]; exact Ev.some _
      ·rw [decide_eq_true (show ms[i].length ≤ 8 by omega), Bool.true_and]; exact ih
     ·rw [decide_eq_false q2, decide_eq_false (show ¬ ms[i].length ≤ 8 by omega), Bool.false_and]; exact Ev.if_neg (by simp) (Ev.some _)
    ·rw [Bool.eq_false_iff.2 q1, Bool.false_and, Bool.and_false, Bool.false_and]; exact Ev.if_neg (by simp) (Ev.some _)
   ·rw [decide_eq_false q0, Bool.false_and, Bool.false_and, Bool.and_false]; exact Ev.if_neg (by simp) (Ev.some _)
 exact key 0 (by omega)
def img (ms : List (List Int)) (w : List Int) : List Int := w.flatMap fun x => rd_L1 ms x
noncomputable def am (ms : List (List Int)) (w : List Int) : List Int × Bool := if mo ms = true ∧ iw w ms.length = true then (if (img ms w).length > 400 then ([], false) else (img ms w, true)) else ([], false)
theorem am_len (ms : List (List Int)) (w : List Int) : (am ms w).1.length ≤ 400 := by
 unfold am; split <;> (try split) <;> simp; omega
theorem img_take (ms : List (List Int)) (w : List Int) (i : Nat) (h : i < w.length) : img ms (w.take (i + 1)) = img ms (w.take i) ++ rd_L1 ms w[i] := by
 unfold img; rw [take_succ w i h, List.flatMap_append]; simp
theorem img_le (ms : List (List Int)) (w : List Int) (i : Nat) : (img ms (w.take i)).length ≤ (img ms w).length := by
 have : img ms w = img ms (w.take i) ++ img ms (w.drop i) := by unfold img; rw [← List.flatMap_append, List.take_append_drop]
 rw [this, List.length_append]; omega
theorem mo_at {ms : List (List Int)} (h : mo ms = true) (i : Nat) (hi : i < ms.length) : ms[i].length ≤ 8 := by
 unfold mo at h; rw [Bool.and_eq_true, List.all_eq_true] at h; have := h.2 _ (List.getElem_mem hi); rw [Bool.and_eq_true] at this; exact of_decide_eq_true this.1
theorem iw_at {w : List Int} {n : Nat} (h : iw w n = true) (i : Nat) (hi : i < w.length) : 0 ≤ w[i] ∧ w[i] < (n : Int) := by
 unfold iw isL at h; rw [Bool.and_eq_true, List.all_eq_true] at h; exact of_decide_eq_true (h.1 _ (List.getElem_mem hi))
theorem rd_image {ms : List (List Int)} (h : mo ms = true) (x : Int) (h0 : 0 ≤ x) (h1 : x < (ms.length : Int)) : (rd_L1 ms x).length ≤ 8 := by
 obtain ⟨n, rfl⟩ : ∃ n : Nat, x = (n : Int) := ⟨x.toNat, by omega⟩; rw [rdLL ms n (by omega)]; exact mo_at h n (by omega)
theorem specApply_ev (ms : List (List Int)) (w : List Int) (h : ms.length ≤ 1048576) (ht : total ms ≤ 1048576) (hw : w.length ≤ 1048576) : Ev (fun k => spec_ApplyMorphism.f k ms w) (am ms w) := by
 have key : mo ms = true → iw w ms.length = true → ∀ i, i ≤ w.length → (img ms (w.take i)).length ≤ 400 → Ev (fun k => spec_ApplyMorphism.l0 k w (img ms (w.take i)) (i : Int) ms) (am ms w) := by
  intro hm hi0; have e : am ms w = (if (img ms w).length > 400 then ([], false) else (img ms w, true)) := by unfold am; rw [_root_.if_pos ⟨hm, hi0⟩]
  rw [e]; refine down w.length ?_ ?_
  ·intro h1; refine Ev.step (fun k => by simp only [spec_ApplyMorphism.l0]; rw [_root_.if_neg (by omega)]) ?_; rw [List.take_length] at h1 ⊢; rw [_root_.if_neg (by omega)]; exact Ev.some _
  ·intro i hi ih h1; have h2 := iw_at hi0 i hi; have h3 := rd_image hm w[i] h2.1 h2.2; refine Ev.step (fun k => by simp only [spec_ApplyMorphism.l0]; rw [_root_.if_pos (by omega), _root_.if_pos (by omega), wsucc (by omega), rd_get w i hi, _root_.if_pos h2.1, _root_.if_pos h2.2, _root_.if_pos (by omega), ← img_take ms w i hi]) ?_; refine Ev.bind (Ev.some _) ?_; refine Ev.ite (fun q => ?_) (fun q => ?_)
   ·have := img_le ms w (i + 1); rw [_root_.if_pos (by omega)]; exact Ev.some _
   ·exact ih (by omega)
 unfold spec_ApplyMorphism.f; refine Ev.bind (Ev.some _) ?_; refine Ev.bind (specIsMorphism_ev ms h ht) ?_; by_cases q : mo ms = true
 ·refine Ev.if_pos q (Ev.bind (specIsWord_ev _ _ hw) ?_); by_cases q2 : iw w ms.length = true
  ·rw [q2]; refine Ev.step (fun k => by simp only [spec_ApplyMorphism.j0]; rw [_root_.if_neg (by simp)]) ?_; exact key q q2 0 (by omega) (by simp [img])
  ·rw [Bool.eq_false_iff.2 q2]; refine Ev.step (fun k => by simp only [spec_ApplyMorphism.j0]; rw [_root_.if_pos (by simp)]) ?_; unfold am; rw [_root_.if_neg (fun h => q2 h.2)]; exact Ev.some _
 ·refine Ev.if_neg q ?_; refine Ev.step (fun k => by simp only [spec_ApplyMorphism.j0]; rw [_root_.if_pos trivial]) ?_; unfold am; rw [_root_.if_neg (fun h => q h.1)]; exact Ev.some _
def cnt (w : List Int) (b : Int) : Nat := w.countP fun x => decide (x = b)
theorem cnt_take (w : List Int) (b : Int) (i : Nat) (h : i < w.length) : cnt (w.take (i + 1)) b = cnt (w.take i) b + (if w[i] = b then 1 else 0) := by
 unfold cnt; rw [take_succ w i h, List.countP_append]; simp [List.countP_cons]
theorem cnt_le (w : List Int) (b : Int) : cnt w b ≤ w.length := List.countP_le_length
def incRow (w : List Int) (n : Nat) : List Int := row n fun b => (cnt w (b : Int) : Int)
def inc (ms : List (List Int)) : List (List Int) := if mo ms = true then ms.map fun w => incRow w ms.length else []
theorem specCount_ev (w : List Int) (b : Int) (hw : w.length ≤ 1048576) : Ev (fun k => spec_CountLetters.f k w b) (cnt w b : Int) := by
 have key : ∀ i, i ≤ w.length → Ev (fun k => spec_CountLetters.l0 k w b (cnt (w.take i) b : Int) (i : Int)) (cnt w b : Int) := by
  refine down w.length ?_ ?_
  ·refine Ev.step (fun k => by simp only [spec_CountLetters.l0]; rw [_root_.if_neg (by omega)]) ?_; rw [List.take_length]; exact Ev.some _
  ·intro i hi ih; have h1 := cnt_le (w.take i) b; rw [List.length_take] at h1; rw [cnt_take w b i hi] at ih; refine Ev.step (fun k => by simp only [spec_CountLetters.l0]; rw [_root_.if_pos (by omega), _root_.if_pos (by omega), wsucc (i := i) (by omega), rd_get w i hi]) ?_; refine Ev.ite (fun q => ?_) (fun q => ?_)
   ·rw [_root_.if_pos q] at ih; refine Ev.congr (fun k => by rw [wsucc (by omega)]) ih
   ·rw [_root_.if_neg q] at ih; exact ih
 unfold spec_CountLetters.f; exact key 0 (by omega)
theorem specInc_ev (ms : List (List Int)) (h : ms.length ≤ 1048576) (ht : total ms ≤ 1048576) : Ev (fun k => spec_IncidenceOf.f k ms) (inc ms, mo ms) := by
 have hmo := specIsMorphism_ev ms h ht; unfold spec_IncidenceOf.f; by_cases q : mo ms = true
 ·unfold inc; rw [_root_.if_pos q]; rw [q] at hmo ⊢; have l1 : ∀ i, i < ms.length → Ev (fun k => spec_IncidenceOf.l0 k ((ms.take (i + 1)).map fun w => incRow w ms.length) ((i + 1 : Nat) : Int) ms) (ms.map (fun w => incRow w ms.length), true) →
    ∀ b, b ≤ ms.length → Ev (fun k => spec_IncidenceOf.l1 k ((ms.take i).map fun w => incRow w ms.length) (i : Int) (row b fun b => (cnt (rd_L1 ms (i : Int)) (b : Int) : Int)) (b : Int) ms) (ms.map (fun w => incRow w ms.length), true) := by
   intro i hi ih0; refine down ms.length ?_ ?_
   ·refine Ev.step (fun k => by simp only [spec_IncidenceOf.l1]; rw [_root_.if_neg (by omega), _root_.if_pos (by rw [List.length_map, List.length_take]; omega), wsucc (by omega)]) ?_; rw [take_succ ms i hi, List.map_append, List.map_cons, List.map_nil] at ih0; rw [rdLL ms i hi]; exact ih0
   ·intro b hb ih; refine Ev.step (fun k => by simp only [spec_IncidenceOf.l1]; rw [_root_.if_pos (by omega), _root_.if_pos (by omega), _root_.if_pos (by omega), wsucc (by omega), rdLL ms i hi]) ?_; refine Ev.bind (specCount_ev _ _ (by have := total_at ms i hi; omega)) ?_; refine Ev.if_pos (by rw [row_length]; omega) ?_; rw [row_succ, rdLL ms i hi] at ih; exact ih
  have key : ∀ i, i ≤ ms.length → Ev (fun k => spec_IncidenceOf.l0 k ((ms.take i).map fun w => incRow w ms.length) (i : Int) ms) (ms.map (fun w => incRow w ms.length), true) := by
   refine down ms.length ?_ ?_
   ·refine Ev.step (fun k => by simp only [spec_IncidenceOf.l0]; rw [_root_.if_neg (by omega)]) ?_; refine Ev.step (fun k => by simp only [spec_IncidenceOf.j1]; rw [_root_.if_neg (by simp)]) ?_; rw [List.take_length]; exact Ev.bind hmo (Ev.some _)
   ·intro i hi ih; refine Ev.step (fun k => by simp only [spec_IncidenceOf.l0]; rw [_root_.if_pos (by omega)]) ?_; refine Ev.bind hmo ?_; refine Ev.step (fun k => by simp only [spec_IncidenceOf.j1]; rw [_root_.if_pos trivial]) ?_; exact l1 i hi ih 0 (by omega)
  exact key 0 (by omega)
 ·unfold inc; rw [_root_.if_neg q]; rw [Bool.eq_false_iff.2 q] at hmo ⊢; have fin : Ev (fun k => spec_IncidenceOf.j1 k [] 0 false ms) ([], false) := by
   refine Ev.step (fun k => by simp only [spec_IncidenceOf.j1]; rw [_root_.if_neg (by simp)]) ?_; exact Ev.bind hmo (Ev.some _)
  refine Ev.step (fun k => by simp only [spec_IncidenceOf.l0]; rfl) ?_; refine Ev.ite (fun _ => ?_) (fun _ => ?_)
  ·exact Ev.bind hmo fin
  ·exact fin
theorem mo_letters {ms : List (List Int)} (h : mo ms = true) (i : Nat) (hi : i < ms.length) (j : Nat) (hj : j < ms[i].length) : 0 ≤ ms[i][j] ∧ ms[i][j] < (ms.length : Int) := by
 unfold mo isL at h; rw [Bool.and_eq_true, List.all_eq_true] at h; have := h.2 _ (List.getElem_mem hi); rw [Bool.and_eq_true, List.all_eq_true] at this; exact of_decide_eq_true (this.2 _ (List.getElem_mem hj))
theorem implInc_ev (ms : List (List Int)) (h : ms.length ≤ 1048576) (ht : total ms ≤ 1048576) : Ev (fun k => impl_IncidenceOf.f k ms) (inc ms, mo ms) := by
 unfold impl_IncidenceOf.f; refine Ev.bind (Ev.some _) (Ev.bind (implIsMorphism_ev ms h ht) ?_); by_cases q : mo ms = true
 ·unfold inc; rw [_root_.if_pos q]; refine Ev.if_pos q ?_; rw [q]; have l1 : ∀ i, i < ms.length → ∀ (w : List Int), w = rd_L1 ms (i : Int) → w.length ≤ 8 → (∀ j, (hj : j < w.length) → 0 ≤ w[j] ∧ w[j] < (ms.length : Int)) → Ev (fun k => impl_IncidenceOf.l0 k (((ms.take i).map fun w => incRow w ms.length) ++ [incRow w ms.length]) ms (ms.length : Int) ((i + 1 : Nat) : Int) ms) (ms.map (fun w => incRow w ms.length), true) →
    ∀ j, j ≤ w.length → Ev (fun k => impl_IncidenceOf.l1 k ((ms.take i).map fun w => incRow w ms.length) (incRow (w.take j) ms.length) ms (ms.length : Int) (i : Int) w (w.length : Int) (j : Int) ms) (ms.map (fun w => incRow w ms.length), true) := by
   intro i hi w hwe hw8 hl ih0; refine down w.length ?_ ?_
   ·refine Ev.step (fun k => by simp only [impl_IncidenceOf.l1]; rw [_root_.if_neg (by omega), _root_.if_pos (by rw [List.length_map, List.length_take]; omega), wsucc (by omega)]) ?_; rw [List.take_length]; exact ih0
   ·intro j hj ih; have h1 := hl j hj; obtain ⟨x, hx⟩ : ∃ x : Nat, w[j] = (x : Int) := ⟨w[j].toNat, by omega⟩; have h2 := cnt_le (w.take j) (x : Int); rw [List.length_take] at h2; have e : (incRow (w.take j) ms.length).set ((w[j]) : Int).toNat (wrap64 (rd (incRow (w.take j) ms.length) w[j] + 1)) = incRow (w.take (j + 1)) ms.length := by
     rw [hx, Int.toNat_natCast]; unfold incRow; rw [rd_row _ _ _ (by omega), row_set]; refine row_congr _ _ _ (fun b hb => ?_); rw [cnt_take w _ j hj, hx]; by_cases e : b = x
     ·rw [_root_.if_pos e, e, _root_.if_pos rfl, w_id (by omega) (by omega)]; omega
     ·rw [_root_.if_neg e, _root_.if_neg (by omega)]; rfl
    refine Ev.step (fun k => by simp only [impl_IncidenceOf.l1]; rw [_root_.if_pos (by omega), _root_.if_pos (by omega), _root_.if_pos (by omega), wsucc (by omega), rd_get w j hj, _root_.if_pos h1.1, _root_.if_pos (by unfold incRow; rw [row_length]; exact h1.2), e]) ih
  have key : ∀ i, i ≤ ms.length → Ev (fun k => impl_IncidenceOf.l0 k ((ms.take i).map fun w => incRow w ms.length) ms (ms.length : Int) (i : Int) ms) (ms.map (fun w => incRow w ms.length), true) := by
   refine down ms.length ?_ ?_
   ·refine Ev.step (fun k => by simp only [impl_IncidenceOf.l0]; rw [_root_.if_neg (by omega)]) ?_; rw [List.take_length]; exact Ev.some _
   ·intro i hi ih; rw [take_succ ms i hi, List.map_append, List.map_cons, List.map_nil] at ih; refine Ev.step (fun k => by simp only [impl_IncidenceOf.l0]; rw [_root_.if_pos (by omega), _root_.if_pos (by omega), _root_.if_pos (by omega), _root_.if_pos (by omega), _root_.if_pos (by omega), Int.toNat_natCast]) ?_; have hr := rdLL ms i hi; have := l1 i hi (rd_L1 ms (i : Int)) rfl (by rw [hr]; exact mo_at q i hi) (fun j hj => by simp only [hr] at hj ⊢; exact mo_letters q i hi j hj) (by rw [hr]; exact ih) 0 (by omega); have e : incRow ((rd_L1 ms (i : Int)).take 0) ms.length = List.replicate ms.length 0 := by
     rw [row_replicate]; unfold incRow; exact row_congr _ _ _ (fun b _ => by simp [cnt])
    rw [e] at this; exact this
  exact key 0 (by omega)
 ·unfold inc; rw [_root_.if_neg q]; refine Ev.if_neg q ?_; rw [Bool.eq_false_iff.2 q]; exact Ev.some _
theorem inc_len (ms : List (List Int)) : (inc ms).length ≤ 16 ∧ ∀ r ∈ inc ms, r.length = ms.length ∧ r.length ≤ 16 := by
 unfold inc; split
 ·rename_i q; have : ms.length ≤ 16 := by unfold mo at q; rw [Bool.and_eq_true] at q; exact (of_decide_eq_true q.1).2
  refine ⟨by rw [List.length_map]; exact this, fun r hr => ?_⟩; obtain ⟨w, _, rfl⟩ := List.mem_map.1 hr; unfold incRow; rw [row_length]; exact ⟨rfl, this⟩
 ·simp
end Go.Proofs.Ytooamcjgejajeaa.M
/- Whether some power of a morphism takes every letter to all letters: the reference keeps sets of letters, the program matrices; both tell the same. No condition but lengths that fit. -/
namespace Go.Proofs.Ytooamcjgejajeaa.M
open Go.RowKit Go.Proofs.YtooamcjgejajeaaW.PrintWords Go.Proofs.YtooamcjgejajeaaW.PrintMore Go.Proofs.Ytooamcjgejajeaa.K
set_option linter.unusedVariables false
/-! Lists of lists told by their places. -/
def mt (n : Nat) (f : Nat → List Int) : List (List Int) := (List.range n).map f
theorem mt_length (n : Nat) (f : Nat → List Int) : (mt n f).length = n := by simp [mt]
theorem mt_get (n : Nat) (f : Nat → List Int) (i : Nat) (h : i < n) : (mt n f)[i]'(by rw [mt_length]; exact h) = f i := by simp [mt]
theorem rd_mt (n : Nat) (f : Nat → List Int) (i : Nat) (h : i < n) : rd_L1 (mt n f) (i : Int) = f i := by rw [rdLL _ i (by rw [mt_length]; exact h), mt_get n f i h]
theorem mt_set (n : Nat) (f : Nat → List Int) (i : Nat) (v : List Int) : (mt n f).set i v = mt n (fun m => if m = i then v else f m) := by
 apply List.ext_getElem
 ·rw [List.length_set, mt_length, mt_length]
 ·intro m h1 h2; have hm : m < n := by rw [mt_length] at h2; exact h2
  rw [List.getElem_set, mt_get n f m hm, mt_get n (fun m => if m = i then v else f m) m hm]; by_cases q : i = m
  ·rw [if_pos q, if_pos q.symm]
  ·rw [if_neg q, if_neg (fun (h : m = i) => q h.symm)]
theorem mt_congr (n : Nat) (f g : Nat → List Int) (h : ∀ i, i < n → f i = g i) : mt n f = mt n g := by
 unfold mt; exact List.map_congr_left (fun i hi => h i (List.mem_range.1 hi))
theorem mt_succ (n : Nat) (f : Nat → List Int) : mt (n + 1) f = mt n f ++ [f n] := by simp [mt, List.range_succ]
/-! Sets of letters. -/
def ded (acc l : List Int) : List Int := l.foldl (fun acc y => if y ∈ acc then acc else acc ++ [y]) acc
theorem ded_mem : ∀ (l acc : List Int) (y : Int), y ∈ ded acc l ↔ y ∈ acc ∨ y ∈ l
 | [], acc, y => by simp [ded]
 | x :: l, acc, y => by
  show y ∈ ded (if x ∈ acc then acc else acc ++ [x]) l ↔ _; rw [ded_mem l, List.mem_cons]; split
  ·rename_i q; constructor
   ·rintro (h | h)
    ·exact .inl h
    ·exact .inr (.inr h)
   ·rintro (h | rfl | h)
    ·exact .inl h
    ·exact .inl q
    ·exact .inr h
  ·rw [List.mem_append, List.mem_singleton, or_assoc]
theorem ded_nodup : ∀ (l acc : List Int), acc.Nodup → (ded acc l).Nodup
 | [], _, h => h
 | x :: l, acc, h => by
  show (ded (if x ∈ acc then acc else acc ++ [x]) l).Nodup; refine ded_nodup l _ ?_; split
  ·exact h
  ·rename_i q; rw [List.nodup_append]; exact ⟨h, by simp, fun a ha b hb e => by rw [List.mem_singleton] at hb; subst hb; subst e; exact q ha⟩
def nxt (R : List (List Int)) (acc w : List Int) : List Int := w.foldl (fun acc x => ded acc (rd_L1 R x)) acc
theorem nxt_mem (R : List (List Int)) : ∀ (w acc : List Int) (y : Int), y ∈ nxt R acc w ↔ y ∈ acc ∨ ∃ x ∈ w, y ∈ rd_L1 R x
 | [], acc, y => by simp [nxt]
 | x :: w, acc, y => by
  show y ∈ nxt R (ded acc (rd_L1 R x)) w ↔ _; rw [nxt_mem R w, ded_mem, or_assoc]; simp
theorem nxt_nodup (R : List (List Int)) : ∀ (w acc : List Int), acc.Nodup → (nxt R acc w).Nodup
 | [], _, h => h
 | x :: w, acc, h => nxt_nodup R w _ (ded_nodup _ _ h)
def st (R : List (List Int)) : Nat → Int → List Int
 | 0, a => [a]
 | t + 1, a => nxt R [] (st R t a)
theorem st_nodup (R : List (List Int)) : ∀ t a, (st R t a).Nodup
 | 0, a => by simp [st]
 | t + 1, a => nxt_nodup R _ _ List.nodup_nil
theorem sub_len : ∀ (L M : List Int), L.Nodup → (∀ x ∈ L, x ∈ M) → L.length ≤ M.length
 | [], _, _, _ => Nat.zero_le _
 | x :: L, M, hn, hs => by
  rw [List.nodup_cons] at hn; have hx := hs x (List.mem_cons_self ..); have := sub_len L (M.erase x) hn.2 (fun y hy => (List.mem_erase_of_ne (fun e => hn.1 (by rw [← e]; exact hy))).2 (hs y (List.mem_cons_of_mem _ hy))); rw [List.length_erase_of_mem hx] at this; have := List.length_pos_of_mem hx; simp only [List.length_cons]; omega
def rg (n : Nat) : List Int := (List.range n).map fun (i : Nat) => (i : Int)
theorem rg_mem (n : Nat) (y : Int) : y ∈ rg n ↔ 0 ≤ y ∧ y < (n : Int) := by
 unfold rg; rw [List.mem_map]; constructor
 ·rintro ⟨i, hi, rfl⟩; have := List.mem_range.1 hi; omega
 ·intro h; exact ⟨y.toNat, List.mem_range.2 (by omega), by omega⟩
theorem rg_nodup (n : Nat) : (rg n).Nodup := by
 unfold rg List.Nodup; rw [List.pairwise_map]; exact (List.nodup_range (n := n)).imp (fun h e => h (by omega))
theorem rg_len (n : Nat) : (rg n).length = n := by simp [rg]
theorem full_iff (L : List Int) (n : Nat) (hn : L.Nodup) (hr : ∀ x ∈ L, 0 ≤ x ∧ x < (n : Int)) : L.length ≤ n ∧ (L.length = n ↔ ∀ j : Nat, j < n → (j : Int) ∈ L) := by
 have h1 := sub_len L (rg n) hn (fun x hx => (rg_mem n x).2 (hr x hx)); rw [rg_len] at h1; refine ⟨h1, fun h j hj => ?_, fun h => ?_⟩
 ·apply Classical.byContradiction; intro hc; have := sub_len L ((rg n).erase (j : Int)) hn (fun x hx => (List.mem_erase_of_ne (fun e => hc (by rw [← e]; exact hx))).2 ((rg_mem n x).2 (hr x hx))); rw [List.length_erase_of_mem ((rg_mem n (j : Int)).2 (by omega)), rg_len] at this; omega
 ·have := sub_len (rg n) L (rg_nodup n) (fun x hx => by
   have hx := (rg_mem n x).1 hx; have := h x.toNat (by omega)
   rwa [show ((x.toNat : Nat) : Int) = x by omega] at this)
  rw [rg_len] at this; omega
section prim
variable (R : List (List Int)) (hmo : mo R = true) (hn6 : R.length ≤ 6)
include hmo
theorem row_letters (x : Int) (h0 : 0 ≤ x) (h1 : x < (R.length : Int)) : ∀ y ∈ rd_L1 R x, 0 ≤ y ∧ y < (R.length : Int) := by
 obtain ⟨i, rfl⟩ : ∃ i : Nat, x = (i : Int) := ⟨x.toNat, by omega⟩; rw [rdLL R i (by omega)]; intro y hy; obtain ⟨j, hj, rfl⟩ := List.mem_iff_getElem.1 hy; exact mo_letters hmo i (by omega) j hj
theorem st_range : ∀ t (a : Int), 0 ≤ a → a < (R.length : Int) → ∀ y ∈ st R t a, 0 ≤ y ∧ y < (R.length : Int)
 | 0, a, h0, h1, y, hy => by
  rw [show y = a by simpa [st] using hy]; exact ⟨h0, h1⟩
 | t + 1, a, h0, h1, y, hy => by
  rcases (nxt_mem R (st R t a) [] y).1 hy with h | ⟨x, hx, h⟩
  ·cases h
  ·have := st_range t a h0 h1 x hx; exact row_letters R hmo x this.1 this.2 y h
theorem st_len (t : Nat) (a : Nat) (ha : a < R.length) : (st R t (a : Int)).length ≤ R.length := (full_iff _ _ (st_nodup R t a) (st_range R hmo t a (by omega) (by omega))).1
omit hmo in
theorem has_ev (l : List Int) (x : Int) (hl : l.length ≤ 1000000) : Ev (fun k => spec_l4Has.f k l x) (decide (x ∈ l)) := by
 have key : ∀ i, i ≤ l.length → Ev (fun k => spec_l4Has.l0 k l x (i : Int)) (decide (x ∈ l.drop i)) := by
  refine down l.length ?_ ?_
  ·refine Ev.step (fun k => by simp only [spec_l4Has.l0]; rw [_root_.if_neg (by omega)]) ?_; rw [List.drop_length, decide_eq_false (by simp)]; exact Ev.some _
  ·intro i hi ih; refine Ev.step (fun k => by simp only [spec_l4Has.l0]; rw [_root_.if_pos (by omega), _root_.if_pos (by omega), rd_get l i hi, wsucc (by omega)]) ?_; rw [drop_eq l i hi]; refine Ev.ite (fun q => ?_) (fun q => ?_)
   ·rw [decide_eq_true (by rw [q]; simp)]; exact Ev.some _
   ·have : decide (x ∈ l[i] :: l.drop (i + 1)) = decide (x ∈ l.drop (i + 1)) := decide_eq_decide.2 ⟨fun h => (List.mem_cons.1 h).resolve_left (fun e => q e.symm), List.mem_cons_of_mem _⟩; rw [this]; exact ih
 unfold spec_l4Has.f; exact key 0 (by omega)
omit hmo in
theorem specP_l4 (S : List (List Int)) (t : Int) (b : Bool) (a : Int) (x10 : Int) (im : List Int) (him : im.length ≤ 8) (r : Bool) : ∀ j, j ≤ im.length → ∀ acc : List Int, acc.length ≤ 100000 + j →
  Ev (fun k => spec_IsPrimitiveMorphism.l3 k (R.length : Int) S t b a (ded acc (im.drop j)) (wrap64 (x10 + 1)) R) r → Ev (fun k => spec_IsPrimitiveMorphism.l4 k (R.length : Int) S t b a acc x10 im (j : Int) R) r := by
 refine down im.length ?_ ?_
 ·intro acc _ h; rw [List.drop_length] at h; have h : Ev (fun k => spec_IsPrimitiveMorphism.l3 k (R.length : Int) S t b a acc (wrap64 (x10 + 1)) R) r := h; exact Ev.step (fun k => by simp only [spec_IsPrimitiveMorphism.l4]; rw [_root_.if_neg (by omega)]) h
 ·intro j hj ih acc ha h; rw [drop_eq im j hj] at h; refine Ev.step (fun k => by simp only [spec_IsPrimitiveMorphism.l4]; rw [_root_.if_pos (by omega), _root_.if_pos (by omega), rd_get im j hj, wsucc (by omega)]) ?_; refine Ev.bind (has_ev acc im[j] (by omega)) ?_; have hd : ded acc (im[j] :: im.drop (j + 1)) = ded (if im[j] ∈ acc then acc else acc ++ [im[j]]) (im.drop (j + 1)) := rfl; rw [hd] at h; refine Ev.ite (fun q => ?_) (fun q => ?_)
  ·rw [_root_.if_pos (of_decide_eq_true q)] at h; exact ih acc (by omega) h
  ·rw [_root_.if_neg (fun hh => q (decide_eq_true hh))] at h; exact Ev.if_pos (by omega) (ih _ (by simp; omega) h)
omit hmo in
theorem ded_len : ∀ l acc : List Int, (ded acc l).length ≤ acc.length + l.length
 | [], acc => by simp [ded]
 | x :: l, acc => by
  have := ded_len l (if x ∈ acc then acc else acc ++ [x]); have h2 : (if x ∈ acc then acc else acc ++ [x]).length ≤ acc.length + 1 := by split <;> simp
  show (ded _ l).length ≤ _; simp only [List.length_cons]; omega
theorem specP_l3 (S : List (List Int)) (t : Int) (b : Bool) (a : Nat) (ha : a < S.length) (w : List Int) (hw : rd_L1 S (a : Int) = w) (hwl : w.length ≤ 1000) (hwr : ∀ y ∈ w, 0 ≤ y ∧ y < (R.length : Int)) (r : Bool) (hS : S.length ≤ 1000) : ∀ i, i ≤ w.length → ∀ acc : List Int, acc.length ≤ 8 * i →
  Ev (fun k => if b = true then spec_IsPrimitiveMorphism.l2 k (R.length : Int) (S.set a (nxt R acc (w.drop i))) t (((nxt R acc (w.drop i)).length : Int) == (R.length : Int)) ((a + 1 : Nat) : Int) R else spec_IsPrimitiveMorphism.l2 k (R.length : Int) (S.set a (nxt R acc (w.drop i))) t false ((a + 1 : Nat) : Int) R) r →
  Ev (fun k => spec_IsPrimitiveMorphism.l3 k (R.length : Int) S t b (a : Int) acc (i : Int) R) r := by
 refine down w.length ?_ ?_
 ·intro acc _ h; rw [List.drop_length] at h; have h : Ev (fun k => if b = true then spec_IsPrimitiveMorphism.l2 k (R.length : Int) (S.set a acc) t ((acc.length : Int) == (R.length : Int)) ((a + 1 : Nat) : Int) R else spec_IsPrimitiveMorphism.l2 k (R.length : Int) (S.set a acc) t false ((a + 1 : Nat) : Int) R) r := h; exact Ev.step (fun k => by simp only [spec_IsPrimitiveMorphism.l3]; rw [_root_.if_pos (by omega), _root_.if_pos (by omega), hw, _root_.if_neg (by omega), Option.bind_some, Int.toNat_natCast, wsucc (by omega)]) h
 ·intro i hi ih acc hacc h; have hx := hwr _ (List.getElem_mem hi); obtain ⟨x, hxe⟩ : ∃ x : Nat, w[i] = (x : Int) := ⟨w[i].toNat, by omega⟩; have hxl : x < R.length := by omega
  have h8 : (rd_L1 R w[i]).length ≤ 8 := by rw [hxe]; exact rd_image hmo x (by omega) (by omega)
  rw [drop_eq w i hi] at h; refine Ev.step (fun k => by simp only [spec_IsPrimitiveMorphism.l3]; rw [_root_.if_pos (by omega), _root_.if_pos (by omega), hw, _root_.if_pos (by omega), _root_.if_pos (by omega), rd_get w i hi, _root_.if_pos hx.1, _root_.if_pos hx.2]) ?_; refine specP_l4 R S t b a (i : Int) (rd_L1 R w[i]) h8 r 0 (Nat.zero_le _) acc (by omega) ?_; rw [List.drop_zero, wsucc (by omega)]; refine ih _ ?_ h; have := ded_len (rd_L1 R w[i]) acc; omega
def wh (R : List (List Int)) (t a : Nat) : Bool := (List.range a).all fun m => decide ((st R (t + 1) (m : Int)).length = R.length)
omit hmo in
theorem wh_succ (t a : Nat) : wh R t (a + 1) = (wh R t a && decide ((st R (t + 1) (a : Int)).length = R.length)) := by
 unfold wh; rw [List.range_succ, List.all_append]; simp
def anyF (P : Nat → Bool) : Nat → Nat → Bool
 | 0, _ => false
 | d + 1, t => P t || anyF P d (t + 1)
theorem specP_l2 (t : Nat) (ht : t ≤ 1000) (r : Bool) (hn : R.length ≤ 6) (h : Ev (fun k => if wh R t R.length = true then Option.some true else spec_IsPrimitiveMorphism.l1 k (R.length : Int) (mt R.length fun m => st R (t + 1) (m : Int)) ((t + 1 : Nat) : Int) R) r) :
  ∀ a, a ≤ R.length → Ev (fun k => spec_IsPrimitiveMorphism.l2 k (R.length : Int) (mt R.length fun m => if m < a then st R (t + 1) (m : Int) else st R t (m : Int)) (t : Int) (wh R t a) (a : Int) R) r := by
 refine down R.length ?_ ?_
 ·rw [show (mt R.length fun m => if m < R.length then st R (t + 1) (m : Int) else st R t (m : Int)) = (mt R.length fun m => st R (t + 1) (m : Int)) from mt_congr _ _ _ (fun i hi => by rw [_root_.if_pos hi])]; exact Ev.step (fun k => by simp only [spec_IsPrimitiveMorphism.l2]; rw [_root_.if_neg (by omega), wsucc (by omega)]) h
 ·intro a ha ih; refine Ev.step (fun k => by simp only [spec_IsPrimitiveMorphism.l2]; rw [_root_.if_pos (by omega)]) ?_; have hw : rd_L1 (mt R.length fun m => if m < a then st R (t + 1) (m : Int) else st R t (m : Int)) (a : Int) = st R t (a : Int) := by rw [rd_mt _ _ a ha, _root_.if_neg (by omega)]
  have hl := st_len R hmo t a ha; refine specP_l3 R hmo _ (t : Int) (wh R t a) a (by rw [mt_length]; exact ha) (st R t (a : Int)) hw (by omega) (st_range R hmo t _ (by omega) (by omega)) r (by rw [mt_length]; omega) 0 (Nat.zero_le _) [] (Nat.zero_le _) ?_; rw [List.drop_zero, mt_set]
  have e : (mt R.length fun m => if m = a then nxt R [] (st R t (a : Int)) else if m < a then st R (t + 1) (m : Int) else st R t (m : Int)) = (mt R.length fun m => if m < a + 1 then st R (t + 1) (m : Int) else st R t (m : Int)) := mt_congr _ _ _ (fun i hi => by
   by_cases q : i = a
   ·subst q; rw [_root_.if_pos rfl, _root_.if_pos (by omega)]; rfl
   ·rw [_root_.if_neg q]; by_cases q2 : i < a
    ·rw [_root_.if_pos q2, _root_.if_pos (by omega)]
    ·rw [_root_.if_neg q2, _root_.if_neg (by omega)])
  rw [e]; rw [wh_succ] at ih; refine Ev.ite (fun q => ?_) (fun q => ?_)
  ·rw [q, Bool.true_and] at ih; have e2 : (((nxt R [] (st R t (a : Int))).length : Int) == (R.length : Int)) = decide ((st R (t + 1) (a : Int)).length = R.length) := by
    show (((st R (t + 1) (a : Int)).length : Int) == (R.length : Int)) = _; by_cases q2 : (st R (t + 1) (a : Int)).length = R.length
    ·rw [decide_eq_true q2, q2]; simp
    ·rw [decide_eq_false q2]; exact beq_eq_false_iff_ne.2 (by omega)
   rw [e2]; exact ih
  ·rw [Bool.eq_false_iff.2 q, Bool.false_and] at ih; exact ih
theorem specP_l1 (hn : R.length ≤ 6) : ∀ d t, t + d = R.length * R.length → Ev (fun k => spec_IsPrimitiveMorphism.l1 k (R.length : Int) (mt R.length fun m => st R t (m : Int)) (t : Int) R) (anyF (fun t => wh R t R.length) d t) := by
 have hsq : R.length * R.length ≤ 36 := Nat.mul_le_mul hn hn; have hw : wrap64 ((R.length : Int) * (R.length : Int)) = ((R.length * R.length : Nat) : Int) := by rw [← Int.natCast_mul]; exact w_id (by omega) (by omega)
 intro d
 induction d with
 | zero =>
  intro t ht; exact Ev.step (fun k => by simp only [spec_IsPrimitiveMorphism.l1]; rw [hw, _root_.if_neg (by omega)]; rfl) (Ev.some _)
 | succ d ih =>
  intro t ht; refine Ev.step (fun k => by simp only [spec_IsPrimitiveMorphism.l1]; rw [hw, _root_.if_pos (by omega)]) ?_
  have := specP_l2 R hmo t (by omega) (anyF (fun t => wh R t R.length) (d + 1) t) hn (by
   show Ev _ (wh R t R.length || anyF (fun t => wh R t R.length) d (t + 1)); refine Ev.ite (fun q => ?_) (fun q => ?_)
   ·rw [q, Bool.true_or]; exact Ev.some _
   ·rw [Bool.eq_false_iff.2 q, Bool.false_or]; exact ih (t + 1) (by omega)) 0 (Nat.zero_le _)
  rw [show (mt R.length fun m => if m < 0 then st R (t + 1) (m : Int) else st R t (m : Int)) = (mt R.length fun m => st R t (m : Int)) from mt_congr _ _ _ (fun i hi => by rw [_root_.if_neg (by omega)])] at this; exact this
end prim
def pm (R : List (List Int)) : Bool := mo R && (decide (R.length ≤ 6) && anyF (fun t => wh R t R.length) (R.length * R.length) 0)
theorem specPM_ev (R : List (List Int)) (h : R.length ≤ 1048576) (ht : total R ≤ 1048576) : Ev (fun k => spec_IsPrimitiveMorphism.f k R) (pm R) := by
 have hm := specIsMorphism_ev R h ht; unfold spec_IsPrimitiveMorphism.f pm; refine Ev.bind hm ?_; refine Ev.ite (fun q => ?_) (fun q => ?_)
 ·rw [q, Bool.true_and]; by_cases q6 : R.length ≤ 6
  ·rw [decide_eq_true q6, Bool.true_and, decide_eq_false (by omega)]; refine Ev.step (fun k => by simp only [spec_IsPrimitiveMorphism.j0]; rw [_root_.if_neg (by simp)]) ?_; have l0 : ∀ i, i ≤ R.length → Ev (fun k => spec_IsPrimitiveMorphism.l0 k (R.length : Int) (mt i fun m => st R 0 (m : Int)) (i : Int) R) (anyF (fun t => wh R t R.length) (R.length * R.length) 0) := by
    refine down R.length ?_ ?_
    ·exact Ev.step (fun k => by simp only [spec_IsPrimitiveMorphism.l0]; rw [_root_.if_neg (by omega)]; rfl) (specP_l1 R q q6 _ 0 (by omega))
    ·intro i hi ih; rw [mt_succ] at ih; exact Ev.step (fun k => by simp only [spec_IsPrimitiveMorphism.l0]; rw [_root_.if_pos (by omega), _root_.if_pos (by rw [mt_length]; omega), wsucc (by omega)]; rfl) ih
   exact l0 0 (Nat.zero_le _)
  ·rw [decide_eq_false q6, Bool.false_and, decide_eq_true (by omega)]; exact Ev.step (fun k => by simp only [spec_IsPrimitiveMorphism.j0]; rw [_root_.if_pos trivial]) (Ev.some _)
 ·rw [Bool.eq_false_iff.2 q, Bool.false_and]; exact Ev.step (fun k => by simp only [spec_IsPrimitiveMorphism.j0]; rw [_root_.if_pos trivial]) (Ev.some _)
theorem rd_set (X : List (List Int)) (i : Nat) (v : List Int) (h : i < X.length) : rd_L1 (X.set i v) (i : Int) = v := by
 rw [rdLL _ i (by rw [List.length_set]; exact h), List.getElem_set_self]
def pk (h : List Int) (M : List (List Int)) : Nat → Nat → Int
 | 0, _ => 0
 | k + 1, j => mx (pk h M k j) (wrap64 (mn (rd h (k : Int)) 1 * mn (rd (rd_L1 M (k : Int)) (j : Int)) 1))
section loops
variable (M H : List (List Int)) (n : Nat) (hn : n ≤ 6) (hM : M.length = n) (hMr : ∀ i : Nat, i < n → (rd_L1 M (i : Int)).length = n) (hH : H.length = n) (hHr : ∀ i : Nat, i < n → (rd_L1 H (i : Int)).length = n) (N x36 : Int) (r : Bool)
include hn hM hMr hH hHr
omit hHr in
theorem implP_l5 (X : List (List Int)) (hX : X.length = n) (i : Nat) (hi : i < n) (k0 : Nat) (hk : k0 < n)
  (hc : Ev (fun k => impl_IsPrimitiveMorphism.l4 k M (n : Int) (X.set i (row n (pk (rd_L1 H (i : Int)) M (k0 + 1)))) (i : Int) N x36 H (n : Int) (i : Int) (rd_L1 H (i : Int)) (n : Int) ((k0 + 1 : Nat) : Int)) r) :
  ∀ j, j ≤ n → Ev (fun k => impl_IsPrimitiveMorphism.l5 k M (n : Int) (X.set i (row n fun m => if m < j then pk (rd_L1 H (i : Int)) M (k0 + 1) m else pk (rd_L1 H (i : Int)) M k0 m)) (i : Int) N x36 H (n : Int) (i : Int) (rd_L1 H (i : Int)) (n : Int) (k0 : Int) (rd_L1 M (k0 : Int)) (n : Int) (j : Int)) r := by
 have hiX : i < X.length := by omega
 have hm := hMr k0 hk; refine down n ?_ ?_
 ·rw [row_congr n (fun m => if m < n then pk (rd_L1 H (i : Int)) M (k0 + 1) m else pk (rd_L1 H (i : Int)) M k0 m) (pk (rd_L1 H (i : Int)) M (k0 + 1)) (fun m hm => by rw [_root_.if_pos hm])]; exact Ev.step (fun k => by simp only [impl_IsPrimitiveMorphism.l5]; rw [_root_.if_neg (by omega), wsucc (by omega)]) hc
 ·intro j hj ih
  refine Ev.step (fun k => by
   simp only [impl_IsPrimitiveMorphism.l5]
   rw [_root_.if_pos (by omega), _root_.if_pos (by omega), _root_.if_pos (by omega), _root_.if_pos (by omega), _root_.if_pos (by rw [List.length_set]; omega), rd_set X i _ hiX, _root_.if_pos (by rw [row_length]; omega), Int.toNat_natCast, Int.toNat_natCast, rd_row _ _ j hj, List.set_set, row_set, wsucc (by omega)]) ?_
  rw [row_congr n _ (fun m => if m < j + 1 then pk (rd_L1 H (i : Int)) M (k0 + 1) m else pk (rd_L1 H (i : Int)) M k0 m) (fun m hm => by
   by_cases q : m = j
   ·subst q; rw [_root_.if_pos rfl, _root_.if_neg (Nat.lt_irrefl m), _root_.if_pos (Nat.lt_succ_self m)]; rfl
   ·rw [_root_.if_neg q]; by_cases q2 : m < j
    ·rw [_root_.if_pos q2, _root_.if_pos (by omega)]
    ·rw [_root_.if_neg q2, _root_.if_neg (by omega)])]
  exact ih
theorem implP_l4 (X : List (List Int)) (hX : X.length = n) (i : Nat) (hi : i < n)
  (hc : Ev (fun k => impl_IsPrimitiveMorphism.l3 k M (n : Int) (X.set i (row n (pk (rd_L1 H (i : Int)) M n))) N x36 H (n : Int) ((i + 1 : Nat) : Int)) r) :
  ∀ k0, k0 ≤ n → Ev (fun k => impl_IsPrimitiveMorphism.l4 k M (n : Int) (X.set i (row n (pk (rd_L1 H (i : Int)) M k0))) (i : Int) N x36 H (n : Int) (i : Int) (rd_L1 H (i : Int)) (n : Int) (k0 : Int)) r := by
 have hh := hHr i hi; refine down n ?_ ?_
 ·exact Ev.step (fun k => by simp only [impl_IsPrimitiveMorphism.l4]; rw [_root_.if_neg (by omega), wsucc (by omega)]) hc
 ·intro k0 hk ih; have hm := hMr k0 hk; refine Ev.step (fun k => by simp only [impl_IsPrimitiveMorphism.l4]; rw [_root_.if_pos (by omega), _root_.if_pos (by omega), _root_.if_pos (by omega), _root_.if_pos (by omega), hm]) ?_; have := implP_l5 M H n hn hM hMr hH N x36 r X hX i hi k0 hk ih 0 (Nat.zero_le _); rw [row_congr n (fun m => if m < 0 then pk (rd_L1 H (i : Int)) M (k0 + 1) m else pk (rd_L1 H (i : Int)) M k0 m) (pk (rd_L1 H (i : Int)) M k0) (fun m _ => by rw [_root_.if_neg (by omega)])] at this; exact this
theorem implP_l3 (hc : Ev (fun k => impl_IsPrimitiveMorphism.l0 k M (n : Int) (mt n fun m => row n (pk (rd_L1 H (m : Int)) M n)) N (wrap64 (x36 + 1))) r) :
  ∀ i, i ≤ n → Ev (fun k => impl_IsPrimitiveMorphism.l3 k M (n : Int) (mt n fun m => if m < i then row n (pk (rd_L1 H (m : Int)) M n) else row n fun _ => 0) N x36 H (n : Int) (i : Int)) r := by
 refine down n ?_ ?_
 ·rw [mt_congr n _ (fun m => row n (pk (rd_L1 H (m : Int)) M n)) (fun m hm => by rw [_root_.if_pos hm])]; exact Ev.step (fun k => by simp only [impl_IsPrimitiveMorphism.l3]; rw [_root_.if_neg (by omega)]) hc
 ·intro i hi ih; have hh := hHr i hi; refine Ev.step (fun k => by simp only [impl_IsPrimitiveMorphism.l3]; rw [_root_.if_pos (by omega), _root_.if_pos (by omega), _root_.if_pos (by omega), hh]) ?_
  have := implP_l4 M H n hn hM hMr hH hHr N x36 r (mt n fun m => if m < i then row n (pk (rd_L1 H (m : Int)) M n) else row n fun _ => 0) (mt_length _ _) i hi (by
   rw [mt_set, mt_congr n _ (fun m => if m < i + 1 then row n (pk (rd_L1 H (m : Int)) M n) else row n fun _ => 0) (fun m hm => by
    by_cases q : m = i
    ·subst q; rw [_root_.if_pos rfl, _root_.if_pos (by omega)]
    ·rw [_root_.if_neg q]; by_cases q2 : m < i
     ·rw [_root_.if_pos q2, _root_.if_pos (by omega)]
     ·rw [_root_.if_neg q2, _root_.if_neg (by omega)])]
   exact ih) 0 (Nat.zero_le _)
  rw [mt_set, mt_congr n _ (fun m => if m < i then row n (pk (rd_L1 H (m : Int)) M n) else row n fun _ => 0) (fun m hm => by
   by_cases q : m = i
   ·subst q; rw [_root_.if_pos rfl, _root_.if_neg (by omega)]; rfl
   ·rw [_root_.if_neg q])] at this
  exact this
def posR (w : List Int) : Bool := w.all fun y => decide (y > 0)
omit hMr hHr in
theorem implP_l2 (i : Nat) (hi : i < n) (w : List Int) (hw : w.length ≤ 1000) : ∀ j, j ≤ w.length → ∀ b : Bool,
  Ev (fun k => impl_IsPrimitiveMorphism.l1 k M (n : Int) H (b && posR (w.drop j)) N x36 H (n : Int) ((i + 1 : Nat) : Int)) r → Ev (fun k => impl_IsPrimitiveMorphism.l2 k M (n : Int) H b N x36 H (n : Int) (i : Int) w (w.length : Int) (j : Int)) r := by
 refine down w.length ?_ ?_
 ·intro b h; rw [List.drop_length, show posR [] = true from rfl, Bool.and_true] at h; exact Ev.step (fun k => by simp only [impl_IsPrimitiveMorphism.l2]; rw [_root_.if_neg (by omega), wsucc (by omega)]) h
 ·intro j hj ih b h; rw [drop_eq w j hj] at h; have e : posR (w[j] :: w.drop (j + 1)) = (decide (w[j] > 0) && posR (w.drop (j + 1))) := rfl; rw [e] at h; refine Ev.step (fun k => by simp only [impl_IsPrimitiveMorphism.l2]; rw [_root_.if_pos (by omega), _root_.if_pos (by omega), _root_.if_pos (by omega), rd_get w j hj, wsucc (by omega)]) ?_; refine Ev.ite (fun q => ?_) (fun q => ?_)
  ·rw [q, Bool.true_and] at h; exact ih _ h
  ·rw [Bool.eq_false_iff.2 q, Bool.false_and] at h; exact ih _ (by rw [Bool.false_and]; exact h)
omit hM hMr hH hHr in
theorem square_ev : Ev (fun k => impl_square.f k (n : Int)) (mt n fun _ => row n fun _ => 0) := by
 have key : ∀ i, i ≤ n → Ev (fun k => impl_square.l0 k (n : Int) (mt i fun _ => row n fun _ => 0) (n : Int) (i : Int)) (mt n fun _ => row n fun _ => 0) := by
  refine down n ?_ ?_
  ·exact Ev.step (fun k => by simp only [impl_square.l0]; rw [_root_.if_neg (by omega)]) (Ev.some _)
  ·intro i hi ih; rw [mt_succ] at ih; exact Ev.step (fun k => by simp only [impl_square.l0]; rw [_root_.if_pos (by omega), _root_.if_pos (by omega), _root_.if_pos (by omega), _root_.if_pos (by rw [mt_length]; omega), Int.toNat_natCast, row_replicate, wsucc (by omega)]) ih
 unfold impl_square.f; exact key 0 (Nat.zero_le _)
theorem implP_l1 (hc : Ev (fun k => if (H.all posR) = true then Option.some true else impl_IsPrimitiveMorphism.l0 k M (n : Int) (mt n fun m => row n (pk (rd_L1 H (m : Int)) M n)) N (wrap64 (x36 + 1))) r) :
  ∀ i, i ≤ n → ∀ b : Bool, (b && (H.drop i).all posR) = H.all posR → Ev (fun k => impl_IsPrimitiveMorphism.l1 k M (n : Int) H b N x36 H (n : Int) (i : Int)) r := by
 refine down n ?_ ?_
 ·intro b hb; rw [List.drop_eq_nil_of_le (by omega), List.all_nil, Bool.and_true] at hb; subst hb; refine Ev.step (fun k => by simp only [impl_IsPrimitiveMorphism.l1]; rw [_root_.if_neg (by omega), hH]) ?_; by_cases q : H.all posR = true
  ·have hc2 : Ev (fun _ => Option.some true) r := Ev.congr (fun k => by rw [_root_.if_pos q]) hc; exact Ev.if_pos q hc2
  ·have hc2 : Ev (fun k => impl_IsPrimitiveMorphism.l0 k M (n : Int) (mt n fun m => row n (pk (rd_L1 H (m : Int)) M n)) N (wrap64 (x36 + 1))) r := Ev.congr (fun k => by rw [_root_.if_neg q]) hc; refine Ev.if_neg q (Ev.bind (square_ev n hn) ?_); have := implP_l3 M H n hn hM hMr hH hHr N x36 r hc2 0 (Nat.zero_le _); rw [mt_congr n _ (fun _ => row n fun _ => 0) (fun m _ => by rw [_root_.if_neg (by omega)])] at this; exact this
 ·intro i hi ih b hb; rw [drop_eq H i (by omega), List.all_cons] at hb; have hr := rdLL H i (by omega); have hh := hHr i hi; refine Ev.step (fun k => by simp only [impl_IsPrimitiveMorphism.l1]; rw [_root_.if_pos (by omega), _root_.if_pos (by omega), _root_.if_pos (by omega)]) ?_; refine implP_l2 M H n hn hM hH N x36 r i hi (rd_L1 H (i : Int)) (by omega) 0 (Nat.zero_le _) b ?_; rw [List.drop_zero]; refine ih _ ?_; rw [hr, Bool.and_assoc]; exact hb
end loops
/-- What the program's matrices hold. -/
def hs (R : List (List Int)) : Nat → Nat → List Int
 | 0, i => rd_L1 (inc R) (i : Int)
 | t + 1, i => row R.length (pk (hs R t i) (inc R) R.length)
section prim
variable (R : List (List Int)) (hmo : mo R = true) (hn6 : R.length ≤ 6)
include hmo
theorem inc_n : (inc R).length = R.length := by unfold inc; rw [_root_.if_pos hmo, List.length_map]
theorem inc_row (i : Nat) (hi : i < R.length) : rd_L1 (inc R) (i : Int) = row R.length fun b => (cnt (rd_L1 R (i : Int)) (b : Int) : Int) := by
 rw [rdLL (inc R) i (by rw [inc_n R hmo]; exact hi)]; simp only [inc, hmo, if_true, List.getElem_map]; rw [rdLL R i hi]; rfl
omit hmo in
theorem cnt_pos (w : List Int) (b : Int) : (0 : Int) < (cnt w b : Int) ↔ b ∈ w := by
 unfold cnt; rw [Int.natCast_pos, List.countP_pos_iff]; constructor
 ·rintro ⟨x, hx, h⟩; rw [← of_decide_eq_true h]; exact hx
 ·intro h; exact ⟨b, h, decide_eq_true rfl⟩
theorem hs_len : ∀ t (i : Nat), i < R.length → (hs R t i).length = R.length
 | 0, i, hi => by show (rd_L1 (inc R) (i : Int)).length = _; rw [inc_row R hmo i hi, row_length]
 | t + 1, i, hi => row_length _ _
omit hmo in
theorem mn_one (x : Int) (hx : 0 ≤ x) : mn x 1 = if 0 < x then 1 else 0 := by
 unfold mn; by_cases q : 1 < x
 ·rw [_root_.if_pos q, _root_.if_pos (by omega)]
 ·rw [_root_.if_neg q]; by_cases q2 : 0 < x
  ·rw [_root_.if_pos q2]; omega
  ·rw [_root_.if_neg q2]; omega
omit hmo in
theorem pk_pos (h : List Int) (M : List (List Int)) (n : Nat) (hh : ∀ k : Nat, k < n → 0 ≤ rd h (k : Int)) (hM : ∀ k j : Nat, k < n → j < n → 0 ≤ rd (rd_L1 M (k : Int)) (j : Int)) (j : Nat) (hj : j < n) : ∀ k, k ≤ n → 0 ≤ pk h M k j ∧ (0 < pk h M k j ↔ ∃ m : Nat, m < k ∧ 0 < rd h (m : Int) ∧ 0 < rd (rd_L1 M (m : Int)) (j : Int))
 | 0, _ => ⟨Int.le_refl 0, fun h => absurd h (Int.lt_irrefl 0), fun ⟨m, hm, _⟩ => absurd hm (Nat.not_lt_zero m)⟩
 | k + 1, hk => by
  obtain ⟨h0, h1⟩ := pk_pos h M n hh hM j hj k (by omega); have a := hh k (by omega); have b := hM k j (by omega) hj; have e : pk h M (k + 1) j = mx (pk h M k j) (wrap64 (mn (rd h (k : Int)) 1 * mn (rd (rd_L1 M (k : Int)) (j : Int)) 1)) := rfl; rw [e, mn_one _ a, mn_one _ b]; have key : wrap64 ((if 0 < rd h (k : Int) then (1 : Int) else 0) * (if 0 < rd (rd_L1 M (k : Int)) (j : Int) then (1 : Int) else 0)) = if 0 < rd h (k : Int) ∧ 0 < rd (rd_L1 M (k : Int)) (j : Int) then 1 else 0 := by
   by_cases q1 : 0 < rd h (k : Int) <;> by_cases q2 : 0 < rd (rd_L1 M (k : Int)) (j : Int) <;> simp [q1, q2, wrap64]
  rw [key]; unfold mx; by_cases q : 0 < rd h (k : Int) ∧ 0 < rd (rd_L1 M (k : Int)) (j : Int)
  ·rw [_root_.if_pos q]; refine ⟨by split <;> omega, fun _ => ⟨k, by omega, q⟩, fun _ => by split <;> omega⟩
  ·rw [_root_.if_neg q, _root_.if_neg (by omega)]; refine ⟨h0, fun h => ?_, fun h => ?_⟩
   ·obtain ⟨m, hm, h2⟩ := h1.1 h; exact ⟨m, by omega, h2⟩
   ·obtain ⟨m, hm, h2⟩ := h; rcases Nat.lt_or_eq_of_le (Nat.le_of_lt_succ hm) with h3 | h3
    ·exact h1.2 ⟨m, h3, h2⟩
    ·subst h3; exact absurd h2 q
theorem inc_at (i j : Nat) (hi : i < R.length) (hj : j < R.length) : 0 ≤ rd (rd_L1 (inc R) (i : Int)) (j : Int) ∧ (0 < rd (rd_L1 (inc R) (i : Int)) (j : Int) ↔ (j : Int) ∈ rd_L1 R (i : Int)) := by
 rw [inc_row R hmo i hi, rd_row _ _ j hj]; exact ⟨Int.natCast_nonneg _, cnt_pos _ _⟩
theorem hs_pos : ∀ t (i j : Nat), i < R.length → j < R.length → 0 ≤ rd (hs R t i) (j : Int) ∧ (0 < rd (hs R t i) (j : Int) ↔ (j : Int) ∈ st R (t + 1) (i : Int))
 | 0, i, j, hi, hj => by
  have h := inc_at R hmo i j hi hj; refine ⟨h.1, h.2.trans ?_⟩; show _ ↔ (j : Int) ∈ nxt R [] [(i : Int)]; rw [nxt_mem]; simp
 | t + 1, i, j, hi, hj => by
  have ih := fun m (hm : m < R.length) => hs_pos t i m hi hm
  have h := pk_pos (hs R t i) (inc R) R.length (fun k hk => (ih k hk).1) (fun k j hk hj => (inc_at R hmo k j hk hj).1) j hj R.length (Nat.le_refl _); show 0 ≤ rd (row R.length (pk (hs R t i) (inc R) R.length)) (j : Int) ∧ (0 < rd (row R.length (pk (hs R t i) (inc R) R.length)) (j : Int) ↔ (j : Int) ∈ nxt R [] (st R (t + 1) (i : Int))); rw [rd_row _ _ j hj, nxt_mem]; refine ⟨h.1, h.2.trans ⟨fun ⟨m, hm, h1, h2⟩ => .inr ⟨(m : Int), (ih m hm).2.1 h1, (inc_at R hmo m j hm hj).2.1 h2⟩, fun hx => ?_⟩⟩; rcases hx with hx | ⟨x, hx, hy⟩
  ·cases hx
  ·have hr := st_range R hmo (t + 1) (i : Int) (by omega) (by omega) x hx; obtain ⟨m, rfl⟩ : ∃ m : Nat, x = (m : Int) := ⟨x.toNat, by omega⟩; exact ⟨m, by omega, (ih m (by omega)).2.2 hx, (inc_at R hmo m j (by omega) hj).2.2 hy⟩
theorem hs_all (t : Nat) : (mt R.length (hs R t)).all posR = wh R t R.length := by
 rw [Bool.eq_iff_iff]; unfold wh mt posR; rw [List.all_map, List.all_eq_true, List.all_eq_true]; have one : ∀ i, i < R.length → ((hs R t i).all (fun y => decide (y > 0)) = true ↔ (st R (t + 1) (i : Int)).length = R.length) := fun i hi => by
  rw [(full_iff _ _ (st_nodup R (t + 1) (i : Int)) (st_range R hmo (t + 1) (i : Int) (by omega) (by omega))).2, List.all_eq_true]; have hl := hs_len R hmo t i hi; constructor
  ·intro h j hj; refine (hs_pos R hmo t i j hi hj).2.1 ?_; rw [rd_get _ j (by omega)]; exact of_decide_eq_true (h _ (List.getElem_mem _))
  ·intro h y hy; obtain ⟨j, hj, rfl⟩ := List.mem_iff_getElem.1 hy; have := (hs_pos R hmo t i j hi (by omega)).2.2 (h j (by omega)); rw [rd_get _ j hj] at this; exact decide_eq_true this
 constructor
 ·intro h i hi; exact decide_eq_true ((one i (List.mem_range.1 hi)).1 (h i hi))
 ·intro h i hi; exact (one i (List.mem_range.1 hi)).2 (of_decide_eq_true (h i hi))
include hn6
theorem implP_l0 : ∀ d t, t + d = R.length * R.length → Ev (fun k => impl_IsPrimitiveMorphism.l0 k (inc R) (R.length : Int) (mt R.length (hs R t)) ((R.length * R.length : Nat) : Int) (t : Int)) (anyF (fun t => wh R t R.length) d t) := by
 have hsq : R.length * R.length ≤ 36 := Nat.mul_le_mul hn6 hn6; intro d
 induction d with
 | zero =>
  intro t ht; exact Ev.step (fun k => by simp only [impl_IsPrimitiveMorphism.l0]; rw [_root_.if_neg (by omega)]; rfl) (Ev.some _)
 | succ d ih =>
  intro t ht; have hM := inc_n R hmo; have e : (mt R.length fun m => row R.length (pk (rd_L1 (mt R.length (hs R t)) (m : Int)) (inc R) R.length)) = mt R.length (hs R (t + 1)) := mt_congr _ _ _ (fun m hm => by rw [rd_mt _ _ m hm]; rfl); refine Ev.step (fun k => by simp only [impl_IsPrimitiveMorphism.l0]; rw [_root_.if_pos (by omega), mt_length]) ?_; refine implP_l1 (inc R) (mt R.length (hs R t)) R.length hn6 hM (fun i hi => by rw [inc_row R hmo i hi, row_length]) (mt_length _ _) (fun i hi => by rw [rd_mt _ _ i hi]; exact hs_len R hmo t i hi) _ (t : Int) _ ?_ 0 (Nat.zero_le _) true (by rw [Bool.true_and, List.drop_zero]); rw [e, wsucc (by omega), hs_all R hmo t]; show Ev _ (wh R t R.length || anyF (fun t => wh R t R.length) d (t + 1)); refine Ev.ite (fun q => ?_) (fun q => ?_)
  ·rw [q, Bool.true_or]; exact Ev.some _
  ·rw [Bool.eq_false_iff.2 q, Bool.false_or]; exact ih (t + 1) (by omega)
end prim
theorem implPM_ev (R : List (List Int)) (h : R.length ≤ 1048576) (ht : total R ≤ 1048576) : Ev (fun k => impl_IsPrimitiveMorphism.f k R) (pm R) := by
 unfold impl_IsPrimitiveMorphism.f pm; refine Ev.bind (implInc_ev R h ht) ?_; refine Ev.ite (fun q => ?_) (fun q => ?_)
 ·have q : mo R = true := q; rw [q, Bool.true_and]; dsimp only; have hM := inc_n R q; by_cases q6 : R.length ≤ 6
  ·rw [decide_eq_true q6, Bool.true_and, hM, decide_eq_false (by omega)]; have hsq : R.length * R.length ≤ 36 := Nat.mul_le_mul q6 q6; have hw : wrap64 ((R.length : Int) * (R.length : Int)) = ((R.length * R.length : Nat) : Int) := by rw [← Int.natCast_mul]; exact w_id (by omega) (by omega)
   have e : mt R.length (hs R 0) = inc R := by
    apply List.ext_getElem
    ·rw [mt_length, hM]
    ·intro i h1 h2; rw [mt_length] at h1; rw [mt_get _ _ i h1]; exact rdLL _ i h2
   have := implP_l0 R q q6 (R.length * R.length) 0 (by omega); rw [e] at this; exact Ev.step (fun k => by simp only [impl_IsPrimitiveMorphism.j0]; rw [_root_.if_neg (by simp), hw]; rfl) this
  ·rw [decide_eq_false q6, Bool.false_and, hM, decide_eq_true (by omega)]; exact Ev.step (fun k => by simp only [impl_IsPrimitiveMorphism.j0]; rw [_root_.if_pos trivial]) (Ev.some _)
 ·have q : ¬ mo R = true := q; rw [Bool.eq_false_iff.2 q, Bool.false_and]; exact Ev.step (fun k => by simp only [impl_IsPrimitiveMorphism.j0]; rw [_root_.if_pos trivial]) (Ev.some _)
end Go.Proofs.Ytooamcjgejajeaa.M
/- How many of each letter there are after some steps: program and reference tell the same. No condition but lengths that fit. -/
namespace Go.Proofs.Ytooamcjgejajeaa.M
open Go.RowKit Go.Proofs.YtooamcjgejajeaaW.PrintWords Go.Proofs.Ytooamcjgejajeaa.K
set_option linter.unusedVariables false
/-- What has been added up in place y when x rows are done. -/
def acc (t : List (List Int)) (r : List Int) : Nat → Nat → Int
 | 0, _ => 0
 | x + 1, y => wrap64 (acc t r x y + wrap64 (rd r (x : Int) * rd (rd_L1 t (x : Int)) (y : Int)))
def stp (t : List (List Int)) (r : List Int) : List Int := row t.length (acc t r t.length)
def its (t : List (List Int)) : Nat → List Int → List Int
 | 0, r => r
 | n + 1, r => its t n (stp t r)
theorem stp_len (t : List (List Int)) (r : List Int) : (stp t r).length = t.length := row_length _ _
theorem its_len (t : List (List Int)) : ∀ n (r : List Int), r.length = t.length → (its t n r).length = t.length
 | 0, r, h => h
 | n + 1, r, h => its_len t n _ (stp_len t r)
def unit1 (L : Nat) (a : Int) : List Int := (List.replicate L 0).set a.toNat 1
def la (ms : List (List Int)) (a n : Int) : List Int × Bool := if mo ms = true ∧ (0 ≤ a ∧ a < ((inc ms).length : Int)) ∧ 0 ≤ n ∧ n ≤ 12 then (its (inc ms) n.toNat (unit1 (inc ms).length a), true) else ([], false)
/-- A part of a round: places below y hold what they hold behind the row x. -/
def mid (t : List (List Int)) (r : List Int) (x y : Nat) : List Int := row t.length fun z => if z < y then acc t r (x + 1) z else acc t r x z
theorem mid_zero (t : List (List Int)) (r : List Int) (x : Nat) : mid t r x 0 = row t.length (acc t r x) := row_congr _ _ _ (fun z _ => by simp)
theorem mid_full (t : List (List Int)) (r : List Int) (x : Nat) : mid t r x t.length = row t.length (acc t r (x + 1)) := row_congr _ _ _ (fun z h => by simp [h])
theorem mid_len (t : List (List Int)) (r : List Int) (x y : Nat) : (mid t r x y).length = t.length := row_length _ _
theorem mid_set (t : List (List Int)) (r : List Int) (x y : Nat) (h : y < t.length) :
  (mid t r x y).set ((y : Int) : Int).toNat (wrap64 (rd (mid t r x y) (y : Int) + wrap64 (rd r (x : Int) * rd (rd_L1 t (x : Int)) (y : Int)))) = mid t r x (y + 1) := by
 unfold mid; rw [Int.toNat_natCast, rd_row _ _ _ h, row_set]; refine row_congr _ _ _ (fun z hz => ?_); rw [_root_.if_neg (Nat.lt_irrefl y)]; by_cases e : z = y
 ·subst e; rw [_root_.if_pos rfl, _root_.if_pos (by omega)]; rfl
 ·rw [_root_.if_neg e]; by_cases q : z < y
  ·rw [_root_.if_pos q, _root_.if_pos (by omega)]
  ·rw [_root_.if_neg q, _root_.if_neg (by omega)]
theorem specLA_loop (t : List (List Int)) (n : Nat) (hn : n ≤ 1000) (hL : t.length ≤ 1000) (hT : ∀ i : Nat, i < t.length → (rd_L1 t (i : Int)).length = t.length) :
  ∀ i, i ≤ n → ∀ r : List Int, r.length = t.length → Ev (fun k => spec_LettersAfter.l0 k (n : Int) t r (i : Int)) (its t (n - i) r, true) := by
 have l2 : ∀ (i x : Nat) (r : List Int) (R : List Int × Bool), x < t.length → r.length = t.length → Ev (fun k => spec_LettersAfter.l1 k (n : Int) t r (i : Int) (mid t r x t.length) ((x + 1 : Nat) : Int)) R →
   ∀ y, y ≤ t.length → Ev (fun k => spec_LettersAfter.l2 k (n : Int) t r (i : Int) (mid t r x y) (x : Int) (y : Int)) R := by
  intro i x r R hx hr h0; refine down t.length ?_ ?_
  ·refine Ev.step (fun k => by simp only [spec_LettersAfter.l2]; rw [_root_.if_neg (by omega), wsucc (by omega)]) h0
  ·intro y hy ih
   refine Ev.step (fun k => by
    simp only [spec_LettersAfter.l2]
    rw [_root_.if_pos (by omega), _root_.if_pos (by omega), _root_.if_pos (by rw [mid_len]; omega), _root_.if_pos (by omega), _root_.if_pos (by omega), _root_.if_pos (by omega), _root_.if_pos (by rw [hT x hx]; omega), mid_set t r x y hy, wsucc (by omega)]) ih
 have l1 : ∀ (i : Nat) (r : List Int) (R : List Int × Bool), i < n → r.length = t.length → Ev (fun k => spec_LettersAfter.l0 k (n : Int) t (stp t r) ((i + 1 : Nat) : Int)) R →
   ∀ x, x ≤ t.length → Ev (fun k => spec_LettersAfter.l1 k (n : Int) t r (i : Int) (row t.length (acc t r x)) (x : Int)) R := by
  intro i r R hi hr h0; refine down t.length ?_ ?_
  ·refine Ev.step (fun k => by simp only [spec_LettersAfter.l1]; rw [_root_.if_neg (by omega), wsucc (by omega)]; rfl) h0
  ·intro x hx ih; refine Ev.step (fun k => by simp only [spec_LettersAfter.l1]; rw [_root_.if_pos (by omega)]) ?_; rw [← mid_zero]; rw [← mid_full] at ih; exact l2 i x r R hx hr ih 0 (by omega)
 refine down n ?_ ?_
 ·intro r hr; refine Ev.step (fun k => by simp only [spec_LettersAfter.l0]; rw [_root_.if_neg (by omega)]) ?_; rw [Nat.sub_self]; exact Ev.some _
 ·intro i hi ih r hr; refine Ev.step (fun k => by simp only [spec_LettersAfter.l0]; rw [_root_.if_pos (by omega), _root_.if_pos (by omega), _root_.if_pos (by omega), Int.toNat_natCast, row_replicate]) ?_; have := ih (stp t r) (stp_len t r); rw [show n - i = (n - (i + 1)) + 1 from by omega]; exact l1 i r _ hi hr this 0 (by omega)
theorem implLA_loop (t : List (List Int)) (n : Nat) (hn : n ≤ 1000) (hL : t.length ≤ 1000) (hT : ∀ i : Nat, i < t.length → (rd_L1 t (i : Int)).length = t.length) :
  ∀ i, i ≤ n → ∀ r : List Int, r.length = t.length → Ev (fun k => impl_LettersAfter.l0 k t r (n : Int) (i : Int)) (its t (n - i) r, true) := by
 have l2 : ∀ (i x : Nat) (r : List Int) (R : List Int × Bool), x < t.length → r.length = t.length → Ev (fun k => impl_LettersAfter.l1 k t (mid t r x t.length) (n : Int) (i : Int) r (r.length : Int) ((x + 1 : Nat) : Int)) R →
   ∀ y, y ≤ t.length → Ev (fun k => impl_LettersAfter.l2 k t (mid t r x y) (rd r (x : Int)) (n : Int) (i : Int) r (r.length : Int) (x : Int) (rd_L1 t (x : Int)) ((rd_L1 t (x : Int)).length : Int) (y : Int)) R := by
  intro i x r R hx hr h0; refine down t.length ?_ ?_
  ·refine Ev.step (fun k => by simp only [impl_LettersAfter.l2]; rw [_root_.if_neg (by rw [hT x hx]; omega), wsucc (by omega)]) h0
  ·intro y hy ih
   refine Ev.step (fun k => by
    simp only [impl_LettersAfter.l2]
    rw [_root_.if_pos (by rw [hT x hx]; omega), _root_.if_pos (by omega), _root_.if_pos (by rw [hT x hx]; omega), _root_.if_pos (by rw [mid_len]; omega), mid_set t r x y hy, wsucc (by omega)]) ih
 have l1 : ∀ (i : Nat) (r : List Int) (R : List Int × Bool), i < n → r.length = t.length → Ev (fun k => impl_LettersAfter.l0 k t (stp t r) (n : Int) ((i + 1 : Nat) : Int)) R →
   ∀ x, x ≤ t.length → Ev (fun k => impl_LettersAfter.l1 k t (row t.length (acc t r x)) (n : Int) (i : Int) r (r.length : Int) (x : Int)) R := by
  intro i r R hi hr h0; refine down t.length ?_ ?_
  ·refine Ev.step (fun k => by simp only [impl_LettersAfter.l1]; rw [_root_.if_neg (by omega), wsucc (by omega)]; rfl) h0
  ·intro x hx ih; refine Ev.step (fun k => by simp only [impl_LettersAfter.l1]; rw [_root_.if_pos (by omega), _root_.if_pos (by omega), _root_.if_pos (by omega), _root_.if_pos (by omega)]) ?_; rw [← mid_zero]; rw [← mid_full] at ih; exact l2 i x r R hx hr ih 0 (by omega)
 refine down n ?_ ?_
 ·intro r hr; refine Ev.step (fun k => by simp only [impl_LettersAfter.l0]; rw [_root_.if_neg (by omega)]) ?_; rw [Nat.sub_self]; exact Ev.some _
 ·intro i hi ih r hr; refine Ev.step (fun k => by simp only [impl_LettersAfter.l0]; rw [_root_.if_pos (by omega), _root_.if_pos (by omega), _root_.if_pos (by omega), Int.toNat_natCast, row_replicate, hr]) ?_; have := ih (stp t r) (stp_len t r); rw [show n - i = (n - (i + 1)) + 1 from by omega]; have := l1 i r _ hi hr this 0 (by omega); rw [hr] at this; exact this
theorem inc_rows (ms : List (List Int)) : ∀ i : Nat, i < (inc ms).length → (rd_L1 (inc ms) (i : Int)).length = (inc ms).length := by
 intro i hi; rw [rdLL _ i hi]; have h1 := (inc_len ms).2 _ (List.getElem_mem hi); have h2 : (inc ms).length = ms.length := by
  unfold inc at hi ⊢; split
  ·rw [List.length_map]
  ·rename_i q; rw [_root_.if_neg q] at hi; simp at hi
 rw [h1.1, h2]
theorem specLA_ev (ms : List (List Int)) (a1 a2 : Int) (h : ms.length ≤ 1048576) (ht : total ms ≤ 1048576) : Ev (fun k => spec_LettersAfter.f k ms a1 a2) (la ms a1 a2) := by
 have hi := specInc_ev ms h ht; have hT := inc_rows ms; have hl := (inc_len ms).1; unfold spec_LettersAfter.f la; refine Ev.bind hi ?_; generalize inc ms = t at hT hl; dsimp only; have bad : ¬ (mo ms = true ∧ (0 ≤ a1 ∧ a1 < (t.length : Int)) ∧ 0 ≤ a2 ∧ a2 ≤ 12) → Ev (fun k => spec_LettersAfter.j0 k a1 a2 t true) (if mo ms = true ∧ (0 ≤ a1 ∧ a1 < (t.length : Int)) ∧ 0 ≤ a2 ∧ a2 ≤ 12 then (its t a2.toNat (unit1 t.length a1), true) else ([], false)) := fun q => by
  rw [_root_.if_neg q]; refine Ev.step (fun k => by simp only [spec_LettersAfter.j0]; rw [_root_.if_pos trivial]) ?_; exact Ev.some _
 refine Ev.ite (fun q1 => ?_) (fun q1 => bad (fun h => q1 h.1)); refine Ev.ite (fun q2 => bad (fun h => by omega)) (fun q2 => ?_); refine Ev.ite (fun q3 => bad (fun h => by omega)) (fun q3 => ?_); refine Ev.bind (Ev.val (l1In_val _ _ _)) ?_; by_cases q4 : 0 ≤ a2 ∧ a2 ≤ 12
 ·rw [decide_eq_true q4, _root_.if_pos ⟨q1, ⟨by omega, by omega⟩, q4⟩]; obtain ⟨n, rfl⟩ : ∃ n : Nat, a2 = (n : Int) := ⟨a2.toNat, by omega⟩; refine Ev.step (fun k => by simp only [spec_LettersAfter.j0]; rw [_root_.if_neg (by simp), _root_.if_pos (by omega), _root_.if_pos (by omega), Int.toNat_natCast]) ?_; refine Ev.bind (Ev.some _) (Ev.if_pos (by omega) (Ev.if_pos (by rw [List.length_replicate]; omega) ?_)); have := specLA_loop t n (by omega) (by omega) hT 0 (by omega) (unit1 t.length a1) (by unfold unit1; rw [List.length_set, List.length_replicate]); rw [Nat.sub_zero] at this; rw [Int.toNat_natCast]; exact this
 ·rw [decide_eq_false q4]; exact bad (fun h => q4 h.2.2)
theorem implLA_ev (ms : List (List Int)) (a1 a2 : Int) (h : ms.length ≤ 1048576) (ht : total ms ≤ 1048576) : Ev (fun k => impl_LettersAfter.f k ms a1 a2) (la ms a1 a2) := by
 have hi := implInc_ev ms h ht; have hT := inc_rows ms; have hl := (inc_len ms).1; unfold impl_LettersAfter.f la; refine Ev.bind hi ?_; generalize inc ms = t at hT hl; dsimp only; have bad : ¬ (mo ms = true ∧ (0 ≤ a1 ∧ a1 < (t.length : Int)) ∧ 0 ≤ a2 ∧ a2 ≤ 12) → Ev (fun k => impl_LettersAfter.j0 k a1 a2 t true) (if mo ms = true ∧ (0 ≤ a1 ∧ a1 < (t.length : Int)) ∧ 0 ≤ a2 ∧ a2 ≤ 12 then (its t a2.toNat (unit1 t.length a1), true) else ([], false)) := fun q => by
  rw [_root_.if_neg q]; refine Ev.step (fun k => by simp only [impl_LettersAfter.j0]; rw [_root_.if_pos trivial]) ?_; exact Ev.some _
 refine Ev.ite (fun q1 => ?_) (fun q1 => bad (fun h => q1 h.1)); refine Ev.ite (fun q2 => bad (fun h => by omega)) (fun q2 => ?_); refine Ev.ite (fun q3 => bad (fun h => by omega)) (fun q3 => ?_); refine Ev.ite (fun q4 => bad (fun h => by omega)) (fun q4 => ?_); by_cases q5 : a2 > 12
 ·rw [decide_eq_true q5]; exact bad (fun h => by omega)
 ·rw [decide_eq_false q5, _root_.if_pos ⟨q1, ⟨by omega, by omega⟩, by omega, by omega⟩]; obtain ⟨n, rfl⟩ : ∃ n : Nat, a2 = (n : Int) := ⟨a2.toNat, by omega⟩; refine Ev.step (fun k => by simp only [impl_LettersAfter.j0]; rw [_root_.if_neg (by simp), _root_.if_pos (by omega), _root_.if_pos (by omega), Int.toNat_natCast]) ?_; refine Ev.bind (Ev.some _) (Ev.if_pos (by omega) (Ev.if_pos (by rw [List.length_replicate]; omega) ?_)); have := implLA_loop t n (by omega) (by omega) hT 0 (by omega) (unit1 t.length a1) (by unfold unit1; rw [List.length_set, List.length_replicate]); rw [Nat.sub_zero] at this; rw [Int.toNat_natCast]; exact this
theorem la_len (ms : List (List Int)) (a n : Int) : (la ms a n).1.length ≤ 16 := by
 unfold la; split
 ·have := (inc_len ms).1; rw [its_len _ _ _ (by unfold unit1; rw [List.length_set, List.length_replicate])]; exact this
 ·simp
/-- The same modulo 2^64. -/
def cg (a b : Int) : Prop := ∃ q : Int, a = b + q * 18446744073709551616
theorem cg_refl (a : Int) : cg a a := ⟨0, by omega⟩
theorem cg_symm {a b : Int} (h : cg a b) : cg b a := by obtain ⟨q, h⟩ := h; exact ⟨-q, by omega⟩
theorem cg_trans {a b c : Int} (h : cg a b) (k : cg b c) : cg a c := by obtain ⟨q, h⟩ := h; obtain ⟨p, k⟩ := k; exact ⟨q + p, by omega⟩
theorem cg_wrap (a : Int) : cg (wrap64 a) a := by
 unfold wrap64; exact ⟨-((a + 9223372036854775808) / 18446744073709551616), by omega⟩
theorem cg_add {a b c d : Int} (h : cg a b) (k : cg c d) : cg (a + c) (b + d) := by obtain ⟨q, h⟩ := h; obtain ⟨p, k⟩ := k; exact ⟨q + p, by omega⟩
theorem cg_mul_left {a b : Int} (c : Int) (h : cg a b) : cg (c * a) (c * b) := by
 obtain ⟨q, rfl⟩ := h; exact ⟨c * q, by rw [Int.mul_add, Int.mul_assoc]⟩
theorem cg_mul_right {a b : Int} (c : Int) (h : cg a b) : cg (a * c) (b * c) := by rw [Int.mul_comm a, Int.mul_comm b]; exact cg_mul_left c h
theorem cg_eq {a b : Int} (h : cg a b) (ha : -9223372036854775808 ≤ a ∧ a ≤ 9223372036854775807) (hb : -9223372036854775808 ≤ b ∧ b ≤ 9223372036854775807) : a = b := by
 obtain ⟨q, h⟩ := h; omega
theorem wrap_range (a : Int) : -9223372036854775808 ≤ wrap64 a ∧ wrap64 a ≤ 9223372036854775807 := by unfold wrap64; omega
def sm (f : Nat → Int) : Nat → Int
 | 0 => 0
 | n + 1 => sm f n + f n
theorem sm_cg (f g : Nat → Int) (n : Nat) (h : ∀ i, i < n → cg (f i) (g i)) : cg (sm f n) (sm g n) := by
 induction n with
 | zero => exact cg_refl _
 | succ n ih => exact cg_add (ih (fun i hi => h i (by omega))) (h n (by omega))
theorem sm_congr (f g : Nat → Int) (n : Nat) (h : ∀ i, i < n → f i = g i) : sm f n = sm g n := by
 induction n with
 | zero => rfl
 | succ n ih => simp only [sm]; rw [ih (fun i hi => h i (by omega)), h n (by omega)]
theorem sm_add (f g : Nat → Int) (n : Nat) : sm (fun i => f i + g i) n = sm f n + sm g n := by
 induction n with
 | zero => rfl
 | succ n ih => simp only [sm]; rw [ih]; omega
theorem sm_mul (c : Int) (f : Nat → Int) (n : Nat) : sm (fun i => c * f i) n = c * sm f n := by
 induction n with
 | zero => simp [sm]
 | succ n ih => simp only [sm]; rw [ih, Int.mul_add]
theorem sm_mul' (c : Int) (f : Nat → Int) (n : Nat) : sm (fun i => f i * c) n = sm f n * c := by
 rw [Int.mul_comm, ← sm_mul]; exact sm_congr _ _ _ (fun i _ => Int.mul_comm _ _)
theorem sm_zero (n : Nat) : sm (fun _ => 0) n = 0 := by
 induction n with
 | zero => rfl
 | succ n ih => simp only [sm]; rw [ih]; rfl
theorem sm_swap (f : Nat → Nat → Int) (m n : Nat) : sm (fun y => sm (fun x => f x y) m) n = sm (fun x => sm (fun y => f x y) n) m := by
 induction n with
 | zero => simp only [sm]; rw [sm_zero]
 | succ n ih => simp only [sm]; rw [ih, sm_add]
theorem acc_cg (t : List (List Int)) (r : List Int) (y : Nat) : ∀ x, cg (acc t r x y) (sm (fun x' => rd r (x' : Int) * rd (rd_L1 t (x' : Int)) (y : Int)) x)
 | 0 => cg_refl _
 | x + 1 => cg_trans (cg_wrap _) (cg_add (acc_cg t r y x) (cg_wrap _))
/-- What has been added up of the row i when k places are done. -/
def ac2 (t : List (List Int)) (v : List Int) (i : Nat) : Nat → Int
 | 0 => 0
 | k + 1 => wrap64 (ac2 t v i k + wrap64 (rd (rd_L1 t (i : Int)) (k : Int) * rd v (k : Int)))
theorem ac2_cg (t : List (List Int)) (v : List Int) (i : Nat) : ∀ k, cg (ac2 t v i k) (sm (fun k' => rd (rd_L1 t (i : Int)) (k' : Int) * rd v (k' : Int)) k)
 | 0 => cg_refl _
 | k + 1 => cg_trans (cg_wrap _) (cg_add (ac2_cg t v i k) (cg_wrap _))
theorem ac2_range (t : List (List Int)) (v : List Int) (i : Nat) : ∀ k, -9223372036854775808 ≤ ac2 t v i k ∧ ac2 t v i k ≤ 9223372036854775807
 | 0 => by simp [ac2]
 | k + 1 => wrap_range _
def mv (t : List (List Int)) (v : List Int) : List Int := row t.length fun i => ac2 t v i t.length
def pw (t : List (List Int)) : Nat → List Int → List Int
 | 0, v => v
 | n + 1, v => pw t n (mv t v)
theorem pw_mv (t : List (List Int)) : ∀ n v, pw t n (mv t v) = mv t (pw t n v)
 | 0, v => rfl
 | n + 1, v => by simp only [pw]; exact pw_mv t n _
theorem mv_len (t : List (List Int)) (v : List Int) : (mv t v).length = t.length := row_length _ _
theorem pw_len (t : List (List Int)) : ∀ n v, v.length = t.length → (pw t n v).length = t.length
 | 0, v, h => h
 | n + 1, v, h => pw_len t n _ (mv_len t v)
def dot (L : Nat) (r v : List Int) : Int := sm (fun k => rd r (k : Int) * rd v (k : Int)) L
theorem dot_step (t : List (List Int)) (r v : List Int) : cg (dot t.length (stp t r) v) (dot t.length r (mv t v)) := by
 unfold dot; refine cg_trans (sm_cg _ (fun y => sm (fun x => rd r (x : Int) * rd (rd_L1 t (x : Int)) (y : Int)) t.length * rd v (y : Int)) _ (fun y hy => ?_)) ?_
 ·unfold stp; rw [rd_row _ _ _ hy]; exact cg_mul_right _ (acc_cg t r y _)
 ·refine cg_trans ?_ (sm_cg (fun x => rd r (x : Int) * sm (fun y => rd (rd_L1 t (x : Int)) (y : Int) * rd v (y : Int)) t.length) _ _ (fun x hx => ?_))
  ·rw [sm_congr _ (fun y => sm (fun x => rd r (x : Int) * rd (rd_L1 t (x : Int)) (y : Int) * rd v (y : Int)) t.length) _ (fun y _ => (sm_mul' _ _ _).symm), sm_swap]; rw [sm_congr _ (fun x => rd r (x : Int) * sm (fun y => rd (rd_L1 t (x : Int)) (y : Int) * rd v (y : Int)) t.length) _ (fun x _ => by rw [← sm_mul]; exact sm_congr _ _ _ (fun y _ => Int.mul_assoc _ _ _))]; exact cg_refl _
  ·unfold mv; rw [rd_row _ _ _ hx]; exact cg_mul_left _ (cg_symm (ac2_cg t v x _))
theorem dot_its (t : List (List Int)) (v : List Int) : ∀ n r, cg (dot t.length (its t n r) v) (dot t.length r (pw t n v))
 | 0, r => cg_refl _
 | n + 1, r => by
  simp only [its, pw]; refine cg_trans (dot_its t v n (stp t r)) ?_; rw [pw_mv]; exact dot_step t r _
/-- The sum of a row as the reference adds it up. -/
def ws (r : List Int) : Nat → Int
 | 0 => 0
 | b + 1 => wrap64 (ws r b + rd r (b : Int))
theorem ws_cg (r : List Int) : ∀ b, cg (ws r b) (sm (fun k => rd r (k : Int)) b)
 | 0 => cg_refl _
 | b + 1 => cg_trans (cg_wrap _) (cg_add (ws_cg r b) (cg_refl _))
theorem ws_range (r : List Int) : ∀ b, -9223372036854775808 ≤ ws r b ∧ ws r b ≤ 9223372036854775807
 | 0 => by simp [ws]
 | b + 1 => wrap_range _
def ones (L : Nat) : List Int := row L fun _ => 1
theorem dot_unit (L a : Nat) (v : List Int) (ha : a < L) : dot L (unit1 L (a : Int)) v = rd v (a : Int) := by
 unfold dot unit1; rw [Int.toNat_natCast, row_replicate, row_set]; have : ∀ n, n ≤ L → sm (fun k => rd (row L fun m => if m = a then (1 : Int) else 0) (k : Int) * rd v (k : Int)) n = if a < n then rd v (a : Int) else 0 := by
  intro n
  induction n with
  | zero => intro _; simp [sm]
  | succ n ih =>
   intro hn; simp only [sm]; rw [ih (by omega), rd_row _ _ _ (by omega)]; by_cases e : n = a
   ·subst e; rw [_root_.if_neg (by omega), _root_.if_pos rfl, _root_.if_pos (by omega), Int.one_mul, Int.zero_add]
   ·rw [_root_.if_neg e, Int.zero_mul, Int.add_zero]; by_cases q : a < n
    ·rw [_root_.if_pos q, _root_.if_pos (by omega)]
    ·rw [_root_.if_neg q, _root_.if_neg (by omega)]
 rw [this L (Nat.le_refl _), _root_.if_pos ha]
theorem pw_range (t : List (List Int)) (n a : Nat) (ha : a < t.length) : -9223372036854775808 ≤ rd (pw t n (ones t.length)) (a : Int) ∧ rd (pw t n (ones t.length)) (a : Int) ≤ 9223372036854775807 := by
 cases n with
 | zero => simp only [pw, ones]; rw [rd_row _ _ _ ha]; omega
 | succ n =>
  simp only [pw]; rw [pw_mv]; unfold mv; rw [rd_row _ _ _ ha]; exact ac2_range _ _ _ _
/-- Adding up the letters of the image of a letter is the incidence applied to ones. -/
theorem sum_is (t : List (List Int)) (n a : Nat) (ha : a < t.length) : ws (its t n (unit1 t.length (a : Int))) t.length = rd (pw t n (ones t.length)) (a : Int) := by
 refine cg_eq ?_ (ws_range _ _) (pw_range t n a ha); refine cg_trans (ws_cg _ _) ?_; have h1 := dot_its t (ones t.length) n (unit1 t.length (a : Int)); rw [dot_unit _ _ _ ha] at h1; unfold dot at h1; rw [sm_congr _ (fun k => rd (its t n (unit1 t.length (a : Int))) (k : Int)) _ (fun k hk => by unfold ones; rw [rd_row _ _ _ hk, Int.mul_one])] at h1; exact h1
def il (ms : List (List Int)) (n : Int) : List Int × Bool := if mo ms = true ∧ 0 ≤ n ∧ n ≤ 12 then (pw (inc ms) n.toNat (ones (inc ms).length), true) else ([], false)
theorem il_len (ms : List (List Int)) (n : Int) : (il ms n).1.length ≤ 16 := by
 unfold il; split
 ·have := (inc_len ms).1; rw [pw_len _ _ _ (by unfold ones; rw [row_length])]; exact this
 ·simp
theorem inc_length {ms : List (List Int)} (q : mo ms = true) : (inc ms).length = ms.length := by
 unfold inc; rw [_root_.if_pos q, List.length_map]
def ils (t : List (List Int)) (n i : Nat) : List Int := row i fun a => ws (its t n (unit1 t.length (a : Int))) t.length
theorem ils_full (t : List (List Int)) (n : Nat) : ils t n t.length = pw t n (ones t.length) := by
 unfold ils; rw [row_congr _ _ (fun a => (pw t n (ones t.length)).getD a 0) (fun a ha => by rw [sum_is t n a ha, rd_at])]; have h := pw_len t n (ones t.length) (by unfold ones; rw [row_length]); have := row_of (pw t n (ones t.length)); rw [h] at this; exact this
theorem specIL_ev (ms : List (List Int)) (a1 : Int) (h : ms.length ≤ 1048576) (ht : total ms ≤ 1048576) : Ev (fun k => spec_ImageLengths.f k ms a1) (il ms a1) := by
 unfold spec_ImageLengths.f; have hM := specIsMorphism_ev ms h ht; by_cases q : mo ms = true ∧ 0 ≤ a1 ∧ a1 ≤ 12
 ·have hl := inc_length q.1; have h16 := (inc_len ms).1; have e : il ms a1 = (ils (inc ms) a1.toNat ms.length, true) := by
   unfold il; rw [_root_.if_pos q, ← ils_full, hl]
  rw [e]; rw [q.1] at hM; have l1 : ∀ (x6 : List Int) (i : Int) (r : List Int) (R : List Int × Bool), x6.length ≤ 1048576 → r.length ≤ 1048576 → Ev (fun k => spec_ImageLengths.l0 k a1 (x6 ++ [ws r r.length]) (wrap64 (i + 1)) ms) R → ∀ b, b ≤ r.length → Ev (fun k => spec_ImageLengths.l1 k a1 x6 i r (ws r b) (b : Int) ms) R := by
   intro x6 i r R h6 hr h0; refine down r.length ?_ ?_
   ·refine Ev.step (fun k => by simp only [spec_ImageLengths.l1]; rw [_root_.if_neg (by omega), _root_.if_pos (by omega)]) h0
   ·intro b hb ih; refine Ev.step (fun k => by simp only [spec_ImageLengths.l1]; rw [_root_.if_pos (by omega), _root_.if_pos (by omega), wsucc (by omega)]; rfl) ih
  have key : ∀ i, i ≤ ms.length → Ev (fun k => spec_ImageLengths.l0 k a1 (ils (inc ms) a1.toNat i) (i : Int) ms) (ils (inc ms) a1.toNat ms.length, true) := by
   refine down ms.length ?_ ?_
   ·refine Ev.step (fun k => by simp only [spec_ImageLengths.l0]; rw [_root_.if_neg (by omega)]) ?_; refine Ev.bind hM (Ev.if_pos rfl (Ev.bind (Ev.val (l1In_val _ _ _)) ?_)); rw [decide_eq_true (by omega)]; exact Ev.some _
   ·intro i hi ih; refine Ev.step (fun k => by simp only [spec_ImageLengths.l0]; rw [_root_.if_pos (by omega)]) ?_; refine Ev.bind (specLA_ev ms (i : Int) a1 h ht) ?_; have e : la ms (i : Int) a1 = (its (inc ms) a1.toNat (unit1 (inc ms).length (i : Int)), true) := by
     unfold la; rw [_root_.if_pos ⟨q.1, ⟨by omega, by omega⟩, q.2.1, q.2.2⟩]
    rw [e]; have hlen : (its (inc ms) a1.toNat (unit1 (inc ms).length (i : Int))).length = (inc ms).length := its_len _ _ _ (by unfold unit1; rw [List.length_set, List.length_replicate]); refine Ev.if_pos rfl ?_; dsimp only; refine l1 _ _ _ _ (by unfold ils; rw [row_length]; omega) (by omega) ?_ 0 (by omega); rw [wsucc (by omega), hlen]; have : ils (inc ms) a1.toNat (i + 1) = ils (inc ms) a1.toNat i ++ [ws (its (inc ms) a1.toNat (unit1 (inc ms).length (i : Int))) (inc ms).length] := by unfold ils; rw [row_succ]
    rw [← this]; exact ih
  exact key 0 (by omega)
 ·have e : il ms a1 = ([], false) := by unfold il; rw [_root_.if_neg q]
  rw [e]; refine Ev.step (fun k => by simp only [spec_ImageLengths.l0]; rfl) ?_; refine Ev.ite (fun q1 => ?_) (fun q1 => ?_)
  ·refine Ev.bind (specLA_ev ms 0 a1 h ht) ?_; have e : la ms 0 a1 = ([], false) := by
    unfold la; rw [_root_.if_neg (fun x => q ⟨x.1, x.2.2.1, x.2.2.2⟩)]
   rw [e]; exact Ev.if_neg (by simp) (Ev.some _)
  ·refine Ev.bind hM (Ev.if_neg ?_ (Ev.some _)); intro x; have : 1 ≤ ms.length := by unfold mo at x; rw [Bool.and_eq_true] at x; exact (of_decide_eq_true x.1).1
   omega
def fil (t : List (List Int)) (v : List Int) (i k : Nat) : List Int := row t.length fun j => if j < i then ac2 t v j t.length else if j = i then ac2 t v i k else 0
theorem fil_set (t : List (List Int)) (v : List Int) (i k : Nat) (hi : i < t.length) :
  (fil t v i k).set ((i : Int) : Int).toNat (wrap64 (rd (fil t v i k) (i : Int) + wrap64 (rd (rd_L1 t (i : Int)) (k : Int) * rd v (k : Int)))) = fil t v i (k + 1) := by
 unfold fil; rw [Int.toNat_natCast, rd_row _ _ _ hi, row_set]; refine row_congr _ _ _ (fun j hj => ?_); by_cases e : j = i
 ·subst e; rw [_root_.if_pos rfl, _root_.if_neg (Nat.lt_irrefl j), _root_.if_pos rfl, _root_.if_neg (Nat.lt_irrefl j), _root_.if_pos rfl]; rfl
 ·rw [_root_.if_neg e, _root_.if_neg e, _root_.if_neg e]
theorem fil_next (t : List (List Int)) (v : List Int) (i : Nat) (hi : i < t.length) : fil t v i t.length = fil t v (i + 1) 0 := by
 unfold fil; refine row_congr _ _ _ (fun j hj => ?_); by_cases e : j = i
 ·subst e; rw [_root_.if_neg (Nat.lt_irrefl j), _root_.if_pos rfl, _root_.if_pos (by omega)]
 ·by_cases q : j < i
  ·rw [_root_.if_pos q, _root_.if_pos (by omega)]
  ·rw [_root_.if_neg q, _root_.if_neg e, _root_.if_neg (by omega)]; split <;> rfl
theorem fil_last (t : List (List Int)) (v : List Int) : fil t v t.length 0 = mv t v := by
 unfold fil mv; exact row_congr _ _ _ (fun j hj => by rw [_root_.if_pos hj])
theorem fil_first (t : List (List Int)) (v : List Int) : fil t v 0 0 = List.replicate t.length 0 := by
 rw [row_replicate]; unfold fil; exact row_congr _ _ _ (fun j hj => by rw [_root_.if_neg (by omega)]; split <;> rfl)
theorem fil_length (t : List (List Int)) (v : List Int) (i k : Nat) : (fil t v i k).length = t.length := row_length _ _
theorem implIL_loop (t : List (List Int)) (n : Nat) (hn : n ≤ 1000) (hL : t.length ≤ 1000) (hT : ∀ i : Nat, i < t.length → (rd_L1 t (i : Int)).length = t.length) :
  ∀ i, i ≤ n → ∀ v : List Int, v.length = t.length → Ev (fun k => impl_ImageLengths.l1 k t v (n : Int) (i : Int)) (pw t (n - i) v, true) := by
 have l3 : ∀ (i j : Nat) (v : List Int) (R : List Int × Bool), j < t.length → v.length = t.length → Ev (fun k => impl_ImageLengths.l2 k t v (fil t v (j + 1) 0) (n : Int) (i : Int) t (t.length : Int) ((j + 1 : Nat) : Int)) R →
   ∀ y, y ≤ t.length → Ev (fun k => impl_ImageLengths.l3 k t v (fil t v j y) (j : Int) (n : Int) (i : Int) t (t.length : Int) (j : Int) (rd_L1 t (j : Int)) ((rd_L1 t (j : Int)).length : Int) (y : Int)) R := by
  intro i j v R hj hv h0; refine down t.length ?_ ?_
  ·rw [fil_next t v j hj]; refine Ev.step (fun k => by simp only [impl_ImageLengths.l3]; rw [_root_.if_neg (by rw [hT j hj]; omega), wsucc (by omega)]) h0
  ·intro y hy ih
   refine Ev.step (fun k => by
    simp only [impl_ImageLengths.l3]
    rw [_root_.if_pos (by rw [hT j hj]; omega), _root_.if_pos (by omega), _root_.if_pos (by rw [hT j hj]; omega), _root_.if_pos (by omega), _root_.if_pos (by rw [fil_length]; omega), _root_.if_pos (by omega), fil_set t v j y hj, wsucc (by omega)]) ih
 have l2 : ∀ (i : Nat) (v : List Int) (R : List Int × Bool), i < n → v.length = t.length → Ev (fun k => impl_ImageLengths.l1 k t (mv t v) (n : Int) ((i + 1 : Nat) : Int)) R →
   ∀ j, j ≤ t.length → Ev (fun k => impl_ImageLengths.l2 k t v (fil t v j 0) (n : Int) (i : Int) t (t.length : Int) (j : Int)) R := by
  intro i v R hi hv h0; refine down t.length ?_ ?_
  ·rw [fil_last]; refine Ev.step (fun k => by simp only [impl_ImageLengths.l2]; rw [_root_.if_neg (by omega), wsucc (by omega)]) h0
  ·intro j hj ih; refine Ev.step (fun k => by simp only [impl_ImageLengths.l2]; rw [_root_.if_pos (by omega), _root_.if_pos (by omega), _root_.if_pos (by omega)]) ?_; exact l3 i j v R hj hv ih 0 (by omega)
 refine down n ?_ ?_
 ·intro v hv; refine Ev.step (fun k => by simp only [impl_ImageLengths.l1]; rw [_root_.if_neg (by omega)]) ?_; rw [Nat.sub_self]; exact Ev.some _
 ·intro i hi ih v hv; refine Ev.step (fun k => by simp only [impl_ImageLengths.l1]; rw [_root_.if_pos (by omega), _root_.if_pos (by omega), _root_.if_pos (by omega), Int.toNat_natCast, hv, ← fil_first t v]) ?_; have := ih (mv t v) (mv_len t v); rw [show n - i = (n - (i + 1)) + 1 from by omega]; exact l2 i v _ hi hv this 0 (by omega)
theorem implIL_ev (ms : List (List Int)) (a1 : Int) (h : ms.length ≤ 1048576) (ht : total ms ≤ 1048576) : Ev (fun k => impl_ImageLengths.f k ms a1) (il ms a1) := by
 have hi := implInc_ev ms h ht; have hT := inc_rows ms; have hl := (inc_len ms).1; unfold impl_ImageLengths.f il; refine Ev.bind hi ?_; generalize inc ms = t at hT hl; dsimp only; have bad : ¬ (mo ms = true ∧ 0 ≤ a1 ∧ a1 ≤ 12) → Ev (fun k => impl_ImageLengths.j0 k a1 t true) (if mo ms = true ∧ 0 ≤ a1 ∧ a1 ≤ 12 then (pw t a1.toNat (ones t.length), true) else ([], false)) := fun q => by
  rw [_root_.if_neg q]; refine Ev.step (fun k => by simp only [impl_ImageLengths.j0]; rw [_root_.if_pos trivial]) ?_; exact Ev.some _
 refine Ev.ite (fun q1 => ?_) (fun q1 => bad (fun h => q1 h.1)); refine Ev.ite (fun q2 => bad (fun h => by omega)) (fun q2 => ?_); by_cases q3 : a1 > 12
 ·rw [decide_eq_true q3]; exact bad (fun h => by omega)
 ·rw [decide_eq_false q3, _root_.if_pos ⟨q1, by omega, by omega⟩]; obtain ⟨n, rfl⟩ : ∃ n : Nat, a1 = (n : Int) := ⟨a1.toNat, by omega⟩; refine Ev.step (fun k => by simp only [impl_ImageLengths.j0]; rw [_root_.if_neg (by simp), _root_.if_pos (by omega), _root_.if_pos (by omega), Int.toNat_natCast]) ?_; refine Ev.bind (Ev.some _) ?_; rw [List.length_replicate, Int.toNat_natCast]; have key : ∀ i, i ≤ t.length → Ev (fun k => impl_ImageLengths.l0 k (n : Int) t (row t.length fun j => if j < i then 1 else 0) (t.length : Int) (i : Int)) (pw t n (ones t.length), true) := by
   refine down t.length ?_ ?_
   ·refine Ev.step (fun k => by simp only [impl_ImageLengths.l0]; rw [_root_.if_neg (by omega)]) ?_; have e : (row t.length fun j => if j < t.length then (1 : Int) else 0) = ones t.length := row_congr _ _ _ (fun j hj => _root_.if_pos hj); rw [e]; have := implIL_loop t n (by omega) (by omega) hT 0 (by omega) (ones t.length) (by unfold ones; rw [row_length]); rw [Nat.sub_zero] at this; exact this
   ·intro i hi ih; have e : (row t.length fun j => if j < i then (1 : Int) else 0).set i 1 = row t.length fun j => if j < i + 1 then (1 : Int) else 0 := by
     rw [row_set]; refine row_congr _ _ _ (fun j hj => ?_); by_cases e : j = i
     ·rw [_root_.if_pos e, _root_.if_pos (by omega)]
     ·rw [_root_.if_neg e]; by_cases q : j < i
      ·rw [_root_.if_pos q, _root_.if_pos (by omega)]
      ·rw [_root_.if_neg q, _root_.if_neg (by omega)]
    refine Ev.step (fun k => by simp only [impl_ImageLengths.l0]; rw [_root_.if_pos (by omega), _root_.if_pos (by omega), _root_.if_pos (by rw [row_length]; omega), wsucc (by omega), Int.toNat_natCast, e]) ih
  have := key 0 (by omega); have e : (row t.length fun j => if j < 0 then (1 : Int) else 0) = List.replicate t.length 0 := by rw [row_replicate]; exact row_congr _ _ _ (fun j _ => by simp)
  rw [e] at this; exact this
set_option maxRecDepth 100000
def eqPart (w : List Int) (i p L : Nat) : Bool := decide (i + p + L ≤ w.length) && decide ((w.drop i).take L = (w.drop (i + p)).take L)
def ovB (w : List Int) : Bool := (List.range w.length).any fun i => (List.range w.length).any fun p => eqPart w i (p + 1) (p + 2)
theorem eqPart_iff (w : List Int) (i p L : Nat) (hL : 1 ≤ L) : eqPart w i p L = true ↔ per w p i L := by
 unfold eqPart; rw [Bool.and_eq_true, decide_eq_true_eq, decide_eq_true_eq]; constructor
 ·rintro ⟨hb, h⟩; refine fun t ht => ⟨by omega, ?_⟩
  have h1 : ((w.drop i).take L)[t]? = ((w.drop (i + p)).take L)[t]? := by rw [h]
  rw [List.getElem?_take_of_lt ht, List.getElem?_take_of_lt ht, List.getElem?_drop, List.getElem?_drop] at h1; rw [List.getD_eq_getElem?_getD, List.getD_eq_getElem?_getD, h1, show i + t + p = i + p + t from by omega]
 ·intro h; have hb := per_bound h (by omega); refine ⟨by omega, List.ext_getElem (by simp; omega) (fun t h1 h2 => ?_)⟩; simp only [List.length_take, List.length_drop] at h1 h2; have := (h t (by omega)).2; rw [List.getD_eq_getElem?_getD, List.getD_eq_getElem?_getD, List.getElem?_eq_getElem (by omega), List.getElem?_eq_getElem (by omega)] at this; simp only [Option.getD_some] at this; rw [List.getElem_take, List.getElem_drop, List.getElem_take, List.getElem_drop, this]; congr 1; omega
theorem ovB_iff (w : List Int) : ovB w = true ↔ ∃ i p, 1 ≤ p ∧ per w p i (p + 1) := by
 unfold ovB; simp only [List.any_eq_true, List.mem_range]; constructor
 ·rintro ⟨i, _, p, _, h⟩; exact ⟨i, p + 1, by omega, (eqPart_iff w i _ _ (by omega)).1 h⟩
 ·rintro ⟨i, p, hp, h⟩; have hb := per_bound h (by omega); refine ⟨i, by omega, p - 1, by omega, ?_⟩; rw [show p - 1 + 1 = p from by omega, show p - 1 + 2 = p + 1 from by omega]; exact (eqPart_iff w i p (p + 1) (by omega)).2 h
theorem overlap_is (w : List Int) (hw : w.length ≤ 128) : hasOverlap w = ovB w := by
 rw [Bool.eq_iff_iff, hasOverlap_iff, ovB_iff]; constructor
 ·rintro ⟨_, i, p, L, h1, h2, h3⟩; exact ⟨i, p, h1, per_le h2 (by omega)⟩
 ·rintro ⟨i, p, h1, h2⟩; exact ⟨hw, i, p, p + 1, h1, h2, by omega⟩
theorem fw_congr (m : Nat) (p q : List Int → Bool) (N : Nat) (h : ∀ w : List Int, w.length ≤ N → p w = q w) : ∀ n, n ≤ N → fw m p n = fw m q n
 | 0, _ => rfl
 | n + 1, hn => by
  have ih := fw_congr m p q N h n (by omega); show fwStep m _ (fw m _ n) = fwStep m _ (fw m _ n); rw [ih]; have hl := fw_len m q n; generalize fw m q n = ws at hl; unfold fwStep ext; have key : ∀ ws : List (List Int), (∀ u ∈ ws, u.length = n) → (ws.flatMap fun word => ((List.range m).map fun (a : Nat) => word ++ [(a : Int)]).filter p) = ws.flatMap fun word => ((List.range m).map fun (a : Nat) => word ++ [(a : Int)]).filter q := by
   intro ws
   induction ws with
   | nil => intro _; rfl
   | cons u ws ih2 =>
    intro hu; rw [List.flatMap_cons, List.flatMap_cons, ih2 (fun v hv => hu v (List.mem_cons_of_mem _ hv))]; congr 1; refine List.filter_congr fun v hv => ?_
    obtain ⟨a, _, rfl⟩ := List.mem_map.1 hv; have := hu u (List.mem_cons_self ..); exact h _ (by simp; omega)
  exact key ws hl
def ovN (w : List Int) : Bool := !ovB w
theorem fw_ovN (m n : Nat) (h : n ≤ 100) : fw m (tst true) n = fw m ovN n :=
 fw_congr m _ _ 100 (fun w hw => by unfold tst ovN; rw [_root_.if_pos rfl, overlap_is w (by omega)]) n h
theorem and255 (n : Int) : bits .and .i64 n 255 = n % 256 := by
 have h1 : (BitVec.ofInt 64 n &&& BitVec.ofInt 64 255).toNat = (n % 18446744073709551616).toNat % 256 := by
  rw [BitVec.toNat_and, BitVec.toNat_ofInt]; exact Nat.and_two_pow_sub_one_eq_mod _ 8
 have h2 : bits .and .i64 n 255 = IntKind.i64.wrap (((BitVec.ofInt 64 n &&& BitVec.ofInt 64 255).toNat : Nat) : Int) := rfl; rw [h2, h1, IntKind.wrap_i64]; omega
theorem byte_val (s : List Int) (i h : Int) (h0 : 0 ≤ i) (h1 : i ≤ s.length) (hs : s.length ≤ 1048576) : ∃ r i' h', spec_l1Byte.f s i h = some (r, i', h') ∧ 0 ≤ r ∧ r ≤ 255 ∧ 0 ≤ i' ∧ i' ≤ (s.length : Int) := by
 unfold spec_l1Byte.f; by_cases q : i < (s.length : Int)
 ·rw [_root_.if_pos q, _root_.if_pos h0]; refine ⟨_, _, _, rfl, ?_, ?_, ?_, ?_⟩
  ·rw [and255]; omega
  ·rw [and255]; omega
  ·rw [w_id (by omega) (by omega)]; omega
  ·rw [w_id (by omega) (by omega)]; omega
 ·rw [_root_.if_neg q]; refine ⟨_, _, _, rfl, ?_, ?_, h0, h1⟩
  ·rw [and255]; omega
  ·rw [and255]; omega
theorem below_val (s : List Int) (i h n : Int) (h0 : 0 ≤ i) (h1 : i ≤ s.length) (hs : s.length ≤ 1048576) (hn : 1 ≤ n) (hn2 : n ≤ 256) : ∃ r i' h', spec_l1Below.f s i h n = some (r, i', h') ∧ 0 ≤ r ∧ r < n ∧ 0 ≤ i' ∧ i' ≤ (s.length : Int) := by
 obtain ⟨r, i', h', e, r0, r1, i0, i1⟩ := byte_val s i h h0 h1 hs; unfold spec_l1Below.f; rw [_root_.if_neg (by omega), _root_.if_pos hn2, e, Option.bind_some, _root_.if_neg (by omega)]; refine ⟨_, _, _, rfl, ?_, ?_, i0, i1⟩
 ·dsimp only; rw [Int.tmod_eq_emod_of_nonneg r0]; exact Int.emod_nonneg _ (by omega)
 ·dsimp only; rw [Int.tmod_eq_emod_of_nonneg r0]; exact Int.emod_lt_of_pos _ (by omega)
theorem new_ev (s : List Int) (hs : s.length ≤ 1048576) : ∃ h, Ev (fun k => spec_l1New.f k s) (s, 0, h) := by
 have key : ∀ d i : Nat, i + d = s.length → ∀ h : Int, ∃ h', Ev (fun k => spec_l1New.l0 k s h (i : Int)) (s, 0, h') := by
  intro d
  induction d with
  | zero =>
   intro i hi h; exact ⟨h, Ev.step (fun k => by simp only [spec_l1New.l0]; rw [_root_.if_neg (by omega)]) (Ev.some _)⟩
  | succ d ih =>
   intro i hi h; by_cases q : (i : Int) < 4000
   ·obtain ⟨h', hE⟩ := ih (i + 1) (by omega) _; exact ⟨h', Ev.step (fun k => by simp only [spec_l1New.l0]; rw [_root_.if_pos (by omega), _root_.if_pos q, _root_.if_pos (by omega), wsucc (i := i) (by omega)]) hE⟩
   ·exact ⟨h, Ev.step (fun k => by simp only [spec_l1New.l0]; rw [_root_.if_pos (by omega), _root_.if_neg q]) (Ev.some _)⟩
 unfold spec_l1New.f; exact key s.length 0 (by omega) _
theorem once_val (s : List Int) (i h n : Int) (h0 : 0 ≤ i) (h1 : i ≤ s.length) (hs : s.length ≤ 1048576) (hn : 1 ≤ n) (hn2 : n ≤ 256) : ∃ r i' h', spec_l1Once.f s i h n = some (r, i', h') ∧ 0 ≤ i' ∧ i' ≤ (s.length : Int) := by
 obtain ⟨r, i', h', e, r0, r1, i0, i1⟩ := below_val s i h n h0 h1 hs hn hn2; unfold spec_l1Once.f; rw [e]; exact ⟨_, _, _, rfl, i0, i1⟩
theorem pick_val (s : List Int) (i h : Int) (l : List Int) (h0 : 0 ≤ i) (h1 : i ≤ s.length) (hs : s.length ≤ 1048576) (hl : 1 ≤ l.length) (hl2 : l.length ≤ 256) : ∃ r i' h', spec_l1PickInt.f s i h l = some (r, i', h') ∧ 0 ≤ i' ∧ i' ≤ (s.length : Int) := by
 obtain ⟨r, i', h', e, r0, r1, i0, i1⟩ := below_val s i h (l.length : Int) h0 h1 hs (by omega) (by omega); unfold spec_l1PickInt.f; rw [e, Option.bind_some]; dsimp only; rw [_root_.if_pos r0, _root_.if_pos r1]; exact ⟨_, _, _, rfl, i0, i1⟩
def MR (R : List (List Int)) : Prop := (1 ≤ R.length ∧ R.length ≤ 3) ∧ (∀ x ∈ R, x.length ≤ 4) ∧ ∀ x ∈ R.drop 1, x.length ≤ 3
theorem l7m_ev (s : List Int) (i h : Int) (h0 : 0 ≤ i) (h1 : i ≤ s.length) (hs : s.length ≤ 1048576) : ∃ R i' h', Ev (fun k => spec_l7Morphism.f k s i h) (R, i', h') ∧ MR R ∧ 0 ≤ i' ∧ i' ≤ (s.length : Int) := by
 have key : ∀ n : Nat, 1 ≤ n → n ≤ 3 → ∀ (d : Nat) (acc : List (List Int)) (i h : Int), acc.length + d = n → (∀ x ∈ acc, x.length ≤ 3) → 0 ≤ i → i ≤ s.length → ∃ R i' h', Ev (fun k => spec_l7Morphism.l0 k (n : Int) (acc.length : Int) s i h acc) (R, i', h') ∧ MR R ∧ 0 ≤ i' ∧ i' ≤ (s.length : Int) := by
  intro n hn1 hn3 d
  induction d with
  | zero =>
   intro acc i h hl hx h0 h1; obtain ⟨r, i1, g1, e, i0, i9⟩ := once_val s i h 12 h0 h1 hs (by omega) (by omega); cases acc with
   | nil => simp only [List.length_nil] at hl; omega
   | cons a t =>
    have ha : a.length ≤ 3 := hx a (List.mem_cons_self ..); cases r with
    | false =>
     refine ⟨a :: t, i1, g1, Ev.step (fun k => by simp only [spec_l7Morphism.l0]; rw [_root_.if_neg (by omega), e, Option.bind_some, _root_.if_neg (by simp)]) (Ev.some _), ⟨⟨by omega, by omega⟩, fun x hx' => by have := hx x hx'; omega, fun x hx' => hx x (List.mem_of_mem_drop hx')⟩, i0, i9⟩
    | true =>
     obtain ⟨x, i2, g2, e2, j0, j1⟩ := pick_val s i1 g1 [-1, 4, 0] i0 i9 hs (by simp) (by simp)
     refine ⟨(a ++ [x]) :: t, i2, g2, Ev.step (fun k => by
      simp only [spec_l7Morphism.l0]; rw [_root_.if_neg (by omega), e, Option.bind_some, _root_.if_pos rfl, e2, Option.bind_some, _root_.if_pos (by simp), show rd_L1 (a :: t) 0 = a from rfl, _root_.if_pos (by omega)]
      rfl) (Ev.some _), ⟨⟨by simp only [List.length_cons] at hl ⊢; omega, by simp only [List.length_cons] at hl ⊢; omega⟩, fun y hy => ?_, fun y hy => hx y (List.mem_cons_of_mem _ hy)⟩, j0, j1⟩
     rcases List.mem_cons.1 hy with rfl | hy
     ·simp; omega
     ·have := hx y (List.mem_cons_of_mem _ hy); omega
  | succ d ih =>
   intro acc i h hl hx h0 h1; obtain ⟨r, i1, g1, e, r0, r1, i0, i9⟩ := below_val s i h 4 h0 h1 hs (by omega) (by omega); have inner : ∀ (m : Nat) (wd : List Int) (i h : Int), wd.length + m ≤ 3 → 0 ≤ i → i ≤ s.length → ∃ R i' h', Ev (fun k => spec_l7Morphism.l1 k (n : Int) (acc.length : Int) wd (m : Int) s i h acc) (R, i', h') ∧ MR R ∧ 0 ≤ i' ∧ i' ≤ (s.length : Int) := by
    intro m
    induction m with
    | zero =>
     intro wd i h hm h0 h1
     obtain ⟨R, i', h', hE, hR⟩ := ih (acc ++ [wd]) i h (by simp; omega) (fun x hx' => by
      rcases List.mem_append.1 hx' with hx' | hx'
      ·exact hx x hx'
      ·rw [List.mem_singleton.1 hx']; omega) h0 h1
     rw [List.length_append, List.length_cons, List.length_nil, Nat.zero_add] at hE; exact ⟨R, i', h', Ev.step (fun k => by simp only [spec_l7Morphism.l1]; rw [_root_.if_neg (by omega), _root_.if_pos (by omega), wsucc (by omega)]) hE, hR⟩
    | succ m ihm =>
     intro wd i h hm h0 h1; obtain ⟨r, i', h', e, r0, r1, i0, i1⟩ := below_val s i h (n : Int) h0 h1 hs (by omega) (by omega); obtain ⟨R, i2, h2, hE, hR⟩ := ihm (wd ++ [r]) i' h' (by simp; omega) i0 i1; exact ⟨R, i2, h2, Ev.step (fun k => by simp only [spec_l7Morphism.l1]; rw [_root_.if_pos (by omega), e, Option.bind_some, _root_.if_pos (by omega), w_id (a := ((m + 1 : Nat) : Int) - 1) (by omega) (by omega), show ((m + 1 : Nat) : Int) - 1 = (m : Int) from by omega]) hE, hR⟩
   obtain ⟨m, rfl⟩ : ∃ m : Nat, r = (m : Int) := ⟨r.toNat, by omega⟩; obtain ⟨R, i', h', hE, hR⟩ := inner m [] i1 g1 (by simp; omega) i0 i9; exact ⟨R, i', h', Ev.step (fun k => by simp only [spec_l7Morphism.l0]; rw [_root_.if_pos (by omega), e, Option.bind_some]) hE, hR⟩
 obtain ⟨r, i1, g1, e, r0, r1, i0, i9⟩ := below_val s i h 5 h0 h1 hs (by omega) (by omega); unfold spec_l7Morphism.f; have lit : ∀ R : List (List Int), MR R → ∃ R' i' h', Ev (fun _ => some (R, i1, g1)) (R', i', h') ∧ MR R' ∧ 0 ≤ i' ∧ i' ≤ (s.length : Int) := fun R hR => ⟨R, i1, g1, Ev.some _, hR, i0, i9⟩
 by_cases q0 : r = 0
 ·obtain ⟨R, a, b, hE, hR⟩ := lit [[0, 1], [1, 0]] ⟨by decide, by decide, by decide⟩; exact ⟨R, a, b, Ev.bind (Ev.val e) (Ev.if_pos q0 hE), hR⟩
 by_cases q1 : r = 1
 ·obtain ⟨R, a, b, hE, hR⟩ := lit [[0, 1], [0]] ⟨by decide, by decide, by decide⟩; exact ⟨R, a, b, Ev.bind (Ev.val e) (Ev.if_neg q0 (Ev.if_pos q1 hE)), hR⟩
 by_cases q2 : r = 2
 ·obtain ⟨R, a, b, hE, hR⟩ := lit [[0, 1, 2], [0, 2], [1]] ⟨by decide, by decide, by decide⟩; exact ⟨R, a, b, Ev.bind (Ev.val e) (Ev.if_neg q0 (Ev.if_neg q1 (Ev.if_pos q2 hE))), hR⟩
 obtain ⟨t, i2, g2, e2, t0, t1, j0, j1⟩ := below_val s i1 g1 3 i0 i9 hs (by omega) (by omega); obtain ⟨R, a, b, hE, hR⟩ := key (1 + t).toNat (by omega) (by omega) (1 + t).toNat [] i2 g2 (by simp) (by simp) j0 j1; have e3 : wrap64 (1 + t) = (((1 + t).toNat : Nat) : Int) := by rw [w_id (by omega) (by omega)]; omega
 refine ⟨R, a, b, Ev.bind (Ev.val e) (Ev.if_neg q0 (Ev.if_neg q1 (Ev.if_neg q2 (Ev.bind (Ev.val e2) ?_)))), hR⟩; dsimp only; rw [e3]; exact hE
theorem sameSelf_ev (x : List Int) (hx : x.length ≤ 1048576) : Ev (fun k => laws_sameInts.f k x x) true := by
 unfold laws_sameInts.f; refine Ev.if_pos rfl ?_; have key : ∀ i, i ≤ x.length → Ev (fun k => laws_sameInts.l0 k x x (i : Int)) true := by
  refine down x.length ?_ ?_
  ·exact Ev.step (fun k => by simp only [laws_sameInts.l0]; rw [_root_.if_neg (by omega)]) (Ev.some _)
  ·intro i hi ih; exact Ev.step (fun k => by simp only [laws_sameInts.l0]; rw [_root_.if_pos (by omega), _root_.if_pos (by omega), _root_.if_pos (by omega), _root_.if_pos trivial, wsucc (by omega)]) ih
 exact key 0 (by omega)
theorem wordsSelf_ev (x : List (List Int)) (hx : x.length ≤ 1048576) (hxx : ∀ y ∈ x, y.length ≤ 1048576) : Ev (fun k => laws_sameWords.f k x x) true := by
 unfold laws_sameWords.f; refine Ev.if_pos rfl ?_; have key : ∀ i, i ≤ x.length → Ev (fun k => laws_sameWords.l0 k x x (i : Int)) true := by
  refine down x.length ?_ ?_
  ·exact Ev.step (fun k => by simp only [laws_sameWords.l0]; rw [_root_.if_neg (by omega)]) (Ev.some _)
  ·intro i hi ih; refine Ev.step (fun k => by simp only [laws_sameWords.l0]; rw [_root_.if_pos (by omega), _root_.if_pos (by omega), _root_.if_pos (by omega), wsucc (by omega), rdLL x i hi]) ?_; exact Ev.bind (sameSelf_ev x[i] (hxx _ (List.getElem_mem hi))) (Ev.if_pos rfl ih)
 exact key 0 (by omega)
/-! Lengths of images. -/
def itw (R : List (List Int)) : Nat → List Int → List Int
 | 0, w => w
 | n + 1, w => itw R n (img R w)
def sw (v : List Int) : List Int → Int
 | [] => 0
 | x :: w => rd v x + sw v w
theorem sw_app (v : List Int) : ∀ u w, sw v (u ++ w) = sw v u + sw v w
 | [], w => by simp [sw]
 | x :: u, w => by simp only [sw, List.cons_append, sw_app v u w]; omega
theorem sm_delta (f : Nat → Int) (m : Nat) : ∀ n, sm (fun k => if k = m then f k else 0) n = if m < n then f m else 0
 | 0 => by simp [sm]
 | n + 1 => by
  have ih := sm_delta f m n; simp only [sm]; rw [ih]; by_cases q : m < n
  ·rw [_root_.if_pos q, _root_.if_neg (show ¬ n = m by omega), _root_.if_pos (by omega)]; omega
  ·by_cases q2 : n = m
   ·subst q2; rw [_root_.if_neg q, _root_.if_pos rfl, _root_.if_pos (by omega)]; omega
   ·rw [_root_.if_neg q, _root_.if_neg q2, _root_.if_neg (by omega)]; omega
theorem sw_cnt (v : List Int) (n : Nat) : ∀ u : List Int, isL u n = true → sw v u = sm (fun k => (cnt u (k : Int) : Int) * rd v (k : Int)) n
 | [], _ => by
  simp only [sw]; rw [sm_congr _ (fun _ => 0) n (fun i _ => by simp [cnt]), sm_zero]
 | x :: u, h => by
  rw [isL_cons, Bool.and_eq_true] at h; have hx := of_decide_eq_true h.1; obtain ⟨m, rfl⟩ : ∃ m : Nat, x = (m : Int) := ⟨x.toNat, by omega⟩; simp only [sw]
  rw [sw_cnt v n u h.2, sm_congr (fun k => (cnt ((m : Int) :: u) (k : Int) : Int) * rd v (k : Int)) (fun k => (if k = m then rd v (k : Int) else 0) + (cnt u (k : Int) : Int) * rd v (k : Int)) n (fun k _ => by
   unfold cnt; rw [List.countP_cons]; by_cases q : k = m
   ·subst q; rw [_root_.if_pos (by simp), _root_.if_pos rfl, Int.natCast_add, Int.add_mul]; simp; omega
   ·rw [_root_.if_neg (by simp; omega), _root_.if_neg q]; simp), sm_add, sm_delta, _root_.if_pos (by omega)]
section len
variable (R : List (List Int)) (hmo : mo R = true)
include hmo
theorem img_one (v : List Int) (x : Nat) (hx : x < R.length) : cg (sw v (rd_L1 R (x : Int))) (rd (mv (inc R) v) (x : Int)) := by
 have hl : isL (rd_L1 R (x : Int)) R.length = true := by
  unfold isL; rw [List.all_eq_true]; intro y hy; exact decide_eq_true (row_letters R hmo (x : Int) (by omega) (by omega) y hy)
 rw [sw_cnt v R.length _ hl]; unfold mv; rw [rd_row _ _ x (by rw [inc_n R hmo]; exact hx), inc_n R hmo]; refine cg_symm ?_; have h := ac2_cg (inc R) v x R.length; rw [sm_congr _ (fun k => (cnt (rd_L1 R (x : Int)) (k : Int) : Int) * rd v (k : Int)) _ (fun k hk => by rw [inc_row R hmo x hx, rd_row _ _ k hk])] at h; exact h
theorem img_letters (w : List Int) (hw : isL w R.length = true) : isL (img R w) R.length = true := by
 unfold isL at hw ⊢; rw [List.all_eq_true] at hw ⊢; intro y hy; unfold img at hy; obtain ⟨x, hx, hy⟩ := List.mem_flatMap.1 hy; have := of_decide_eq_true (hw x hx); exact decide_eq_true (row_letters R hmo x this.1 this.2 y hy)
theorem img_sw (v : List Int) : ∀ w : List Int, isL w R.length = true → cg (sw v (img R w)) (sw (mv (inc R) v) w)
 | [], _ => cg_refl _
 | x :: w, h => by
  rw [isL_cons, Bool.and_eq_true] at h; have hx := of_decide_eq_true h.1; obtain ⟨m, rfl⟩ : ∃ m : Nat, x = (m : Int) := ⟨x.toNat, by omega⟩; have e : img R ((m : Int) :: w) = rd_L1 R (m : Int) ++ img R w := by unfold img; rw [List.flatMap_cons]
  rw [e, sw_app]; exact cg_add (img_one R hmo v m (by omega)) (img_sw v w h.2)
theorem itw_sw (v : List Int) : ∀ (n : Nat) (w : List Int), isL w R.length = true → cg (sw v (itw R n w)) (sw (pw (inc R) n v) w)
 | 0, w, _ => cg_refl _
 | n + 1, w, h => by
  have ih := itw_sw v n (img R w) (img_letters R hmo w h); have h2 := img_sw R hmo (pw (inc R) n v) w h; show cg (sw v (itw R n (img R w))) (sw (pw (inc R) n (mv (inc R) v)) w); rw [pw_mv]; exact cg_trans ih h2
omit hmo in
theorem sw_ones (n : Nat) : ∀ w : List Int, isL w n = true → sw (ones n) w = (w.length : Int)
 | [], _ => rfl
 | x :: w, h => by
  rw [isL_cons, Bool.and_eq_true] at h; have hx := of_decide_eq_true h.1; obtain ⟨m, rfl⟩ : ∃ m : Nat, x = (m : Int) := ⟨x.toNat, by omega⟩; simp only [sw]; rw [sw_ones n w h.2, show rd (ones n) (m : Int) = 1 from by unfold ones; rw [rd_row _ _ m (by omega)], List.length_cons]; omega
theorem itw_letters : ∀ (n : Nat) (w : List Int), isL w R.length = true → isL (itw R n w) R.length = true
 | 0, w, h => h
 | n + 1, w, h => itw_letters n _ (img_letters R hmo w h)
theorem itw_len (n a : Nat) (ha : a < R.length) (hs : (itw R n [(a : Int)]).length ≤ 1000) : ((itw R n [(a : Int)]).length : Int) = rd (pw (inc R) n (ones (inc R).length)) (a : Int) := by
 have h1 : isL [(a : Int)] R.length = true := by rw [isL_cons, decide_eq_true (by omega)]; rfl
 have h := itw_sw R hmo (ones R.length) n [(a : Int)] h1; rw [sw_ones _ _ (itw_letters R hmo n _ h1)] at h; have hr := pw_range (inc R) n a (by rw [inc_n R hmo]; exact ha); rw [inc_n R hmo] at hr ⊢; have e : sw (pw (inc R) n (ones R.length)) [(a : Int)] = rd (pw (inc R) n (ones R.length)) (a : Int) := by simp only [sw]; omega
 rw [e] at h; exact cg_eq h (by omega) hr
omit hmo in
theorem itw_succ : ∀ (n : Nat) (w : List Int), itw R (n + 1) w = img R (itw R n w)
 | 0, _ => rfl
 | n + 1, w => by show itw R (n + 1) (img R w) = _; rw [itw_succ n]; rfl
theorem iter_ev (h : R.length ≤ 1048576) (ht : total R ≤ 1048576) (a n : Nat) (ha : a < R.length) (hn : n ≤ 12) : ∃ w c, Ev (fun k => spec_IterateMorphism.f k R (a : Int) (n : Int)) (w, c) ∧ (c = true → (w.length : Int) = rd (pw (inc R) n (ones (inc R).length)) (a : Int)) := by
 have hm := specIsMorphism_ev R h ht; rw [hmo] at hm; have no : Ev (fun k => spec_IterateMorphism.j0 k (n : Int) [(a : Int)] true R) ([], false) := Ev.step (fun k => by simp only [spec_IterateMorphism.j0]; rw [_root_.if_pos trivial]) (Ev.some _); unfold spec_IterateMorphism.f; have hw := specIsWord_ev [(a : Int)] R.length (by simp); cases hi : iw [(a : Int)] R.length with
 | false =>
  rw [hi] at hw; exact ⟨[], false, Ev.bind (Ev.val rfl) (Ev.bind hm (Ev.if_pos rfl (Ev.bind hw (Ev.if_neg (by simp) no)))), fun h => by cases h⟩
 | true =>
  rw [hi] at hw; have key : ∀ d t : Nat, t + d = n → (itw R t [(a : Int)]).length ≤ 400 → ∃ w c, Ev (fun k => spec_IterateMorphism.l0 k (n : Int) (itw R t [(a : Int)]) (t : Int) R) (w, c) ∧ (c = true → (w.length : Int) = rd (pw (inc R) n (ones (inc R).length)) (a : Int)) := by
   intro d
   induction d with
   | zero =>
    intro t htn hl; obtain rfl : t = n := by omega
    exact ⟨_, true, Ev.step (fun k => by simp only [spec_IterateMorphism.l0]; rw [_root_.if_neg (by omega)]) (Ev.some _), fun _ => itw_len R hmo t a ha (by omega)⟩
   | succ d ih =>
    intro t htn hl; have hA := specApply_ev R (itw R t [(a : Int)]) h ht (by omega); have hlen := am_len R (itw R t [(a : Int)]); cases hc : (am R (itw R t [(a : Int)])).2 with
    | false => 
     refine ⟨[], false, Ev.step (fun k => by simp only [spec_IterateMorphism.l0]; rw [_root_.if_pos (by omega)]) (Ev.bind hA (Ev.if_neg (show ¬ (am R (itw R t [(a : Int)])).2 = true by rw [hc]; simp) (Ev.some _))), fun h => by cases h⟩
    | true =>
     have e : (am R (itw R t [(a : Int)])).1 = itw R (t + 1) [(a : Int)] := by
      rw [itw_succ]; unfold am at hc ⊢; split at hc
      ·rename_i q; rw [_root_.if_pos q]; split at hc
       ·cases hc
       ·rename_i q2; rw [_root_.if_neg q2]
      ·cases hc
     rw [e] at hlen; obtain ⟨w, c, hE, hcc⟩ := ih (t + 1) (by omega) hlen; refine ⟨w, c, Ev.step (fun k => by simp only [spec_IterateMorphism.l0]; rw [_root_.if_pos (by omega)]) (Ev.bind hA (Ev.if_pos hc ?_)), hcc⟩; rw [e, wsucc (by omega)]; exact hE
  obtain ⟨w, c, hE, hcc⟩ := key n 0 (by omega) (by simp [itw]); refine ⟨w, c, Ev.bind (Ev.val rfl) (Ev.bind hm (Ev.if_pos rfl (Ev.bind hw (Ev.if_pos rfl (Ev.bind (Ev.val (l1In_val _ _ _)) ?_))))), hcc⟩; rw [decide_eq_true (by omega)]; exact Ev.step (fun k => by simp only [spec_IterateMorphism.j0]; rw [_root_.if_neg (by simp)]; rfl) hE
end len
/-! Counts of free words. -/
noncomputable def CSF (a0 a1 : Int) : Int := if (1 ≤ a0 ∧ a0 ≤ 3) ∧ 0 ≤ a1 ∧ a1 ≤ 8 then ((fw a0.toNat (tst false) a1.toNat).length : Int) else -1
theorem specCSF_ev (a0 a1 : Int) : Ev (fun k => spec_CountSquareFree.f k a0 a1) (CSF a0 a1) := by
 unfold spec_CountSquareFree.f CSF; refine Ev.bind (Ev.val (l1In_val _ _ _)) ?_; by_cases q : 1 ≤ a0 ∧ a0 ≤ 3
 ·rw [decide_eq_true q]; refine Ev.if_pos rfl (Ev.bind (Ev.val (l1In_val _ _ _)) ?_); by_cases q2 : 0 ≤ a1 ∧ a1 ≤ 8
  ·rw [decide_eq_true q2, _root_.if_pos ⟨q, q2⟩]; obtain ⟨m, rfl⟩ : ∃ m : Nat, a0 = (m : Int) := ⟨a0.toNat, by omega⟩; obtain ⟨n, rfl⟩ : ∃ n : Nat, a1 = (n : Int) := ⟨a1.toNat, by omega⟩; exact Ev.if_pos rfl (Ev.bind (l29_ev m n false (by omega) (by omega) (small_pow m n (by omega) (by omega))) (Ev.some _))
  ·rw [decide_eq_false q2, _root_.if_neg (fun h => q2 h.2)]; exact Ev.if_neg (by simp) (Ev.some _)
 ·rw [decide_eq_false q, _root_.if_neg (fun h => q h.1)]; exact Ev.if_neg (by simp) (Ev.some _)
theorem implCSF_ev (m n : Int) : Ev (fun k => impl_CountSquareFree.f k m n) (CSF m n) := by
 unfold impl_CountSquareFree.f CSF; refine Ev.ite (fun q => ?_) (fun q1 => Ev.ite (fun q => ?_) (fun q2 => Ev.ite (fun q => ?_) (fun q3 => Ev.ite (fun q => ?_) (fun q4 => ?_))))
 ·rw [_root_.if_neg (by omega)]; exact Ev.some _
 ·rw [_root_.if_neg (by omega)]; exact Ev.some _
 ·rw [_root_.if_neg (by omega)]; exact Ev.some _
 ·rw [_root_.if_neg (by omega)]; exact Ev.some _
 ·rw [_root_.if_pos (by omega)]; obtain ⟨a, rfl⟩ : ∃ a : Nat, m = (a : Int) := ⟨m.toNat, by omega⟩; obtain ⟨b, rfl⟩ : ∃ b : Nat, n = (b : Int) := ⟨n.toNat, by omega⟩; rw [Int.toNat_natCast, Int.toNat_natCast]; exact Ev.bind (impl_freeWords_of121.ev a b (by omega) (by omega)) (Ev.some _)
noncomputable def COF (a0 : Int) : Int := if 0 ≤ a0 ∧ a0 ≤ 10 then ((fw 2 (tst true) a0.toNat).length : Int) else -1
theorem specCOF_ev (a0 : Int) : Ev (fun k => spec_CountOverlapFree.f k a0) (COF a0) := by
 unfold spec_CountOverlapFree.f COF; refine Ev.bind (Ev.val (l1In_val _ _ _)) ?_; by_cases q : 0 ≤ a0 ∧ a0 ≤ 10
 ·rw [decide_eq_true q, _root_.if_pos q]; obtain ⟨n, rfl⟩ : ∃ n : Nat, a0 = (n : Int) := ⟨a0.toNat, by omega⟩; exact Ev.if_pos rfl (Ev.bind (l29_ev 2 n true (by omega) (by omega) (small_pow 2 n (by omega) (by omega))) (Ev.some _))
 ·rw [decide_eq_false q, _root_.if_neg q]; exact Ev.if_neg (by simp) (Ev.some _)
theorem implCOF_ev (n : Int) : Ev (fun k => impl_CountOverlapFree.f k n) (COF n) := by
 unfold impl_CountOverlapFree.f COF; refine Ev.ite (fun q => ?_) (fun q1 => Ev.ite (fun q => ?_) (fun q2 => ?_))
 ·rw [_root_.if_neg (by omega)]; exact Ev.some _
 ·rw [_root_.if_neg (by omega)]; exact Ev.some _
 ·rw [_root_.if_pos (by omega)]; obtain ⟨b, rfl⟩ : ∃ b : Nat, n = (b : Int) := ⟨n.toNat, by omega⟩; rw [Int.toNat_natCast]; exact Ev.bind (impl_freeWords_of119.ev 2 b (by omega) (by omega)) (Ev.some _)
theorem fw_step (m : Nat) (p : List Int → Bool) (n : Nat) : (fw m p (n + 1)).length ≤ m * (fw m p n).length := fwStep_le m p (fw m p n)
theorem CSF_step (a0 a1 : Int) (h : 0 ≤ CSF a0 a1) (h1 : 0 < a1) : CSF a0 a1 ≤ wrap64 (a0 * CSF a0 (wrap64 (a1 - 1))) := by
 unfold CSF at h ⊢; split at h
 ·rename_i q; rw [w_id (a := a1 - 1) (by omega) (by omega), _root_.if_pos q, _root_.if_pos (by omega)]; obtain ⟨m, rfl⟩ : ∃ m : Nat, a0 = (m : Int) := ⟨a0.toNat, by omega⟩; obtain ⟨n, rfl⟩ : ∃ n : Nat, a1 = ((n + 1 : Nat) : Int) := ⟨(a1 - 1).toNat, by omega⟩; rw [show ((n + 1 : Nat) : Int) - 1 = (n : Int) by omega, Int.toNat_natCast, Int.toNat_natCast, Int.toNat_natCast]; have h2 := fw_step m (tst false) n; have h3 := Nat.mul_le_mul (show m ≤ 3 by omega) (Nat.le_trans (fw_le m (tst false) n) (Nat.le_trans (Nat.pow_le_pow_left (show m ≤ 3 by omega) n) (Nat.le_trans (Nat.pow_le_pow_right (by omega) (show n ≤ 8 by omega)) (show 3 ^ 8 ≤ 6561 by decide)))); rw [← Int.natCast_mul, w_id (by omega) (by omega)]; omega
 ·omega
theorem COF_step (a0 : Int) (h : 0 ≤ COF a0) (h1 : 0 < a0) : COF a0 ≤ wrap64 (2 * COF (wrap64 (a0 - 1))) := by
 unfold COF at h ⊢; split at h
 ·rename_i q; rw [w_id (a := a0 - 1) (by omega) (by omega), _root_.if_pos q, _root_.if_pos (by omega)]; obtain ⟨n, rfl⟩ : ∃ n : Nat, a0 = ((n + 1 : Nat) : Int) := ⟨(a0 - 1).toNat, by omega⟩; rw [show ((n + 1 : Nat) : Int) - 1 = (n : Int) by omega, Int.toNat_natCast, Int.toNat_natCast]; have h2 := fw_step 2 (tst true) n; have h3 := Nat.le_trans (fw_le 2 (tst true) n) (Nat.le_trans (Nat.pow_le_pow_right (by omega) (show n ≤ 10 by omega)) (show 2 ^ 10 ≤ 1024 by decide)); rw [w_id (by omega) (by omega)]; omega
 ·omega
theorem ov_two : ((List.range 11).all fun o => decide (o = 0) || decide (2 ≤ (fw 2 ovN o).length)) = true := by decide +kernel
theorem COF_two (a0 : Int) (h : 0 ≤ COF a0) (h1 : 0 < a0) : 2 ≤ COF a0 := by
 unfold COF at h ⊢; split at h
 ·rename_i q; rw [_root_.if_pos q]; obtain ⟨n, rfl⟩ : ∃ n : Nat, a0 = (n : Int) := ⟨a0.toNat, by omega⟩; rw [Int.toNat_natCast, fw_ovN 2 n (by omega)]; have := List.all_eq_true.1 ov_two n (List.mem_range.2 (by omega)); rw [decide_eq_false (show ¬ n = 0 by omega), Bool.false_or] at this; have := of_decide_eq_true this; omega
 ·omega
/-! The draws. -/
theorem MR_total {R : List (List Int)} (h : MR R) : R.length ≤ 1048576 ∧ total R ≤ 1048576 := by
 refine ⟨by have := h.1.2; omega, ?_⟩; obtain ⟨⟨_, h1⟩, h2, _⟩ := h
 match R, h1, h2 with
 | [], _, _ => simp [total]
 | [a], _, h => have := h a (by simp); simp [total]; omega
 | [a, b], _, h => have := h a (by simp); have := h b (by simp); simp [total]; omega
 | [a, b, c], _, h => have := h a (by simp); have := h b (by simp); have := h c (by simp); simp [total]; omega
theorem drawIL (s : List Int) (hs : s.length ≤ 1048576) : ∃ R n, Ev (fun k => spec_DrawImageLengths.f k s) (R, n) ∧ MR R := by
 obtain ⟨h, hnew⟩ := new_ev s hs; obtain ⟨R, i1, g1, hE, hR, a, b⟩ := l7m_ev s 0 h (by omega) (by omega) hs; obtain ⟨r, i2, g2, e, _⟩ := below_val s i1 g1 15 a b hs (by omega) (by omega); unfold spec_DrawImageLengths.f; exact ⟨_, _, Ev.bind hnew (Ev.bind hE (Ev.bind (Ev.val e) (Ev.some _))), hR⟩
theorem drawLA (s : List Int) (hs : s.length ≤ 1048576) : ∃ R a n, Ev (fun k => spec_DrawLettersAfter.f k s) (R, a, n) ∧ MR R := by
 obtain ⟨h, hnew⟩ := new_ev s hs; obtain ⟨R, i1, g1, hE, hR, a, b⟩ := l7m_ev s 0 h (by omega) (by omega) hs; obtain ⟨r, i2, g2, e, _, _, a2, b2⟩ := below_val s i1 g1 5 a b hs (by omega) (by omega); obtain ⟨r3, i3, g3, e3, _⟩ := below_val s i2 g2 15 a2 b2 hs (by omega) (by omega); unfold spec_DrawLettersAfter.f; exact ⟨_, _, _, Ev.bind hnew (Ev.bind hE (Ev.bind (Ev.val e) (Ev.bind (Ev.val e3) (Ev.some _)))), hR⟩
theorem drawCS (s : List Int) (hs : s.length ≤ 1048576) : ∃ a n, Ev (fun k => spec_DrawCountSquareFree.f k s) (a, n) := by
 obtain ⟨h, hnew⟩ := new_ev s hs; obtain ⟨r, i2, g2, e, _, _, a2, b2⟩ := below_val s 0 h 5 (by omega) (by omega) hs (by omega) (by omega); obtain ⟨r3, i3, g3, e3, _⟩ := below_val s i2 g2 9 a2 b2 hs (by omega) (by omega); unfold spec_DrawCountSquareFree.f; exact ⟨_, _, Ev.bind hnew (Ev.bind (Ev.val e) (Ev.bind (Ev.val e3) (Ev.some _)))⟩
theorem drawCO (s : List Int) (hs : s.length ≤ 1048576) : ∃ a, Ev (fun k => spec_DrawCountOverlapFree.f k s) a := by
 obtain ⟨h, hnew⟩ := new_ev s hs; obtain ⟨r, i2, g2, e, _⟩ := below_val s 0 h 11 (by omega) (by omega) hs (by omega) (by omega); unfold spec_DrawCountOverlapFree.f; exact ⟨_, Ev.bind hnew (Ev.bind (Ev.val e) (Ev.some _))⟩
theorem lawGrow : laws_FnGrowth.Pure := by
 intro s _ hs hbytes; have bn : ∀ b : Bool, (b != b) = false := fun b => by cases b <;> rfl
 have be : ∀ b : Bool, (b == b) = true := fun b => by cases b <;> rfl
 have main : Ev (fun k => laws_FnGrowth.f k s) true := by
  unfold laws_FnGrowth.f; refine Ev.bind (Ev.val rfl) ?_; refine Ev.ite (fun _ => Ev.some _) (fun q => ?_); have hs : s.length ≤ 1048576 := by
   have : ¬ (s.length : Int) > 1048576 := fun h => q (decide_eq_true h)
   omega
  have j4 : Ev (fun k => laws_FnGrowth.j4 k s false) true := by
   obtain ⟨F, a, n, hD, hF⟩ := drawLA s hs; obtain ⟨h1, ht⟩ := MR_total hF; refine Ev.step (fun k => by simp only [laws_FnGrowth.j4]; rw [_root_.if_neg (by simp)]) ?_; exact Ev.bind hD (Ev.bind (implLA_ev F a n h1 ht) (Ev.bind (specLA_ev F a n h1 ht) (Ev.if_pos (be _) (Ev.bind (sameSelf_ev _ (by have := la_len F a n; omega)) (Ev.some _)))))
  have j3 : ∀ k j o, Ev (fun n => laws_FnGrowth.j3 n s k j (CSF k j) o (COF o) false) true := by
   intro k j o; have tail : Ev (fun n => if COF o ≥ 0 then (if o > 0 then ((spec_CountOverlapFree.f n (wrap64 (o - 1))).bind fun t => (if COF o > (wrap64 (2 * t)) then (laws_FnGrowth.j4 n s true) else (laws_FnGrowth.j4 n s (decide (COF o < 2))))) else (laws_FnGrowth.j4 n s false)) else (laws_FnGrowth.j4 n s false)) true := by
    refine Ev.ite (fun q1 => Ev.ite (fun q2 => Ev.bind (specCOF_ev _) (Ev.if_neg ?_ ?_)) (fun _ => j4)) (fun _ => j4)
    ·have := COF_step o q1 q2; omega
    ·rw [decide_eq_false (by have := COF_two o q1 q2; omega)]; exact j4
   refine Ev.step (fun n => by simp only [laws_FnGrowth.j3]; rw [_root_.if_neg (by simp)]) ?_; refine Ev.ite (fun q1 => Ev.ite (fun q2 => Ev.bind (specCSF_ev _ _) (Ev.if_neg ?_ tail)) (fun _ => tail)) (fun _ => tail); have := CSF_step k j q1 q2; omega
  obtain ⟨R, n, hD, hR⟩ := drawIL s hs; obtain ⟨h1, ht⟩ := MR_total hR; have rest : ∀ (x4 : Int) (x6 : Bool) (x7 : List Int) (x13 : Int), Ev (fun k => laws_FnGrowth.j2 k s x4 x6 x7 x13 false R) true := by
   intro x4 x6 x7 x13; obtain ⟨a, b, hA⟩ := drawCS s hs; obtain ⟨o, hO⟩ := drawCO s hs; refine Ev.step (fun k => by simp only [laws_FnGrowth.j2]; rw [_root_.if_neg (by simp)]) ?_; refine Ev.bind hA (Ev.bind (implCSF_ev a b) (Ev.bind hO (Ev.bind (implCOF_ev o) (Ev.bind (specCSF_ev a b) (Ev.if_pos rfl (Ev.bind (specCOF_ev o) ?_)))))); rw [show (COF o != COF o) = false by simp]; exact j3 a b o
  have l0 : Ev (fun k => laws_FnGrowth.l0 k s n (il R n).2 (il R n).1 0 R) true := by
   cases hi : (il R n).2 with
   | false =>
    have e : (il R n).1 = [] := by unfold il at hi ⊢; split at hi; cases hi; rename_i q; rw [_root_.if_neg q]
    rw [e]; exact Ev.step (fun k => by simp only [laws_FnGrowth.l0]; rw [_root_.if_neg (by simp)]) (rest _ _ _ _)
   | true =>
    have hq : mo R = true ∧ 0 ≤ n ∧ n ≤ 12 := by unfold il at hi; split at hi; assumption; cases hi
    have e : (il R n).1 = pw (inc R) n.toNat (ones (inc R).length) := by unfold il; rw [_root_.if_pos hq]
    have hl : (il R n).1.length = R.length := by rw [e, pw_len _ _ _ (by unfold ones; rw [row_length]), inc_length hq.1]
    have key : ∀ i, i ≤ R.length → Ev (fun k => laws_FnGrowth.l0 k s n true (il R n).1 (i : Int) R) true := by
     refine down R.length ?_ ?_
     ·exact Ev.step (fun k => by simp only [laws_FnGrowth.l0]; rw [_root_.if_neg (by omega)]) (rest _ _ _ _)
     ·intro i hi ih; refine Ev.step (fun k => by simp only [laws_FnGrowth.l0]; rw [_root_.if_pos (by omega), _root_.if_pos trivial]) ?_; by_cases q6 : n ≤ 6
      ·obtain ⟨w, c, hE, hc⟩ := iter_ev R hq.1 h1 ht i n.toNat hi (by omega); rw [show ((n.toNat : Nat) : Int) = n by omega] at hE; rw [decide_eq_true q6]; refine Ev.step (fun k => by simp only [laws_FnGrowth.j2]; rw [_root_.if_pos trivial]) ?_; refine Ev.bind hE (Ev.ite (fun q7 => Ev.if_pos (by omega) (Ev.if_pos (by omega) (Ev.if_pos ?_ ?_))) (fun _ => ?_))
       ·rw [e]; exact hc q7
       ·rw [wsucc (by have := hR.1; omega)]; exact ih
       ·rw [wsucc (by have := hR.1; omega)]; exact ih
      ·rw [decide_eq_false q6]; exact rest _ _ _ _
    exact key 0 (by omega)
  refine Ev.bind hD (Ev.bind (implIL_ev R n h1 ht) (Ev.bind (specIL_ev R n h1 ht) (Ev.bind (implInc_ev R h1 ht) (Ev.bind (specInc_ev R h1 ht) (Ev.if_neg (by rw [bn]; simp) (Ev.bind (sameSelf_ev _ (by have := il_len R n; omega)) (Ev.if_pos rfl (Ev.if_neg (by rw [bn]; simp) (Ev.bind (wordsSelf_ev _ (show (inc R).length ≤ 1048576 by have := inc_len R; omega) (fun y hy => by have := (inc_len R).2 y hy; omega)) (Ev.if_pos rfl (Ev.bind (implPM_ev R h1 ht) (Ev.bind (specPM_ev R h1 ht) ?_)))))))))))); rw [bn]; exact Ev.step (fun k => by simp only [laws_FnGrowth.j0]; rw [_root_.if_neg (by simp)]) l0
 obtain ⟨k, hk⟩ := main.rounds; exact ⟨k, hk⟩
end Go.Proofs.Ytooamcjgejajeaa.M
/- FnGrowth: the plain law of the statement, out of what program and reference come to. No condition. -/
namespace Go.Proofs.Ytooamcjgejajeaa.Pure
open Go.RowKit Go.Proofs.Ytooamcjgejajeaa.M Go.Proofs.YtooamcjgejajeaaW.PrintWords Go.Proofs.YtooamcjgejajeaaW.PrintLast
theorem FnGrowth : laws_FnGrowth.Pure := lawGrow
end Go.Proofs.Ytooamcjgejajeaa.Pure
