/- Texts of the claim on FnGrowth, joined (part 2 of 5): walks of the functions, what they come to, and in the last part the row. No condition of mine. -/
import Derived.Test.YtooamcjgejajeaaBFnGrowth0
import Derived.Test.YtooamcjgejajeaaBFnGrowth1
import Derived.Deep.RegionHeld3
namespace Go.Proofs.Ytooamcjgejajeaa.M
open Go.RowKit Go.Proofs.Ytooamcjgejajeaa.KW Go.Proofs.YtooamcjgejajeaaW.PrintWords Go.Proofs.YtooamcjgejajeaaW.PrintLast Go.Proofs.YtooamcjgejajeaaW.PrintMore
attribute [local go_sem] max2_int min2_int max_two min_two max_three min_three max_four min_four
set_option linter.unusedVariables false
set_option linter.unusedSimpArgs false
mutual
def spec_LettersAfter.j0 : Nat → Int → Int → List (List Int) → Bool → Option (List Int × Bool)
 | 0, _, _, _, _ => none
 | k + 1, x1, x2, x8, x36 => if x36 = true then (some ((([] : List Int)), false)) else (if 0 ≤ (x8.length : Int) then (if ((x8.length : Int) : Int).toNat ≤ 35184372088832 then ((some (List.replicate ((x8.length : Int) : Int).toNat 0 : List Int)).bind fun y264 => (if 0 ≤ x1 then (if x1 < (y264.length : Int) then (spec_LettersAfter.l0 k x2 x8 (y264.set (x1 : Int).toNat 1) 0) else (none)) else (none))) else (none)) else (none))
def spec_LettersAfter.l0 : Nat → Int → List (List Int) → List Int → Int → Option (List Int × Bool)
 | 0, _, _, _, _ => none
 | k + 1, x2, x8, x10, x11 => if x11 < x2 then (if 0 ≤ (x8.length : Int) then (if ((x8.length : Int) : Int).toNat ≤ 35184372088832 then (spec_LettersAfter.l1 k x2 x8 x10 x11 (List.replicate ((x8.length : Int) : Int).toNat 0) 0) else (none)) else (none)) else (some (x10, true))
def spec_LettersAfter.l1 : Nat → Int → List (List Int) → List Int → Int → List Int → Int → Option (List Int × Bool)
 | 0, _, _, _, _, _, _ => none
 | k + 1, x2, x8, x10, x11, x12, x13 => if x13 < (x8.length : Int) then (spec_LettersAfter.l2 k x2 x8 x10 x11 x12 x13 0) else (spec_LettersAfter.l0 k x2 x8 x12 (wrap64 (x11 + 1)))
def spec_LettersAfter.l2 : Nat → Int → List (List Int) → List Int → Int → List Int → Int → Int → Option (List Int × Bool)
 | 0, _, _, _, _, _, _, _ => none
 | k + 1, x2, x8, x10, x11, x12, x13, x14 => if x14 < (x8.length : Int) then (if 0 ≤ x14 then (if x14 < (x12.length : Int) then (if 0 ≤ x13 then (if x13 < (x10.length : Int) then (if x13 < (x8.length : Int) then (if x14 < ((rd_L1 x8 x13).length : Int) then (spec_LettersAfter.l2 k x2 x8 x10 x11 (x12.set (x14 : Int).toNat (wrap64 ((rd x12 x14) + (wrap64 ((rd x10 x13) * (rd (rd_L1 x8 x13) x14)))))) x13 (wrap64 (x14 + 1))) else (none)) else (none)) else (none)) else (none)) else (none)) else (none)) else (spec_LettersAfter.l1 k x2 x8 x10 x11 x12 (wrap64 (x13 + 1)))
end
def spec_LettersAfter.f (k : Nat) (l0_0 : List (List Int)) (a1 : Int) (a2 : Int) : Option (List Int × Bool) := (spec_IncidenceOf.f k l0_0).bind fun bt256 => (if bt256.2 = true then (if a1 < 0 then (spec_LettersAfter.j0 k a1 a2 bt256.1 true) else (if a1 ≥ (bt256.1.length : Int) then (spec_LettersAfter.j0 k a1 a2 bt256.1 true) else ((spec_l1In.f a2 0 12).bind fun t260 => (spec_LettersAfter.j0 k a1 a2 bt256.1 (!t260))))) else (spec_LettersAfter.j0 k a1 a2 bt256.1 true))
def spec_LettersAfter.T16 : Bool × List (List Nat × List Nat) := (true, [([], []), ([], []), ([], []), ([], []), ([2, 3], [2, 3]), ([4], [4]), ([], []), ([], []), ([6, 7], [6, 7]), ([8], [8]), ([], []), ([], []), ([10, 11], [10, 11]), ([12], [12]), ([], []), ([13, 14], [13, 14]), ([15], [15]), ([9, 16], [9, 16]), ([5, 17], [5, 17]), ([0, 1, 0, 1, 2, 3, 4, 5, 6, 7, 8, 9, 10, 11, 12, 13, 14, 15, 16, 17, 18], [0, 1]), ([19, 18, 0, 1, 2, 3, 4, 5, 6, 7, 8, 9, 10, 11, 12, 13, 14, 15, 16, 17, 18], [18, 19])])
def spec_LettersAfter.B16 : List Nat := [0, 0, 0, 0, 12, 28, 0, 0, 192, 448, 0, 0, 3072, 7168, 0, 31744, 64512, 131008, 262140, 524287, 1048575]
theorem spec_LettersAfter.tab16 : rtab .any (opsOf Try.f26 16) = spec_LettersAfter.T16 := by kernel_rfl
theorem spec_LettersAfter.bits16 : waitsOk spec_LettersAfter.T16.2 spec_LettersAfter.B16 = true := by kernel_rfl
set_option maxHeartbeats 8000000 in
set_option maxRecDepth 100000 in
theorem spec_LettersAfter.calls (k : Nat) (A0_0 : Option Addr) (c0_0 : Nat) (l0_0 : List (List Int)) (a1 : Int) (a2 : Int) (r1 : List Int) (r2 : Bool) (w : World) (hr0_0 : Kd.C (Kd.slice 3 (Kd.int .i64)) w A0_0 l0_0.length l0_0) (hc0_0 : l0_0.length ≤ c0_0) (h : spec_LettersAfter.f k l0_0 a1 a2 = some (r1, r2)) :
  Calls Try.prog 26 #[.agg #[.slice A0_0 l0_0.length c0_0], .int .i64 a1, .int .i64 a2] w fun e w' => ∃ v0_ : Value, e = .returned (.tuple #[v0_, .bool r2]) ∧ Kd.R (Kd.int .i64) 3 w' w.heap.size (fun _ => True) v0_ r1 ∧ Below w.heap.size w w' := by
 have hu28 := Try.underlying28; have HR0_0 := am hr0_0; have HC0_0 := am hc0_0; clear hr0_0 hc0_0; have HB := am (Below.refl w.heap.size w); have H : ((spec_IncidenceOf.f k l0_0).bind fun bt256 => (if bt256.2 = true then (if a1 < 0 then (spec_LettersAfter.j0 k a1 a2 bt256.1 true) else (if a1 ≥ (bt256.1.length : Int) then (spec_LettersAfter.j0 k a1 a2 bt256.1 true) else ((spec_l1In.f a2 0 12).bind fun t260 => (spec_LettersAfter.j0 k a1 a2 bt256.1 (!t260))))) else (spec_LettersAfter.j0 k a1 a2 bt256.1 true))) = some (r1, r2) := h; clear h; replace H := bE H; obtain ⟨⟨t256, t259⟩, A40, H⟩ := H; replace H : (if t259 = true then (if a1 < 0 then (spec_LettersAfter.j0 k a1 a2 t256 true) else (if a1 ≥ (t256.length : Int) then (spec_LettersAfter.j0 k a1 a2 t256 true) else ((spec_l1In.f a2 0 12).bind fun t260 => (spec_LettersAfter.j0 k a1 a2 t256 (!t260))))) else (spec_LettersAfter.j0 k a1 a2 t256 true)) = some (r1, r2) := H; have A4 := am A40; clear A40; have HC5 := am H; clear H; go_enter Try.func26, Try.ntmps26; go_upto_region 2 with (first | ((with_reducible refine gate_dst (N := 3) rfl ?_); (try (refine gate_guard (by rfl) ?_; dsimp only)); refine box_event ?hg (N := 3) ?hd (cs := #[.slice A0_0 l0_0.length c0_0]) (t := 28) ?hr ?_; (case hd | hg => rfl); (case hr => go_simp <;> rfl); intro gb255 hg w6 hbox hb; have BK255 := am (hbox); have GW255 := am ((by rw [hg]; exact (bZ HB) : w.heap.size ≤ gb255)); have GE255 := am ((by rw [hg]; exact (bZ HB) : w.heap.size ≤ gb255)); replace HB := bS HB hb; have qW255 := Ge.mk GW255.out; have qE255 := Ge.mk GE255.out; clear hb hbox hg; have hcz7_0 := z10 BK255; have hfz7_0 := blk_frozen BK255.out 0) | ((with_reducible refine gate_callee (f := 16) rfl ?_); refine goesL_ (some 17) rfl rfl Try.func16 (by kernel_rfl) rfl #[.agg #[.slice A0_0 l0_0.length c0_0]] rfl (by (try simp only [mT, mC, mN]); first | done | rfl) ?_; (with_reducible refine (spec_IncidenceOf.calls k _ _ l0_0 t256 t259 _ ?side1 ?side2 A4.out).mono ?_); (case side1 => exact xC ((Kd.C_below HR0_0.out HB.out))); (case side2 => exact HC0_0.out); rintro e w8 ⟨v257, rfl, ho0, hb⟩; refine ⟨_, rfl, ?_⟩; have HO258 := am (Kd.S_lower ho0 (bZ HB)); replace BK255 := bK BK255 hb; replace HB := bS HB hb; clear hb ho0)); (try simp only [Act.put, qa, qz, qs]); go_cut [36] (fun v36 wc => ∃ (kq : Nat) (x36_4 : Bool), v36 = .bool x36_4 ∧ Aside0 (spec_LettersAfter.j0 kq a1 a2 t256 x36_4 = some (r1, r2)) ∧ Aside0 (kq ≤ k) ∧ Aside0 (Kd.S (Kd.slice 3 (Kd.int .i64)) 36 wc w.heap.size (fun _ => True) v257 t256) ∧ Aside0 (wc.heap[gb255]? = some (.cells #[(.slice A0_0 l0_0.length c0_0)] 28 (0, 0))) ∧ Aside0 (Below w.heap.size w wc))
 case first =>
  have H := HC5.out; clear HC5; by_cases c9 : t259 = true
  ·subst c9; have H1 : (if a1 < 0 then (spec_LettersAfter.j0 k a1 a2 t256 true) else (if a1 ≥ (t256.length : Int) then (spec_LettersAfter.j0 k a1 a2 t256 true) else ((spec_l1In.f a2 0 12).bind fun t260 => (spec_LettersAfter.j0 k a1 a2 t256 (!t260))))) = some (r1, r2) := by rw [if_pos rfl] at H; exact H
   clear H; have H := H1; clear H1; by_cases c10 : a1 < 0
   ·rw [if_pos c10] at H; have c10b0 : decide (a1 < 0) = true := decide_eq_true c10; clear c10
    (first | rw [c10b0] | (simp only [i64_w, i32_w]; rw [c10b0]) | skip)
    have H' := am H; clear H; go_wp2; go_meet
    case rel => exact ⟨_, (true), (by first | rfl | (simp; done) | (simp [*]; done)), H', ⟨by first | omega | exact Nat.le_refl _⟩, ⟨by exact rS HO258⟩, ⟨by exact rX BK255⟩, ⟨by exact rB HB⟩⟩
   ·rw [if_neg c10] at H; have c10b0 : decide (a1 < 0) = false := decide_eq_false c10; clear c10
    (first | rw [c10b0] | (simp only [i64_w, i32_w]; rw [c10b0]) | skip)
    by_cases c11 : a1 ≥ (t256.length : Int)
    ·rw [if_pos c11] at H; have c11b0 : decide ((t256.length : Int) ≤ a1) = true := decide_eq_true c11; clear c11; have H' := am H; clear H; obtain ⟨Ao12, co12, eo12⟩ := Kd.S_slice HO258.out; subst eo12; go_wp2; go_meet
     case rel => exact ⟨_, (true), (by first | rfl | (simp; done) | (simp [*]; done)), H', ⟨by first | omega | exact Nat.le_refl _⟩, ⟨by exact rS HO258⟩, ⟨by exact rX BK255⟩, ⟨by exact rB HB⟩⟩
    ·rw [if_neg c11] at H; have c11b0 : decide ((t256.length : Int) ≤ a1) = false := decide_eq_false c11; clear c11; replace H := bE H; obtain ⟨t260, A130, H⟩ := H; replace H : (spec_LettersAfter.j0 k a1 a2 t256 (!t260)) = some (r1, r2) := H; have A13 := am A130; clear A130; have H' := am H; clear H; obtain ⟨Ao14, co14, eo14⟩ := Kd.S_slice HO258.out; subst eo14; go_wp2_with (first | (go_at_call 115; (with_reducible refine (spec_l1In.calls a2 0 12 t260 _ A13.out).mono ?_); rintro e w' ⟨rfl, ⟨nd, rfl⟩⟩)); go_meet
     case rel => exact ⟨_, (!t260), (by first | rfl | (simp; done) | (simp [*]; done)), H', ⟨by first | omega | exact Nat.le_refl _⟩, ⟨by exact rS HO258⟩, ⟨by exact rX BK255⟩, ⟨by exact rB HB⟩⟩
  ·replace c9 := Bool.eq_false_iff.mpr c9; subst c9; have H1 : (spec_LettersAfter.j0 k a1 a2 t256 true) = some (r1, r2) := by rw [if_neg (show ¬ (false = true) by decide)] at H; exact H
   clear H; have H := H1; clear H1; have H' := am H; clear H; go_wp2; go_meet
   case rel => exact ⟨_, (true), (by first | rfl | (simp; done) | (simp [*]; done)), H', ⟨by first | omega | exact Nat.le_refl _⟩, ⟨by exact rS HO258⟩, ⟨by exact rX BK255⟩, ⟨by exact rB HB⟩⟩
 case rest =>
  clear HC5
  try clear c1
  try clear c2
  try clear p2
  try clear c9
  try clear c10
  try clear c10b0
  try clear c11
  try clear c11b0
  try clear hcz7_0
  try clear hfz7_0
  obtain ⟨kq, x36_4, rfl, HA, HJ4, HO_8, BK255, HB⟩ := hcut; cases kq with
  | zero => exact absurd HA.out (by simp [spec_LettersAfter.j0])
  | succ kj4 =>
   have H := HA.out; clear HA; simp only [spec_LettersAfter.j0] at H; by_cases c15 : x36_4 = true
   ·subst c15; have H1 : (some ((([] : List Int)), false)) = some (r1, r2) := by rw [if_pos rfl] at H; exact H
    clear H; have H := H1; clear H1; obtain ⟨y261, hy261⟩ : ∃ y_ : List Int, y_ = (([] : List Int)) := ⟨_, rfl⟩; replace H : (some (y261, false)) = some (r1, r2) := by rw [hy261]; first | exact H | exact (Option.bind_some _ _).symm.trans H
    have Ny261 := am hy261; clear hy261; simp only [Option.some.injEq, Prod.mk.injEq] at H; obtain ⟨rfl, rfl⟩ := H; go_wp2_with (first | ((with_reducible refine gate_dst (N := 37) rfl ?_); (try (refine gate_guard (by rfl) ?_; dsimp only)); refine Kd.R_lit (Kd.int .i64) _ 3 ?hg (N := 37) ?hd (xs := ([] : List Int)) (inner := []) (ok := fun _ => True) (okp := fun _ => True) ?hr ?hp (fun _ hk => hk) trivial (Below.refl _ _) (Nat.le_refl _) (by simp) ?_; (case hd | hg => rfl); (case hr => go_simp <;> rfl); (case hp => exact (Reps.none _ _)); intro v262 w16 ho17 hb hg_ hnew_; clear hg_ hnew_; (first | rw [← Ny261.out] at ho17 | (simp only [Int.reduceToNat] at ho17; rw [← Ny261.out] at ho17)); replace HO_8 := am (Kd.S_elder' (by exact rS HO_8) (Kd.R_base ho17) hb); have HO263 := am (Kd.R_lower ho17 (bZ HB)); replace BK255 := bK BK255 hb; replace HB := bS HB hb; clear hb ho17)); go_ret2; exact ⟨_, by first | rfl | (simp [errW_none, errW_some] <;> rfl) | (simp [*, errW_none, errW_some] <;> rfl), by exact rR HO263, by exact rB HB⟩
   ·replace c15 := Bool.eq_false_iff.mpr c15; subst c15; have H1 : (if 0 ≤ (t256.length : Int) then (if ((t256.length : Int) : Int).toNat ≤ 35184372088832 then ((some (List.replicate ((t256.length : Int) : Int).toNat 0 : List Int)).bind fun y264 => (if 0 ≤ a1 then (if a1 < (y264.length : Int) then (spec_LettersAfter.l0 kj4 a2 t256 (y264.set (a1 : Int).toNat 1) 0) else (none)) else (none))) else (none)) else (none)) = some (r1, r2) := by rw [if_neg (show ¬ (false = true) by decide)] at H; exact H
    clear H; have H := H1; clear H1; by_cases c18 : 0 ≤ (t256.length : Int)
    ·rw [if_pos c18] at H; have c18b0 := eq_true c18; have c18b1 : decide (0 ≤ (t256.length : Int)) = true := decide_eq_true c18; clear c18; by_cases c19 : ((t256.length : Int) : Int).toNat ≤ 35184372088832
     ·rw [if_pos c19] at H; have c19b0 := eq_true c19; have c19b1 : decide (((t256.length : Int) : Int).toNat ≤ 35184372088832) = true := decide_eq_true c19; clear c19; obtain ⟨y264, hy264⟩ : ∃ y_ : List Int, y_ = (List.replicate ((t256.length : Int) : Int).toNat 0) := ⟨_, rfl⟩; replace H : (if 0 ≤ a1 then (if a1 < (y264.length : Int) then (spec_LettersAfter.l0 kj4 a2 t256 (y264.set (a1 : Int).toNat 1) 0) else (none)) else (none)) = some (r1, r2) := by rw [hy264]; first | exact H | exact (Option.bind_some _ _).symm.trans H
      have Ny264 := am hy264; clear hy264; by_cases c20 : 0 ≤ a1
      ·rw [if_pos c20] at H; have c20b0 : decide (0 ≤ a1) = true := decide_eq_true c20; clear c20; by_cases c21 : a1 < (y264.length : Int)
       ·rw [if_pos c21] at H; have c21b0 : decide (a1 < (y264.length : Int)) = true := decide_eq_true c21; clear c21; obtain ⟨y267, hy267⟩ : ∃ y_ : List Int, y_ = (y264.set (a1 : Int).toNat 1) := ⟨_, rfl⟩; replace H : (spec_LettersAfter.l0 kj4 a2 t256 y267 0) = some (r1, r2) := by rw [hy267]; first | exact H | exact (Option.bind_some _ _).symm.trans H
        have Ny267 := am hy267; clear hy267; have H' := am H; clear H; obtain ⟨Ao23, co23, eo23⟩ := Kd.S_slice HO_8.out; subst eo23; go_wp2_with (first | ((with_reducible refine gate_dst (N := 40) rfl ?_); (try (refine gate_guard (by rfl) ?_; dsimp only)); refine Kd.R_make (Kd.int .i64) _ 3 rfl (N := 40) rfl 36 _ _ rfl (t256.length : Int) rfl rfl Try.underlying36 (.int .i64 0) 8 info3 rfl (by decide) (by omega) 0 (ok := fun _ => True) (okp := fun _ => True) rfl (fun _ hk => hk) trivial (oD) (Nat.le_trans (Nat.mul_le_mul_right _ (oD : (t256.length : Int).toNat ≤ 35184372088832)) (by omega)) (Below.refl _ _) (Nat.le_refl _) ?_; intro v265 w24 ho25 hb hg_ hnew_; clear hg_ hnew_; (first | rw [← Ny264.out] at ho25 | (simp only [Int.reduceToNat] at ho25; rw [← Ny264.out] at ho25)); replace HO_8 := am (Kd.S_elder' (by exact rS HO_8) (Kd.R_base ho25) hb); have HO266 := am (Kd.R_lower ho25 (bZ HB)); replace BK255 := bK BK255 hb; replace HB := bS HB hb; clear hb ho25; have p22 : 0 ≤ (a1 : Int) := oD; have q22 : (a1 : Int) < ((y264.length : Int) : Int) := oD; obtain ⟨go22, co22, eo22, gb22, gl22, cl22, HG22⟩ := Kd.R_form HO266.out (by omega); (first | cases eo22 | (injection eo22 with ea_ en_ ec_; (first | subst ea_ | (injection ea_ with ea_; subst ea_)); subst ec_; clear en_)); have GB22 := am gb22; have GG22 := am HG22; clear gb22 gl22 HG22; obtain ⟨hx22_0, hf22_0⟩ := Kd.R_celln 0 HO266.out (a1 : Int) p22 q22; replace p22 := eq_true p22; replace q22 := eq_true q22; obtain ⟨hy26_, hz26_⟩ := Kd.R_celln 0 HO266.out (a1 : Int) (oD) (oD); have HP26 := Kd.R_putg HO266.out (a1 : Int) 1) | ((with_reducible refine gate_store (t := 3) (p := 43) rfl ?_); refine store_event (t := 3) (p := 43) (v := ?vo_w27) (w1 := (w24.setCell ⟨go22, (a1 : Int).toNat, none⟩ (.int .i64 1))) ?hg ?ho ?hn ?hr ?_; (case ho => rfl); (case hg => rfl); (case hn => rfl); (case hr => go_simp <;> rfl); intro w27 hw; have hg : w24.grownBy w27 (some go22) := (by rw [hw]; exact HP26.2); have hp_ : Kd.R (Kd.int .i64) 3 w27 w.heap.size (fun _ => True) (.slice (some ⟨go22, 0, none⟩) y264.length co22) y267 := (by rw [hw, Ny267.out]; exact HP26.1); clear HP26; replace HO_8 := am (Kd.S_after (v := (.slice (some ⟨go22, 0, none⟩) y264.length co22)) (v1 := (.slice (some ⟨go22, 0, none⟩) y264.length co22)) (ok := (fun _ => True)) (by exact rS HO_8) hg (.inl rfl)); replace BK255 := am (blk_grown (g := gb255) (o := .cells #[.slice A0_0 l0_0.length c0_0] 28 (0, 0)) (by exact rX BK255) hg (Kd.R_ne HO266.out BK255.out (by decide))); replace HO266 := am (hp_); replace HB := am ((by rw [hw]; exact below_set (HB.out) GB22.out : Below w.heap.size w w27)); clear hg hw hp_)); go_loopg [10, 11] kj4 (fun kq v10 v11 w' => ∃ (x10_2 : List Int) (x11_2 : Int), v11 = .int .i64 x11_2 ∧ Aside0 (spec_LettersAfter.l0 kq a2 t256 x10_2 x11_2 = some (r1, r2)) ∧ Aside0 (kq ≤ kj4) ∧ Aside0 (Kd.S (Kd.slice 3 (Kd.int .i64)) 36 w' w.heap.size (fun k_ => some k_ ≠ (v10 : Value).ownBlock) (.slice Ao23 t256.length co23) t256) ∧ Aside0 (Kd.R (Kd.int .i64) 3 w' w.heap.size (fun _ => True) v10 x10_2) ∧ Aside0 (w'.heap[gb255]? = some (.cells #[(.slice A0_0 l0_0.length c0_0)] 28 (0, 0))) ∧ Aside0 (Below w.heap.size w w'))
        case atStart => exact ⟨(y267), (0), (by first | rfl | (simp; done) | (simp [*]; done)), H', ⟨Nat.le_refl _⟩, ⟨by exact xS (Kd.S_mono HO_8.out (fun _ hk => hk.2))⟩, ⟨by exact rR HO266⟩, ⟨by exact rX BK255⟩, ⟨by exact rB HB⟩⟩
        case round =>
         clear H'
         try clear c1
         try clear c2
         try clear p2
         try clear q2
         try clear hx2
         try clear c9
         try clear c10
         try clear c10b0
         try clear c11
         try clear c11b0
         try clear c15
         try clear c16
         try clear c18
         try clear c18b0
         try clear c18b1
         try clear c19
         try clear c19b0
         try clear c19b1
         try clear c20
         try clear c20b0
         try clear c21
         try clear c21b0
         try clear p22
         try clear q22
         try clear hx22
         try clear hf22
         try clear c26
         try clear hcz7_0
         try clear hfz7_0
         try clear hx22_0
         try clear p2
         try clear p22
         try clear q22
         obtain ⟨x10_2, x11_2, rfl, HA, HK2, HO_8, HO_10, BK255, HB⟩ := hrel; cases gk with
         | zero => exact absurd HA.out (by simp [spec_LettersAfter.l0])
         | succ k2 =>
          have H := HA.out; clear HA; simp only [spec_LettersAfter.l0] at H; by_cases c28 : x11_2 < a2
          ·rw [if_pos c28] at H; have c28b0 : decide (x11_2 < a2) = true := decide_eq_true c28; clear c28; by_cases c29 : 0 ≤ (t256.length : Int)
           ·rw [if_pos c29] at H; have c29b0 := eq_true c29; have c29b1 : decide (0 ≤ (t256.length : Int)) = true := decide_eq_true c29; clear c29; by_cases c30 : ((t256.length : Int) : Int).toNat ≤ 35184372088832
            ·rw [if_pos c30] at H; have c30b0 := eq_true c30; have c30b1 : decide (((t256.length : Int) : Int).toNat ≤ 35184372088832) = true := decide_eq_true c30; clear c30; obtain ⟨y268, hy268⟩ : ∃ y_ : List Int, y_ = (List.replicate ((t256.length : Int) : Int).toNat 0) := ⟨_, rfl⟩; replace H : (spec_LettersAfter.l1 k2 a2 t256 x10_2 x11_2 y268 0) = some (r1, r2) := by rw [hy268]; first | exact H | exact (Option.bind_some _ _).symm.trans H
             have Ny268 := am hy268; clear hy268; have H' := am H; clear H; go_wp2_with (first | ((with_reducible refine gate_dst (N := 51) rfl ?_); (try (refine gate_guard (by rfl) ?_; dsimp only)); refine Kd.R_make (Kd.int .i64) _ 3 rfl (N := 51) rfl 36 _ _ rfl (t256.length : Int) rfl rfl Try.underlying36 (.int .i64 0) 8 info3 rfl (by decide) (by omega) 0 (ok := fun _ => True) (okp := fun _ => True) rfl (fun _ hk => hk) trivial (oD) (Nat.le_trans (Nat.mul_le_mul_right _ (oD : (t256.length : Int).toNat ≤ 35184372088832)) (by omega)) (Below.refl _ _) (Nat.le_refl _) ?_; intro v269 w31 ho32 hb hg_ hnew_; clear hg_ hnew_; (first | rw [← Ny268.out] at ho32 | (simp only [Int.reduceToNat] at ho32; rw [← Ny268.out] at ho32)); replace HO_8 := am (Kd.S_elder' (by exact rS HO_8) (Kd.R_base ho32) hb); have HO270 := am (Kd.R_lower (Kd.R_new' ho32 (Kd.R_lt (by exact rR HO_10))) (bZ HB)); replace HO_10 := am (Kd.R_elder' (by exact rR HO_10) (Kd.R_base ho32) hb); replace BK255 := bK BK255 hb; replace HB := bS HB hb; clear hb ho32)); go_loopg [13] k2 (fun kq v13 w' => ∃ (x12_3 : List Int) (x13_3 : Int), v13 = .int .i64 x13_3 ∧ Aside0 (spec_LettersAfter.l1 kq a2 t256 x10_2 x11_2 x12_3 x13_3 = some (r1, r2)) ∧ Aside0 (kq ≤ k2) ∧ Aside0 (Kd.S (Kd.slice 3 (Kd.int .i64)) 36 w' w.heap.size (fun k_ => some k_ ≠ (u10 : Value).ownBlock ∧ some k_ ≠ (v269 : Value).ownBlock) (.slice Ao23 t256.length co23) t256) ∧ Aside0 (Kd.R (Kd.int .i64) 3 w' w.heap.size (fun k_ => some k_ ≠ (v269 : Value).ownBlock) u10 x10_2) ∧ Aside0 (Kd.R (Kd.int .i64) 3 w' w.heap.size (fun k_ => some k_ ≠ (u10 : Value).ownBlock) v269 x12_3) ∧ Aside0 (w'.heap[gb255]? = some (.cells #[(.slice A0_0 l0_0.length c0_0)] 28 (0, 0))) ∧ Aside0 (Below w.heap.size w w'))
             case atStart => exact ⟨(y268), (0), (by first | rfl | (simp; done) | (simp [*]; done)), H', ⟨Nat.le_refl _⟩, ⟨by exact rS HO_8⟩, ⟨by exact xR (Kd.R_mono HO_10.out (fun _ hk => hk.2))⟩, ⟨by exact xR (Kd.R_mono HO270.out (fun _ hk => hk.2))⟩, ⟨by exact rX BK255⟩, ⟨by exact rB HB⟩⟩
             case round =>
              clear H'
              try clear c1
              try clear c2
              try clear p2
              try clear q2
              try clear hx2
              try clear c3
              try clear c9
              try clear c10
              try clear c10b0
              try clear c11
              try clear c11b0
              try clear c15
              try clear c16
              try clear c18
              try clear c18b0
              try clear c18b1
              try clear c19
              try clear c19b0
              try clear c19b1
              try clear c20
              try clear c20b0
              try clear c21
              try clear c21b0
              try clear p22
              try clear q22
              try clear hx22
              try clear hf22
              try clear c26
              try clear c28
              try clear c28b0
              try clear c29
              try clear c29b0
              try clear c29b1
              try clear c30
              try clear c30b0
              try clear c30b1
              try clear hcz7_0
              try clear hfz7_0
              try clear hx22_0
              try clear p2
              try clear p22
              try clear q2
              try clear q22
              obtain ⟨x12_3, x13_3, rfl, HA, HK3, HO_8, HO_10, HO_12, BK255, HB⟩ := hrel; cases gk with
              | zero => exact absurd HA.out (by simp [spec_LettersAfter.l1])
              | succ k3 =>
               have H := HA.out; clear HA; simp only [spec_LettersAfter.l1] at H; by_cases c33 : x13_3 < (t256.length : Int)
               ·rw [if_pos c33] at H; have c33b0 : decide (x13_3 < (t256.length : Int)) = true := decide_eq_true c33; clear c33; have H' := am H; clear H; go_wp2; go_loopg [14] k3 (fun kq v14 w' => ∃ (x12_4 : List Int) (x14_4 : Int), v14 = .int .i64 x14_4 ∧ Aside0 (spec_LettersAfter.l2 kq a2 t256 x10_2 x11_2 x12_4 x13_3 x14_4 = some (r1, r2)) ∧ Aside0 (kq ≤ k3) ∧ Aside0 (Kd.S (Kd.slice 3 (Kd.int .i64)) 36 w' w.heap.size (fun k_ => some k_ ≠ (u10 : Value).ownBlock ∧ some k_ ≠ (v269 : Value).ownBlock) (.slice Ao23 t256.length co23) t256) ∧ Aside0 (Kd.R (Kd.int .i64) 3 w' w.heap.size (fun k_ => some k_ ≠ (v269 : Value).ownBlock) u10 x10_2) ∧ Aside0 (Kd.R (Kd.int .i64) 3 w' w.heap.size (fun k_ => some k_ ≠ (u10 : Value).ownBlock) v269 x12_4) ∧ Aside0 (w'.heap[gb255]? = some (.cells #[(.slice A0_0 l0_0.length c0_0)] 28 (0, 0))) ∧ Aside0 (Below w.heap.size w w'))
                case atStart => exact ⟨(x12_3), (0), (by first | rfl | (simp; done) | (simp [*]; done)), H', ⟨Nat.le_refl _⟩, ⟨by exact rS HO_8⟩, ⟨by exact rR HO_10⟩, ⟨by exact rR HO_12⟩, ⟨by exact rX BK255⟩, ⟨by exact rB HB⟩⟩
                case round =>
                 clear H'
                 try clear c1
                 try clear c2
                 try clear p2
                 try clear q2
                 try clear hx2
                 try clear c3
                 try clear c9
                 try clear c10
                 try clear c10b0
                 try clear c11
                 try clear c11b0
                 try clear c15
                 try clear c16
                 try clear c18
                 try clear c18b0
                 try clear c18b1
                 try clear c19
                 try clear c19b0
                 try clear c19b1
                 try clear c20
                 try clear c20b0
                 try clear c21
                 try clear c21b0
                 try clear p22
                 try clear q22
                 try clear hx22
                 try clear hf22
                 try clear c26
                 try clear c28
                 try clear c28b0
                 try clear c29
                 try clear c29b0
                 try clear c29b1
                 try clear c30
                 try clear c30b0
                 try clear c30b1
                 try clear c33
                 try clear c33b0
                 try clear hcz7_0
                 try clear hfz7_0
                 try clear hx22_0
                 try clear p2
                 try clear p22
                 try clear q2
                 try clear q22
                 obtain ⟨x12_4, x14_4, rfl, HA, HK4, HO_8, HO_10, HO_12, BK255, HB⟩ := hrel; cases gk with
                 | zero => exact absurd HA.out (by simp [spec_LettersAfter.l2])
                 | succ k4 =>
                  have H := HA.out; clear HA; simp only [spec_LettersAfter.l2] at H; by_cases c34 : x14_4 < (t256.length : Int)
                  ·rw [if_pos c34] at H; have c34b0 : decide (x14_4 < (t256.length : Int)) = true := decide_eq_true c34; clear c34; by_cases c35 : 0 ≤ x14_4
                   ·rw [if_pos c35] at H; have c35b0 : decide (0 ≤ x14_4) = true := decide_eq_true c35; clear c35; by_cases c36 : x14_4 < (x12_4.length : Int)
                    ·rw [if_pos c36] at H; have c36b0 : decide (x14_4 < (x12_4.length : Int)) = true := decide_eq_true c36; clear c36; by_cases c37 : 0 ≤ x13_3
                     ·rw [if_pos c37] at H; have c37b0 : decide (0 ≤ x13_3) = true := decide_eq_true c37; clear c37; by_cases c38 : x13_3 < (x10_2.length : Int)
                      ·rw [if_pos c38] at H; have c38b0 : decide (x13_3 < (x10_2.length : Int)) = true := decide_eq_true c38; clear c38; by_cases c39 : x13_3 < (t256.length : Int)
                       ·rw [if_pos c39] at H; have c39b0 : decide (x13_3 < (t256.length : Int)) = true := decide_eq_true c39; clear c39; by_cases c40 : x14_4 < ((rd_L1 t256 x13_3).length : Int)
                        ·rw [if_pos c40] at H; have c40b0 : decide (x14_4 < ((rd_L1 t256 x13_3).length : Int)) = true := decide_eq_true c40; clear c40; obtain ⟨y275, hy275⟩ : ∃ y_ : List Int, y_ = (x12_4.set (x14_4 : Int).toNat (wrap64 ((rd x12_4 x14_4) + (wrap64 ((rd x10_2 x13_3) * (rd (rd_L1 t256 x13_3) x14_4)))))) := ⟨_, rfl⟩; replace H : (spec_LettersAfter.l2 k4 a2 t256 x10_2 x11_2 y275 x13_3 (wrap64 (x14_4 + 1))) = some (r1, r2) := by rw [hy275]; first | exact H | exact (Option.bind_some _ _).symm.trans H
                         have Ny275 := am hy275; clear hy275; have H' := am H; clear H
                         try go_wp2
                         replace HO_8 := am (Kd.S_drew HO_8.out); replace HO_10 := am (Kd.R_drew HO_10.out); replace HO_12 := am (Kd.R_drew HO_12.out); replace BK255 := am (blk_drew BK255.out); replace HB := am (below_drew1 HB.out)
                         obtain ⟨Ao43, co43, eo43⟩ := Kd.R_slice HO_12.out
                         (first | subst eo43 | (injection eo43 with f1_ f2_ f3_; have f4_ := f1_.symm; have f5_ := f3_.symm; clear f1_ f2_ f3_; subst f4_; subst f5_))
                         have p271 : 0 ≤ (x14_4 : Int) := oD; have q271 : x14_4 < (x12_4.length : Int) := oD; obtain ⟨ad271, e271, hx271_0⟩ := Kd.at_int (Kd.R_reads' HO_12.out).2.2 x14_4 p271 q271; cases e271; replace p271 := eq_true p271; replace q271 := eq_true q271; obtain ⟨Ao44, co44, eo44⟩ := Kd.R_slice HO_10.out
                         (first | subst eo44 | (injection eo44 with f1_ f2_ f3_; have f4_ := f1_.symm; have f5_ := f3_.symm; clear f1_ f2_ f3_; subst f4_; subst f5_))
                         have p272 : 0 ≤ (x13_3 : Int) := oD; have q272 : x13_3 < (x10_2.length : Int) := oD; obtain ⟨ad272, e272, hx272_0⟩ := Kd.at_int (Kd.R_reads' HO_10.out).2.2 x13_3 p272 q272; cases e272; replace p272 := eq_true p272; replace q272 := eq_true q272; have p273 : 0 ≤ (x13_3 : Int) := oD; have q273 : x13_3 < (t256.length : Int) := oD; obtain ⟨ad273, A273_0, c273_0, e273, hx273_0, hl273_0, hi273_0⟩ := at_L1 (Kd.S_reads' HO_8.out).2.2 x13_3 p273 q273; cases e273; obtain ⟨ce273, hce273, hMe273, hcc273⟩ := Kd.S_get HO_8.out [] x13_3 p273 (by first | exact q273 | exact oD | (have e_ := (Kd.S_reads' HO_8.out).1; omega)); obtain ⟨ve273_0, rfl, ge273_0⟩ := hMe273; have hv273_0 := hcc273 0 _ rfl; rw [Nat.add_zero, show ((Kd.slice 3 (Kd.int .i64))).sz = 1 from rfl, Nat.mul_one] at hv273_0; replace hv273_0 := Option.some.inj (hv273_0.symm.trans hx273_0); rw [hv273_0] at ge273_0; have HL273_0 := am (show Kd.R (Kd.int .i64) 3 _ _ _ _ (rd_L1 t256 x13_3) from ge273_0); clear hv273_0 ge273_0; clear hcc273 hce273; have HR273_0 := am hi273_0; have HC273_0 := am hl273_0; clear hi273_0 hl273_0; replace p273 := eq_true p273; replace q273 := eq_true q273; have p274 : 0 ≤ (x14_4 : Int) := oD; have q274 : x14_4 < ((rd_L1 t256 x13_3).length : Int) := oD; obtain ⟨ad274, e274, hx274_0⟩ := Kd.at_int (by repeat (first | (with_reducible exact HR273_0.out) | (with_reducible refine Kd.C_alloc ?_ _) | (with_reducible refine Kd.C_drewN ?_ _) | (with_reducible refine Kd.C_drew ?_) | exact HR273_0.out)) x14_4 p274 q274; cases e274; replace p274 := eq_true p274; replace q274 := eq_true q274; have p41 : 0 ≤ (x14_4 : Int) := oD; have q41 : (x14_4 : Int) < ((x12_4.length : Int) : Int) := oD; obtain ⟨go41, co41, eo41, gb41, gl41, cl41, HG41⟩ := Kd.R_form HO_12.out (by omega)
                         (first | cases eo41 | (injection eo41 with ea_ en_ ec_; (first | subst ea_ | (injection ea_ with ea_; subst ea_)); subst ec_; clear en_))
                         have GB41 := am gb41; have GG41 := am HG41; clear gb41 gl41 HG41
                         (first | simp only [add_plain] at hx271_0 | skip)
                         obtain ⟨hx41_0, hf41_0⟩ := Kd.R_celln 0 HO_12.out (x14_4 : Int) p41 q41; replace p41 := eq_true p41; replace q41 := eq_true q41; have HP45 := Kd.R_putn HO_12.out (x14_4 : Int) (wrap64 ((rd x12_4 x14_4) + (wrap64 ((rd x10_2 x13_3) * (rd (rd_L1 t256 x13_3) x14_4))))); rw [← Ny275.out] at HP45; have HQ45 := am HP45; clear HP45; refine start_ (n := 21) (S := fun w' => w'.cell? ⟨go41, (x14_4).toNat, none⟩ = some (.int .i64 (rd x12_4 x14_4)) ∧ w'.cell? (ad272.add (x13_3).toNat) = some (.int .i64 (rd x10_2 x13_3)) ∧ w'.cell? (ad273.add (x13_3).toNat) = some (.slice (some ad274) (rd_L1 t256 x13_3).length c273_0) ∧ w'.cell? (ad274.add (x14_4).toNat) = some (.int .i64 (rd (rd_L1 t256 x13_3) x14_4))) (ds := [20]) #[false, false, false, false, false, false, false, false, false, false, false, false, false, false, false, false, false, false, false, false, false] (by kernel_rfl) rfl rfl ⟨hx271_0, hx272_0, hx273_0, hx274_0⟩ (fun hHeld => ?_); refine with_tabW spec_LettersAfter.tab16 spec_LettersAfter.bits16 (fun HT_ HW_ => ?_); generalize wr.drew = w42 at HO_8 HO_10 HO_12 BK255 HB GG41 HL273_0 HQ45 HR273_0 hf41_0 hx271_0 hx272_0 hx273_0 hx274_0 hx41_0 hHeld ⊢; refine pure_ (i := 0) (N := some 64) (v := ?_) (a' := ?_) (bA 21 1) rfl rfl (any_of HT_.out (by kernel_rfl)) (fun _ _ _ h => h) (Or.inl ⟨by rfl, ?_⟩) ?_ ?_; rotate_left; (intro w'; go_simp; (with_reducible rfl)); rotate_left; (simp only [Act.put, qa, qz, qs, i64_w, i32_w]; rfl); refine pure_ (i := 1) (N := some 65) (v := ?_) (a' := ?_) (bA 21 3) rfl rfl (any_of HT_.out (by kernel_rfl)) (fun _ _ _ h => h) (Or.inl ⟨by rfl, ?_⟩) ?_ ?_; rotate_left
                         ·intro w'; go_simp; (with_reducible rfl)
                         rotate_left; (simp only [Act.put, qa, qz, qs, i64_w, i32_w]; rfl); refine pure_ (i := 2) (N := some 66) (v := ?_) (a' := ?_) (bA 21 7) rfl rfl (any_of HT_.out (by kernel_rfl)) (fun _ _ _ h => h) (Or.inl ⟨by rfl, ?_⟩) ?_ ?_; rotate_left
                         ·intro w'; go_simp; (with_reducible rfl)
                         rotate_left; (simp only [Act.put, qa, qz, qs, i64_w, i32_w]; rfl); refine pure_ (i := 3) (N := some 67) (v := ?_) (a' := ?_) (bA 21 15) rfl rfl (any_of HT_.out (by kernel_rfl)) (fun _ _ _ h => h) (Or.inl ⟨by rfl, ?_⟩) ?_ ?_; rotate_left
                         ·intro w'; go_simp; (with_reducible rfl)
                         rotate_left; (simp only [Act.put, qa, qz, qs, i64_w, i32_w]; rfl); refine pure_ (i := 4) (N := some 68) (v := ?_) (a' := ?_) (bA 21 31) rfl rfl (any_of HT_.out (by kernel_rfl)) (fun _ _ _ h => h) (Or.inl ⟨by rfl, ?_⟩) ?_ ?_; rotate_left
                         ·intro w'; go_simp; (with_reducible rfl)
                         rotate_left; (simp only [Act.put, qa, qz, qs, i64_w, i32_w]; rfl); refine pure_ (i := 6) (N := some 70) (v := ?_) (a' := ?_) (bA 21 95) rfl rfl (any_of HT_.out (by kernel_rfl)) (fun _ _ _ h => h) (Or.inl ⟨by rfl, ?_⟩) ?_ ?_; rotate_left
                         ·intro w'; go_simp; (with_reducible rfl)
                         rotate_left; (simp only [Act.put, qa, qz, qs, i64_w, i32_w]; rfl); refine pure_ (i := 7) (N := some 71) (v := ?_) (a' := ?_) (bA 21 223) rfl rfl (any_of HT_.out (by kernel_rfl)) (fun _ _ _ h => h) (Or.inl ⟨by rfl, ?_⟩) ?_ ?_; rotate_left
                         ·intro w'; go_simp; (with_reducible rfl)
                         rotate_left; (simp only [Act.put, qa, qz, qs, i64_w, i32_w]; rfl); refine pure_ (i := 8) (N := some 72) (v := ?_) (a' := ?_) (bA 21 479) rfl rfl (any_of HT_.out (by kernel_rfl)) (fun _ _ _ h => h) (Or.inl ⟨by rfl, ?_⟩) ?_ ?_; rotate_left
                         ·intro w'; go_simp; (with_reducible rfl)
                         rotate_left; (simp only [Act.put, qa, qz, qs, i64_w, i32_w]; rfl); refine pure_ (i := 10) (N := some 74) (v := ?_) (a' := ?_) (bA 21 1503) rfl rfl (any_of HT_.out (by kernel_rfl)) (fun _ _ _ h => h) (Or.inl ⟨by rfl, ?_⟩) ?_ ?_; rotate_left
                         ·intro w'; go_simp; (with_reducible rfl)
                         rotate_left; (simp only [Act.put, qa, qz, qs, i64_w, i32_w]; rfl); refine pure_ (i := 11) (N := some 75) (v := ?_) (a' := ?_) (bA 21 3551) rfl rfl (any_of HT_.out (by kernel_rfl)) (fun _ _ _ h => h) (Or.inl ⟨by rfl, ?_⟩) ?_ ?_; rotate_left
                         ·intro w'; go_simp; (with_reducible rfl)
                         rotate_left; (simp only [Act.put, qa, qz, qs, i64_w, i32_w]; rfl); refine pure_ (i := 12) (N := some 76) (v := ?_) (a' := ?_) (bA 21 7647) rfl rfl (any_of HT_.out (by kernel_rfl)) (fun _ _ _ h => h) (Or.inl ⟨by rfl, ?_⟩) ?_ ?_; rotate_left
                         ·intro w'; go_simp; (with_reducible rfl)
                         rotate_left; (simp only [Act.put, qa, qz, qs, i64_w, i32_w]; rfl); refine pure_ (i := 14) (N := some 78) (v := ?_) (a' := ?_) (bA 21 24031) rfl rfl (any_of HT_.out (by kernel_rfl)) (fun _ _ _ h => h) (Or.inl ⟨by rfl, ?_⟩) ?_ ?_; rotate_left
                         ·intro w'; go_simp; (with_reducible rfl)
                         rotate_left; (simp only [Act.put, qa, qz, qs, i64_w, i32_w]; rfl); refine take_ (i := 5) (N := some 69) (v := ?_) (a' := ?_) (bA 21 24063) rfl rfl (take_ofW HT_.out HW_.out (by kernel_rfl)) (fun _ _ _ h => h) (Or.inl ⟨by rfl, ?_⟩) hHeld ?_ ?_; rotate_left
                         ·rintro w' ⟨s0, s1, s2, s3⟩; go_simp; (with_reducible rfl)
                         rotate_left; (simp only [Act.put, qa, qz, qs, i64_w, i32_w]; rfl); refine take_ (i := 9) (N := some 73) (v := ?_) (a' := ?_) (bA 21 24575) rfl rfl (take_ofW HT_.out HW_.out (by kernel_rfl)) (fun _ _ _ h => h) (Or.inl ⟨by rfl, ?_⟩) hHeld ?_ ?_; rotate_left
                         ·rintro w' ⟨s0, s1, s2, s3⟩; go_simp; (with_reducible rfl)
                         rotate_left; (simp only [Act.put, qa, qz, qs, i64_w, i32_w]; rfl); refine take_ (i := 13) (N := some 77) (v := ?_) (a' := ?_) (bA 21 32767) rfl rfl (take_ofW HT_.out HW_.out (by kernel_rfl)) (fun _ _ _ h => h) (Or.inl ⟨by rfl, ?_⟩) hHeld ?_ ?_; rotate_left
                         ·rintro w' ⟨s0, s1, s2, s3⟩; go_simp; (with_reducible rfl)
                         rotate_left; (simp only [Act.put, qa, qz, qs, i64_w, i32_w]; rfl); refine pure_ (i := 15) (N := some 79) (v := ?_) (a' := ?_) (bA 21 65535) rfl rfl (any_of HT_.out (by kernel_rfl)) (fun _ _ _ h => h) (Or.inl ⟨by rfl, ?_⟩) ?_ ?_; rotate_left
                         ·intro w'; go_simp; (with_reducible rfl)
                         rotate_left; (simp only [Act.put, qa, qz, qs, i64_w, i32_w]; rfl); refine take_ (i := 16) (N := some 80) (v := ?_) (a' := ?_) (bA 21 131071) rfl rfl (take_ofW HT_.out HW_.out (by kernel_rfl)) (fun _ _ _ h => h) (Or.inl ⟨by rfl, ?_⟩) hHeld ?_ ?_; rotate_left
                         ·rintro w' ⟨s0, s1, s2, s3⟩; go_simp; (with_reducible rfl)
                         rotate_left; (simp only [Act.put, qa, qz, qs, i64_w, i32_w]; rfl); refine pure_ (i := 17) (N := some 81) (v := ?_) (a' := ?_) (bA 21 262143) rfl rfl (any_of HT_.out (by kernel_rfl)) (fun _ _ _ h => h) (Or.inl ⟨by rfl, ?_⟩) ?_ ?_; rotate_left
                         ·intro w'; go_simp; (with_reducible rfl)
                         rotate_left; (simp only [Act.put, qa, qz, qs, i64_w, i32_w]; rfl); refine pure_ (i := 18) (N := some 82) (v := ?_) (a' := ?_) (bA 21 524287) rfl rfl (any_of HT_.out (by kernel_rfl)) (fun _ _ _ h => h) (Or.inl ⟨by rfl, ?_⟩) ?_ ?_; rotate_left
                         ·intro w'; go_simp; (with_reducible rfl)
                         rotate_left; (simp only [Act.put, qa, qz, qs, i64_w, i32_w]; rfl); refine pure_ (i := 19) (N := some 83) (v := ?_) (a' := ?_) (bA 21 1048575) rfl rfl (any_of HT_.out (by kernel_rfl)) (fun _ _ _ h => h) (Or.inl ⟨by rfl, ?_⟩) ?_ ?_; rotate_left
                         ·intro w'; go_simp; (with_reducible rfl)
                         rotate_left; (simp only [Act.put, qa, qz, qs, i64_w, i32_w]; rfl); refine last_ (i := 20) (N := none) (bA 21 2097151) rfl rfl (one_of HT_.out (by kernel_rfl)) (by decide) (fun K hK => ?_); refine skip_ (w1 := ?_) (by rfl) rfl ?_ ?_; rotate_left
                         ·go_simp; rfl
                         refine hK.out _ _ ?_; clear hK K; refine done_ (done_of HT_.out (by kernel_rfl)) ?_
                         try go_wp2
                         go_roundg k4
                         case measure => have := HJ4.out; have := HK2.out; have := HK3.out; have := HK4.out; omega
                         case rel => exact ⟨(y275), (wrap64 (x14_4 + 1)), (by first | rfl | (simp; done) | (simp [*]; done)), H', ⟨by have := HJ4.out; have := HK2.out; have := HK3.out; have := HK4.out; omega⟩, ⟨by (with_reducible repeat (first | apply Kd.S_alloc | apply Kd.S_drewN | apply Kd.S_drew)); exact Kd.S_mono (Kd.S_far (p := ⟨go41, (x14_4 : Int).toNat, none⟩) (Kd.S_mono HO_8.out (fun k_ hk => (⟨hk, fun e_ => hk.2 (by rw [e_]; rfl)⟩ : _ ∧ k_ ≠ go41))) (fun _ hk => hk.2) (.int .i64 (wrap64 ((rd x12_4 x14_4) + (wrap64 ((rd x10_2 x13_3) * (rd (rd_L1 t256 x13_3) x14_4))))))) (fun _ hk => ⟨hk.1.1, hk.1.2⟩)⟩, ⟨by (with_reducible repeat (first | apply Kd.R_alloc | apply Kd.R_drewN | apply Kd.R_drew)); exact Kd.R_mono (Kd.R_far (p := ⟨go41, (x14_4 : Int).toNat, none⟩) (Kd.R_mono HO_10.out (fun k_ hk => (⟨hk, fun e_ => hk (by rw [e_]; rfl)⟩ : _ ∧ k_ ≠ go41))) (fun _ hk => hk.2) (.int .i64 (wrap64 ((rd x12_4 x14_4) + (wrap64 ((rd x10_2 x13_3) * (rd (rd_L1 t256 x13_3) x14_4))))))) (fun _ hk => hk.1)⟩, ⟨by (with_reducible repeat (first | apply Kd.R_alloc | apply Kd.R_drewN | apply Kd.R_drew)); exact HQ45.out⟩, ⟨by (with_reducible repeat (first | refine blk_drewN ?_ _ | refine blk_drew ?_ | refine blk_alloc ?_ _)); refine blk_far ?_ (by have h_ := Kd.R_ne HO_12.out BK255.out (by decide); intro e_; exact h_ (by rw [e_]; rfl)) _; (with_reducible repeat (first | refine blk_drewN ?_ _ | refine blk_drew ?_ | refine blk_alloc ?_ _)); exact BK255.out⟩, ⟨by repeat (first | (with_reducible first | exact HB.out | apply below_alloc | apply pw_below_drewN | apply below_drew1 | refine below_set ?_ GB41.out | refine below_set ?_ GE255.out) | exact HB.out)⟩⟩
                        ·rw [if_neg c40] at H; exact absurd H (by simp)
                       ·rw [if_neg c39] at H; exact absurd H (by simp)
                      ·rw [if_neg c38] at H; exact absurd H (by simp)
                     ·rw [if_neg c37] at H; exact absurd H (by simp)
                    ·rw [if_neg c36] at H; exact absurd H (by simp)
                   ·rw [if_neg c35] at H; exact absurd H (by simp)
                  ·rw [if_neg c34] at H; have c34b0 : decide (x14_4 < (t256.length : Int)) = false := decide_eq_false c34; clear c34; have H' := am H; clear H; go_wp2; go_roundg k4
                   case measure => have := HJ4.out; have := HK2.out; have := HK3.out; have := HK4.out; omega
                   case rel => exact ⟨(x12_4), (wrap64 (x13_3 + 1)), (by first | rfl | (simp; done) | (simp [*]; done)), H', ⟨by have := HJ4.out; have := HK2.out; have := HK3.out; have := HK4.out; omega⟩, ⟨by exact rS HO_8⟩, ⟨by exact rR HO_10⟩, ⟨by exact rR HO_12⟩, ⟨by exact rX BK255⟩, ⟨by exact rB HB⟩⟩
               ·rw [if_neg c33] at H; have c33b0 : decide (x13_3 < (t256.length : Int)) = false := decide_eq_false c33; clear c33; have H' := am H; clear H; go_wp2; go_roundg k3
                case measure => have := HJ4.out; have := HK2.out; have := HK3.out; omega
                case rel => exact ⟨(x12_3), (wrap64 (x11_2 + 1)), (by first | rfl | (simp; done) | (simp [*]; done)), H', ⟨by have := HJ4.out; have := HK2.out; have := HK3.out; omega⟩, ⟨by exact xS (Kd.S_mono HO_8.out (fun _ hk => hk.2))⟩, ⟨by exact xR (Kd.R_mono HO_12.out (fun _ hk => trivial))⟩, ⟨by exact rX BK255⟩, ⟨by exact rB HB⟩⟩
            ·rw [if_neg c30] at H; exact absurd H (by simp)
           ·rw [if_neg c29] at H; exact absurd H (by simp)
          ·rw [if_neg c28] at H; have c28b0 : decide (x11_2 < a2) = false := decide_eq_false c28; clear c28; simp only [Option.some.injEq, Prod.mk.injEq] at H; obtain ⟨rfl, rfl⟩ := H; go_wp2; go_ret2; exact ⟨_, by first | rfl | (simp [errW_none, errW_some] <;> rfl) | (simp [*, errW_none, errW_some] <;> rfl), by exact rR HO_10, by exact rB HB⟩
       ·rw [if_neg c21] at H; exact absurd H (by simp)
      ·rw [if_neg c20] at H; exact absurd H (by simp)
     ·rw [if_neg c19] at H; exact absurd H (by simp)
    ·rw [if_neg c18] at H; exact absurd H (by simp)
mutual
def impl_LettersAfter.j0 : Nat → Int → Int → List (List Int) → Bool → Option (List Int × Bool)
 | 0, _, _, _, _ => none
 | k + 1, x1, x2, x8, x40 => if x40 = true then (some ((([] : List Int)), false)) else (if 0 ≤ (x8.length : Int) then (if ((x8.length : Int) : Int).toNat ≤ 35184372088832 then ((some (List.replicate ((x8.length : Int) : Int).toNat 0 : List Int)).bind fun y284 => (if 0 ≤ x1 then (if x1 < (y284.length : Int) then (impl_LettersAfter.l0 k x8 (y284.set (x1 : Int).toNat 1) x2 0) else (none)) else (none))) else (none)) else (none))
def impl_LettersAfter.l0 : Nat → List (List Int) → List Int → Int → Int → Option (List Int × Bool)
 | 0, _, _, _, _ => none
 | k + 1, x8, x10, x48, x49 => if x49 < x48 then (if 0 ≤ (x10.length : Int) then (if ((x10.length : Int) : Int).toNat ≤ 35184372088832 then (impl_LettersAfter.l1 k x8 (List.replicate ((x10.length : Int) : Int).toNat 0) x48 x49 x10 (x10.length : Int) 0) else (none)) else (none)) else (some (x10, true))
def impl_LettersAfter.l1 : Nat → List (List Int) → List Int → Int → Int → List Int → Int → Int → Option (List Int × Bool)
 | 0, _, _, _, _, _, _, _ => none
 | k + 1, x8, x11, x48, x49, x54, x55, x56 => if x56 < x55 then (if 0 ≤ x56 then (if x56 < (x54.length : Int) then (if x56 < (x8.length : Int) then (impl_LettersAfter.l2 k x8 x11 (rd x54 x56) x48 x49 x54 x55 x56 (rd_L1 x8 x56) ((rd_L1 x8 x56).length : Int) 0) else (none)) else (none)) else (none)) else (impl_LettersAfter.l0 k x8 x11 x48 (wrap64 (x49 + 1)))
def impl_LettersAfter.l2 : Nat → List (List Int) → List Int → Int → Int → Int → List Int → Int → Int → List Int → Int → Int → Option (List Int × Bool)
 | 0, _, _, _, _, _, _, _, _, _, _, _ => none
 | k + 1, x8, x11, x13, x48, x49, x54, x55, x56, x64, x65, x66 => if x66 < x65 then (if 0 ≤ x66 then (if x66 < (x64.length : Int) then (if x66 < (x11.length : Int) then (impl_LettersAfter.l2 k x8 (x11.set (x66 : Int).toNat (wrap64 ((rd x11 x66) + (wrap64 (x13 * (rd x64 x66)))))) x13 x48 x49 x54 x55 x56 x64 x65 (wrap64 (x66 + 1))) else (none)) else (none)) else (none)) else (impl_LettersAfter.l1 k x8 x11 x48 x49 x54 x55 (wrap64 (x56 + 1)))
end
def impl_LettersAfter.f (k : Nat) (l0_0 : List (List Int)) (a1 : Int) (a2 : Int) : Option (List Int × Bool) := (impl_IncidenceOf.f k l0_0).bind fun bt277 => (if bt277.2 = true then (if a1 < 0 then (impl_LettersAfter.j0 k a1 a2 bt277.1 true) else (if a1 ≥ (bt277.1.length : Int) then (impl_LettersAfter.j0 k a1 a2 bt277.1 true) else (if a2 < 0 then (impl_LettersAfter.j0 k a1 a2 bt277.1 true) else (impl_LettersAfter.j0 k a1 a2 bt277.1 (decide (a2 > 12)))))) else (impl_LettersAfter.j0 k a1 a2 bt277.1 true))
set_option maxHeartbeats 8000000 in
set_option maxRecDepth 100000 in
theorem impl_LettersAfter.calls (k : Nat) (A0_0 : Option Addr) (c0_0 : Nat) (l0_0 : List (List Int)) (a1 : Int) (a2 : Int) (r1 : List Int) (r2 : Bool) (w : World) (hr0_0 : Kd.C (Kd.slice 3 (Kd.int .i64)) w A0_0 l0_0.length l0_0) (hc0_0 : l0_0.length ≤ c0_0) (h : impl_LettersAfter.f k l0_0 a1 a2 = some (r1, r2)) :
  Calls Try.prog 27 #[.agg #[.slice A0_0 l0_0.length c0_0], .int .i64 a1, .int .i64 a2] w fun e w' => ∃ v0_ : Value, e = .returned (.tuple #[v0_, .bool r2]) ∧ Kd.R (Kd.int .i64) 3 w' w.heap.size (fun _ => True) v0_ r1 ∧ Below w.heap.size w w' := by
 have hu28 := Try.underlying28; have HR0_0 := am hr0_0; have HC0_0 := am hc0_0; clear hr0_0 hc0_0; have HB := am (Below.refl w.heap.size w); have H : ((impl_IncidenceOf.f k l0_0).bind fun bt277 => (if bt277.2 = true then (if a1 < 0 then (impl_LettersAfter.j0 k a1 a2 bt277.1 true) else (if a1 ≥ (bt277.1.length : Int) then (impl_LettersAfter.j0 k a1 a2 bt277.1 true) else (if a2 < 0 then (impl_LettersAfter.j0 k a1 a2 bt277.1 true) else (impl_LettersAfter.j0 k a1 a2 bt277.1 (decide (a2 > 12)))))) else (impl_LettersAfter.j0 k a1 a2 bt277.1 true))) = some (r1, r2) := h; clear h; replace H := bE H; obtain ⟨⟨t277, t280⟩, A40, H⟩ := H; replace H : (if t280 = true then (if a1 < 0 then (impl_LettersAfter.j0 k a1 a2 t277 true) else (if a1 ≥ (t277.length : Int) then (impl_LettersAfter.j0 k a1 a2 t277 true) else (if a2 < 0 then (impl_LettersAfter.j0 k a1 a2 t277 true) else (impl_LettersAfter.j0 k a1 a2 t277 (decide (a2 > 12)))))) else (impl_LettersAfter.j0 k a1 a2 t277 true)) = some (r1, r2) := H; have A4 := am A40; clear A40; have HC5 := am H; clear H; go_enter Try.func27, Try.ntmps27; go_upto_region 2 with (first | ((with_reducible refine gate_dst (N := 3) rfl ?_); (try (refine gate_guard (by rfl) ?_; dsimp only)); refine box_event ?hg (N := 3) ?hd (cs := #[.slice A0_0 l0_0.length c0_0]) (t := 28) ?hr ?_; (case hd | hg => rfl); (case hr => go_simp <;> rfl); intro gb276 hg w6 hbox hb; have BK276 := am (hbox); have GW276 := am ((by rw [hg]; exact (bZ HB) : w.heap.size ≤ gb276)); have GE276 := am ((by rw [hg]; exact (bZ HB) : w.heap.size ≤ gb276)); replace HB := bS HB hb; have qW276 := Ge.mk GW276.out; have qE276 := Ge.mk GE276.out; clear hb hbox hg; have hcz7_0 := z10 BK276; have hfz7_0 := blk_frozen BK276.out 0) | ((with_reducible refine gate_callee (f := 18) rfl ?_); refine goesL_ (some 18) rfl rfl Try.func18 (by kernel_rfl) rfl #[.agg #[.slice A0_0 l0_0.length c0_0]] rfl (by (try simp only [mT, mC, mN]); first | done | rfl) ?_; (with_reducible refine (impl_IncidenceOf.calls k _ _ l0_0 t277 t280 _ ?side1 ?side2 A4.out).mono ?_); (case side1 => exact xC ((Kd.C_below HR0_0.out HB.out))); (case side2 => exact HC0_0.out); rintro e w8 ⟨v278, rfl, ho0, hb⟩; refine ⟨_, rfl, ?_⟩; have HO279 := am (Kd.S_lower ho0 (bZ HB)); replace BK276 := bK BK276 hb; replace HB := bS HB hb; clear hb ho0)); (try simp only [Act.put, qa, qz, qs]); go_cut [40] (fun v40 wc => ∃ (kq : Nat) (x40_4 : Bool), v40 = .bool x40_4 ∧ Aside0 (impl_LettersAfter.j0 kq a1 a2 t277 x40_4 = some (r1, r2)) ∧ Aside0 (kq ≤ k) ∧ Aside0 (Kd.S (Kd.slice 3 (Kd.int .i64)) 36 wc w.heap.size (fun _ => True) v278 t277) ∧ Aside0 (wc.heap[gb276]? = some (.cells #[(.slice A0_0 l0_0.length c0_0)] 28 (0, 0))) ∧ Aside0 (Below w.heap.size w wc))
 case first =>
  have H := HC5.out; clear HC5; by_cases c9 : t280 = true
  ·subst c9; have H1 : (if a1 < 0 then (impl_LettersAfter.j0 k a1 a2 t277 true) else (if a1 ≥ (t277.length : Int) then (impl_LettersAfter.j0 k a1 a2 t277 true) else (if a2 < 0 then (impl_LettersAfter.j0 k a1 a2 t277 true) else (impl_LettersAfter.j0 k a1 a2 t277 (decide (a2 > 12)))))) = some (r1, r2) := by rw [if_pos rfl] at H; exact H
   clear H; have H := H1; clear H1; by_cases c10 : a1 < 0
   ·rw [if_pos c10] at H; have c10b0 : decide (a1 < 0) = true := decide_eq_true c10; clear c10
    (first | rw [c10b0] | (simp only [i64_w, i32_w]; rw [c10b0]) | skip)
    have H' := am H; clear H; go_wp2; go_meet
    case rel => exact ⟨_, (true), (by first | rfl | (simp; done) | (simp [*]; done)), H', ⟨by first | omega | exact Nat.le_refl _⟩, ⟨by exact rS HO279⟩, ⟨by exact rX BK276⟩, ⟨by exact rB HB⟩⟩
   ·rw [if_neg c10] at H; have c10b0 : decide (a1 < 0) = false := decide_eq_false c10; clear c10
    (first | rw [c10b0] | (simp only [i64_w, i32_w]; rw [c10b0]) | skip)
    by_cases c11 : a1 ≥ (t277.length : Int)
    ·rw [if_pos c11] at H; have c11b0 : decide ((t277.length : Int) ≤ a1) = true := decide_eq_true c11; clear c11; have H' := am H; clear H; obtain ⟨Ao12, co12, eo12⟩ := Kd.S_slice HO279.out; subst eo12; go_wp2; go_meet
     case rel => exact ⟨_, (true), (by first | rfl | (simp; done) | (simp [*]; done)), H', ⟨by first | omega | exact Nat.le_refl _⟩, ⟨by exact rS HO279⟩, ⟨by exact rX BK276⟩, ⟨by exact rB HB⟩⟩
    ·rw [if_neg c11] at H; have c11b0 : decide ((t277.length : Int) ≤ a1) = false := decide_eq_false c11; clear c11; by_cases c13 : a2 < 0
     ·rw [if_pos c13] at H; have c13b0 : decide (a2 < 0) = true := decide_eq_true c13; clear c13; have H' := am H; clear H; obtain ⟨Ao14, co14, eo14⟩ := Kd.S_slice HO279.out; subst eo14; go_wp2; go_meet
      case rel => exact ⟨_, (true), (by first | rfl | (simp; done) | (simp [*]; done)), H', ⟨by first | omega | exact Nat.le_refl _⟩, ⟨by exact rS HO279⟩, ⟨by exact rX BK276⟩, ⟨by exact rB HB⟩⟩
     ·rw [if_neg c13] at H; have c13b0 : decide (a2 < 0) = false := decide_eq_false c13; clear c13; have H' := am H; clear H; obtain ⟨Ao15, co15, eo15⟩ := Kd.S_slice HO279.out; subst eo15; go_wp2; go_meet
      case rel => exact ⟨_, (decide (a2 > 12)), (by first | rfl | (simp; done) | (simp [*]; done)), H', ⟨by first | omega | exact Nat.le_refl _⟩, ⟨by exact rS HO279⟩, ⟨by exact rX BK276⟩, ⟨by exact rB HB⟩⟩
  ·replace c9 := Bool.eq_false_iff.mpr c9; subst c9; have H1 : (impl_LettersAfter.j0 k a1 a2 t277 true) = some (r1, r2) := by rw [if_neg (show ¬ (false = true) by decide)] at H; exact H
   clear H; have H := H1; clear H1; have H' := am H; clear H; go_wp2; go_meet
   case rel => exact ⟨_, (true), (by first | rfl | (simp; done) | (simp [*]; done)), H', ⟨by first | omega | exact Nat.le_refl _⟩, ⟨by exact rS HO279⟩, ⟨by exact rX BK276⟩, ⟨by exact rB HB⟩⟩
 case rest =>
  clear HC5
  try clear c1
  try clear c2
  try clear p2
  try clear c9
  try clear c10
  try clear c10b0
  try clear c11
  try clear c11b0
  try clear c13
  try clear c13b0
  try clear hcz7_0
  try clear hfz7_0
  obtain ⟨kq, x40_4, rfl, HA, HJ4, HO_8, BK276, HB⟩ := hcut; cases kq with
  | zero => exact absurd HA.out (by simp [impl_LettersAfter.j0])
  | succ kj4 =>
   have H := HA.out; clear HA; simp only [impl_LettersAfter.j0] at H; by_cases c16 : x40_4 = true
   ·subst c16; have H1 : (some ((([] : List Int)), false)) = some (r1, r2) := by rw [if_pos rfl] at H; exact H
    clear H; have H := H1; clear H1; obtain ⟨y281, hy281⟩ : ∃ y_ : List Int, y_ = (([] : List Int)) := ⟨_, rfl⟩; replace H : (some (y281, false)) = some (r1, r2) := by rw [hy281]; first | exact H | exact (Option.bind_some _ _).symm.trans H
    have Ny281 := am hy281; clear hy281; simp only [Option.some.injEq, Prod.mk.injEq] at H; obtain ⟨rfl, rfl⟩ := H; go_wp2_with (first | ((with_reducible refine gate_dst (N := 41) rfl ?_); (try (refine gate_guard (by rfl) ?_; dsimp only)); refine Kd.R_lit (Kd.int .i64) _ 3 ?hg (N := 41) ?hd (xs := ([] : List Int)) (inner := []) (ok := fun _ => True) (okp := fun _ => True) ?hr ?hp (fun _ hk => hk) trivial (Below.refl _ _) (Nat.le_refl _) (by simp) ?_; (case hd | hg => rfl); (case hr => go_simp <;> rfl); (case hp => exact (Reps.none _ _)); intro v282 w17 ho18 hb hg_ hnew_; clear hg_ hnew_; (first | rw [← Ny281.out] at ho18 | (simp only [Int.reduceToNat] at ho18; rw [← Ny281.out] at ho18)); replace HO_8 := am (Kd.S_elder' (by exact rS HO_8) (Kd.R_base ho18) hb); have HO283 := am (Kd.R_lower ho18 (bZ HB)); replace BK276 := bK BK276 hb; replace HB := bS HB hb; clear hb ho18)); go_ret2; exact ⟨_, by first | rfl | (simp [errW_none, errW_some] <;> rfl) | (simp [*, errW_none, errW_some] <;> rfl), by exact rR HO283, by exact rB HB⟩
   ·replace c16 := Bool.eq_false_iff.mpr c16; subst c16; have H1 : (if 0 ≤ (t277.length : Int) then (if ((t277.length : Int) : Int).toNat ≤ 35184372088832 then ((some (List.replicate ((t277.length : Int) : Int).toNat 0 : List Int)).bind fun y284 => (if 0 ≤ a1 then (if a1 < (y284.length : Int) then (impl_LettersAfter.l0 kj4 t277 (y284.set (a1 : Int).toNat 1) a2 0) else (none)) else (none))) else (none)) else (none)) = some (r1, r2) := by rw [if_neg (show ¬ (false = true) by decide)] at H; exact H
    clear H; have H := H1; clear H1; by_cases c19 : 0 ≤ (t277.length : Int)
    ·rw [if_pos c19] at H; have c19b0 := eq_true c19; have c19b1 : decide (0 ≤ (t277.length : Int)) = true := decide_eq_true c19; clear c19; by_cases c20 : ((t277.length : Int) : Int).toNat ≤ 35184372088832
     ·rw [if_pos c20] at H; have c20b0 := eq_true c20; have c20b1 : decide (((t277.length : Int) : Int).toNat ≤ 35184372088832) = true := decide_eq_true c20; clear c20; obtain ⟨y284, hy284⟩ : ∃ y_ : List Int, y_ = (List.replicate ((t277.length : Int) : Int).toNat 0) := ⟨_, rfl⟩; replace H : (if 0 ≤ a1 then (if a1 < (y284.length : Int) then (impl_LettersAfter.l0 kj4 t277 (y284.set (a1 : Int).toNat 1) a2 0) else (none)) else (none)) = some (r1, r2) := by rw [hy284]; first | exact H | exact (Option.bind_some _ _).symm.trans H
      have Ny284 := am hy284; clear hy284; by_cases c21 : 0 ≤ a1
      ·rw [if_pos c21] at H; have c21b0 : decide (0 ≤ a1) = true := decide_eq_true c21; clear c21; by_cases c22 : a1 < (y284.length : Int)
       ·rw [if_pos c22] at H; have c22b0 : decide (a1 < (y284.length : Int)) = true := decide_eq_true c22; clear c22; obtain ⟨y287, hy287⟩ : ∃ y_ : List Int, y_ = (y284.set (a1 : Int).toNat 1) := ⟨_, rfl⟩; replace H : (impl_LettersAfter.l0 kj4 t277 y287 a2 0) = some (r1, r2) := by rw [hy287]; first | exact H | exact (Option.bind_some _ _).symm.trans H
        have Ny287 := am hy287; clear hy287; have H' := am H; clear H; obtain ⟨Ao24, co24, eo24⟩ := Kd.S_slice HO_8.out; subst eo24; go_wp2_with (first | ((with_reducible refine gate_dst (N := 44) rfl ?_); (try (refine gate_guard (by rfl) ?_; dsimp only)); refine Kd.R_make (Kd.int .i64) _ 3 rfl (N := 44) rfl 36 _ _ rfl (t277.length : Int) rfl rfl Try.underlying36 (.int .i64 0) 8 info3 rfl (by decide) (by omega) 0 (ok := fun _ => True) (okp := fun _ => True) rfl (fun _ hk => hk) trivial (oD) (Nat.le_trans (Nat.mul_le_mul_right _ (oD : (t277.length : Int).toNat ≤ 35184372088832)) (by omega)) (Below.refl _ _) (Nat.le_refl _) ?_; intro v285 w25 ho26 hb hg_ hnew_; clear hg_ hnew_; (first | rw [← Ny284.out] at ho26 | (simp only [Int.reduceToNat] at ho26; rw [← Ny284.out] at ho26)); replace HO_8 := am (Kd.S_elder' (by exact rS HO_8) (Kd.R_base ho26) hb); have HO286 := am (Kd.R_lower ho26 (bZ HB)); replace BK276 := bK BK276 hb; replace HB := bS HB hb; clear hb ho26; have p23 : 0 ≤ (a1 : Int) := oD; have q23 : (a1 : Int) < ((y284.length : Int) : Int) := oD; obtain ⟨go23, co23, eo23, gb23, gl23, cl23, HG23⟩ := Kd.R_form HO286.out (by omega); (first | cases eo23 | (injection eo23 with ea_ en_ ec_; (first | subst ea_ | (injection ea_ with ea_; subst ea_)); subst ec_; clear en_)); have GB23 := am gb23; have GG23 := am HG23; clear gb23 gl23 HG23; obtain ⟨hx23_0, hf23_0⟩ := Kd.R_celln 0 HO286.out (a1 : Int) p23 q23; replace p23 := eq_true p23; replace q23 := eq_true q23; obtain ⟨hy27_, hz27_⟩ := Kd.R_celln 0 HO286.out (a1 : Int) (oD) (oD); have HP27 := Kd.R_putg HO286.out (a1 : Int) 1) | ((with_reducible refine gate_store (t := 3) (p := 47) rfl ?_); refine store_event (t := 3) (p := 47) (v := ?vo_w28) (w1 := (w25.setCell ⟨go23, (a1 : Int).toNat, none⟩ (.int .i64 1))) ?hg ?ho ?hn ?hr ?_; (case ho => rfl); (case hg => rfl); (case hn => rfl); (case hr => go_simp <;> rfl); intro w28 hw; have hg : w25.grownBy w28 (some go23) := (by rw [hw]; exact HP27.2); have hp_ : Kd.R (Kd.int .i64) 3 w28 w.heap.size (fun _ => True) (.slice (some ⟨go23, 0, none⟩) y284.length co23) y287 := (by rw [hw, Ny287.out]; exact HP27.1); clear HP27; replace HO_8 := am (Kd.S_after (v := (.slice (some ⟨go23, 0, none⟩) y284.length co23)) (v1 := (.slice (some ⟨go23, 0, none⟩) y284.length co23)) (ok := (fun _ => True)) (by exact rS HO_8) hg (.inl rfl)); replace BK276 := am (blk_grown (g := gb276) (o := .cells #[.slice A0_0 l0_0.length c0_0] 28 (0, 0)) (by exact rX BK276) hg (Kd.R_ne HO286.out BK276.out (by decide))); replace HO286 := am (hp_); replace HB := am ((by rw [hw]; exact below_set (HB.out) GB23.out : Below w.heap.size w w28)); clear hg hw hp_)); go_loopg [10, 49] kj4 (fun kq v10 v49 w' => ∃ (x10_2 : List Int) (x49_2 : Int), v49 = .int .i64 x49_2 ∧ Aside0 (impl_LettersAfter.l0 kq t277 x10_2 a2 x49_2 = some (r1, r2)) ∧ Aside0 (kq ≤ kj4) ∧ Aside0 (Kd.S (Kd.slice 3 (Kd.int .i64)) 36 w' w.heap.size (fun k_ => some k_ ≠ (v10 : Value).ownBlock) (.slice Ao24 t277.length co24) t277) ∧ Aside0 (Kd.R (Kd.int .i64) 3 w' w.heap.size (fun _ => True) v10 x10_2) ∧ Aside0 (w'.heap[gb276]? = some (.cells #[(.slice A0_0 l0_0.length c0_0)] 28 (0, 0))) ∧ Aside0 (Below w.heap.size w w'))
        case atStart => exact ⟨(y287), (0), (by first | rfl | (simp; done) | (simp [*]; done)), H', ⟨Nat.le_refl _⟩, ⟨by exact xS (Kd.S_mono HO_8.out (fun _ hk => hk.2))⟩, ⟨by exact rR HO286⟩, ⟨by exact rX BK276⟩, ⟨by exact rB HB⟩⟩
        case round =>
         clear H'
         try clear c1
         try clear c2
         try clear p2
         try clear q2
         try clear hx2
         try clear c9
         try clear c10
         try clear c10b0
         try clear c11
         try clear c11b0
         try clear c13
         try clear c13b0
         try clear c16
         try clear c18
         try clear c19
         try clear c19b0
         try clear c19b1
         try clear c20
         try clear c20b0
         try clear c20b1
         try clear c21
         try clear c21b0
         try clear c22
         try clear c22b0
         try clear p23
         try clear q23
         try clear hx23
         try clear hf23
         try clear c27
         try clear hcz7_0
         try clear hfz7_0
         try clear hx23_0
         try clear p2
         try clear p23
         try clear q23
         obtain ⟨x10_2, x49_2, rfl, HA, HK2, HO_8, HO_10, BK276, HB⟩ := hrel; cases gk with
         | zero => exact absurd HA.out (by simp [impl_LettersAfter.l0])
         | succ k2 =>
          have H := HA.out; clear HA; simp only [impl_LettersAfter.l0] at H; by_cases c29 : x49_2 < a2
          ·rw [if_pos c29] at H; have c29b0 : decide (x49_2 < a2) = true := decide_eq_true c29; clear c29; by_cases c30 : 0 ≤ (x10_2.length : Int)
           ·rw [if_pos c30] at H; have c30b0 := eq_true c30; have c30b1 : decide (0 ≤ (x10_2.length : Int)) = true := decide_eq_true c30; clear c30; by_cases c31 : ((x10_2.length : Int) : Int).toNat ≤ 35184372088832
            ·rw [if_pos c31] at H; have c31b0 := eq_true c31; have c31b1 : decide (((x10_2.length : Int) : Int).toNat ≤ 35184372088832) = true := decide_eq_true c31; clear c31; obtain ⟨y288, hy288⟩ : ∃ y_ : List Int, y_ = (List.replicate ((x10_2.length : Int) : Int).toNat 0) := ⟨_, rfl⟩; replace H : (impl_LettersAfter.l1 k2 t277 y288 a2 x49_2 x10_2 (x10_2.length : Int) 0) = some (r1, r2) := by rw [hy288]; first | exact H | exact (Option.bind_some _ _).symm.trans H
             have Ny288 := am hy288; clear hy288; have H' := am H; clear H; obtain ⟨Ao32, co32, eo32⟩ := Kd.R_slice HO_10.out; subst eo32; go_wp2_with (first | ((with_reducible refine gate_dst (N := 53) rfl ?_); (try (refine gate_guard (by rfl) ?_; dsimp only)); refine Kd.R_make (Kd.int .i64) _ 3 rfl (N := 53) rfl 36 _ _ rfl (x10_2.length : Int) rfl rfl Try.underlying36 (.int .i64 0) 8 info3 rfl (by decide) (by omega) 0 (ok := fun _ => True) (okp := fun _ => True) rfl (fun _ hk => hk) trivial (oD) (Nat.le_trans (Nat.mul_le_mul_right _ (oD : (x10_2.length : Int).toNat ≤ 35184372088832)) (by omega)) (Below.refl _ _) (Nat.le_refl _) ?_; intro v289 w33 ho34 hb hg_ hnew_; clear hg_ hnew_; (first | rw [← Ny288.out] at ho34 | (simp only [Int.reduceToNat] at ho34; rw [← Ny288.out] at ho34)); replace HO_8 := am (Kd.S_elder' (by exact rS HO_8) (Kd.R_base ho34) hb); have HO290 := am (Kd.R_lower (Kd.R_new' ho34 (Kd.R_lt (by exact rR HO_10))) (bZ HB)); replace HO_10 := am (Kd.R_elder' (by exact rR HO_10) (Kd.R_base ho34) hb); replace BK276 := bK BK276 hb; replace HB := bS HB hb; clear hb ho34)); go_loopg [56] k2 (fun kq v56 w' => ∃ (x11_3 : List Int) (x56_3 : Int), v56 = .int .i64 x56_3 ∧ Aside0 (impl_LettersAfter.l1 kq t277 x11_3 a2 x49_2 x10_2 (x10_2.length : Int) x56_3 = some (r1, r2)) ∧ Aside0 (kq ≤ k2) ∧ Aside0 (Kd.S (Kd.slice 3 (Kd.int .i64)) 36 w' w.heap.size (fun k_ => some k_ ≠ (v289 : Value).ownBlock ∧ some k_ ≠ ((.slice Ao32 x10_2.length co32) : Value).ownBlock) (.slice Ao24 t277.length co24) t277) ∧ Aside0 (Kd.R (Kd.int .i64) 3 w' w.heap.size (fun k_ => some k_ ≠ ((.slice Ao32 x10_2.length co32) : Value).ownBlock) v289 x11_3) ∧ Aside0 (Kd.R (Kd.int .i64) 3 w' w.heap.size (fun k_ => some k_ ≠ (v289 : Value).ownBlock) (.slice Ao32 x10_2.length co32) x10_2) ∧ Aside0 (w'.heap[gb276]? = some (.cells #[(.slice A0_0 l0_0.length c0_0)] 28 (0, 0))) ∧ Aside0 (Below w.heap.size w w'))
             case atStart => exact ⟨(y288), (0), (by first | rfl | (simp; done) | (simp [*]; done)), H', ⟨Nat.le_refl _⟩, ⟨by exact xS (Kd.S_mono HO_8.out (fun _ hk => ⟨hk.2, hk.1⟩))⟩, ⟨by exact xR (Kd.R_mono HO290.out (fun _ hk => hk.2))⟩, ⟨by exact xR (Kd.R_mono HO_10.out (fun _ hk => hk.2))⟩, ⟨by exact rX BK276⟩, ⟨by exact rB HB⟩⟩
             case round =>
              clear H'
              try clear c1
              try clear c2
              try clear p2
              try clear q2
              try clear hx2
              try clear c3
              try clear c9
              try clear c10
              try clear c10b0
              try clear c11
              try clear c11b0
              try clear c13
              try clear c13b0
              try clear c16
              try clear c18
              try clear c19
              try clear c19b0
              try clear c19b1
              try clear c20
              try clear c20b0
              try clear c20b1
              try clear c21
              try clear c21b0
              try clear c22
              try clear c22b0
              try clear p23
              try clear q23
              try clear hx23
              try clear hf23
              try clear c27
              try clear c29
              try clear c29b0
              try clear c30
              try clear c30b0
              try clear c30b1
              try clear c31
              try clear c31b0
              try clear c31b1
              try clear hcz7_0
              try clear hfz7_0
              try clear hx23_0
              try clear p2
              try clear p23
              try clear q2
              try clear q23
              obtain ⟨x11_3, x56_3, rfl, HA, HK3, HO_8, HO_11, HO_54, BK276, HB⟩ := hrel; cases gk with
              | zero => exact absurd HA.out (by simp [impl_LettersAfter.l1])
              | succ k3 =>
               have H := HA.out; clear HA; simp only [impl_LettersAfter.l1] at H; by_cases c35 : x56_3 < (x10_2.length : Int)
               ·rw [if_pos c35] at H; have c35b0 : decide (x56_3 < (x10_2.length : Int)) = true := decide_eq_true c35; clear c35; by_cases c36 : 0 ≤ x56_3
                ·rw [if_pos c36] at H; have c36b0 : decide (0 ≤ x56_3) = true := decide_eq_true c36; clear c36; by_cases c37 : x56_3 < (x10_2.length : Int)
                 ·rw [if_pos c37] at H; have c37b0 : decide (x56_3 < (x10_2.length : Int)) = true := decide_eq_true c37; clear c37; by_cases c38 : x56_3 < (t277.length : Int)
                  ·rw [if_pos c38] at H; have c38b0 : decide (x56_3 < (t277.length : Int)) = true := decide_eq_true c38; clear c38; have H' := am H; clear H; have p291 : 0 ≤ (x56_3 : Int) := oD; have q291 : x56_3 < (x10_2.length : Int) := oD; obtain ⟨ad291, e291, hx291_0⟩ := Kd.at_int (Kd.R_reads' HO_54.out).2.2 x56_3 p291 q291; cases e291; replace p291 := eq_true p291; replace q291 := eq_true q291; have p292 : 0 ≤ (x56_3 : Int) := oD; have q292 : x56_3 < (t277.length : Int) := oD; obtain ⟨ad292, A292_0, c292_0, e292, hx292_0, hl292_0, hi292_0⟩ := at_L1 (Kd.S_reads' HO_8.out).2.2 x56_3 p292 q292; cases e292; obtain ⟨ce292, hce292, hMe292, hcc292⟩ := Kd.S_get HO_8.out [] x56_3 p292 (by first | exact q292 | exact oD | (have e_ := (Kd.S_reads' HO_8.out).1; omega)); obtain ⟨ve292_0, rfl, ge292_0⟩ := hMe292; have hv292_0 := hcc292 0 _ rfl; rw [Nat.add_zero, show ((Kd.slice 3 (Kd.int .i64))).sz = 1 from rfl, Nat.mul_one] at hv292_0; replace hv292_0 := Option.some.inj (hv292_0.symm.trans hx292_0); rw [hv292_0] at ge292_0; have HL292_0 := am (show Kd.R (Kd.int .i64) 3 _ _ _ _ (rd_L1 t277 x56_3) from ge292_0); clear hv292_0 ge292_0; clear hcc292 hce292; have HR292_0 := am hi292_0; have HC292_0 := am hl292_0; clear hi292_0 hl292_0; replace p292 := eq_true p292; replace q292 := eq_true q292; go_wp2; go_loopg [66] k3 (fun kq v66 w' => ∃ (x11_4 : List Int) (x66_4 : Int), v66 = .int .i64 x66_4 ∧ Aside0 (impl_LettersAfter.l2 kq t277 x11_4 (rd x10_2 x56_3) a2 x49_2 x10_2 (x10_2.length : Int) x56_3 (rd_L1 t277 x56_3) ((rd_L1 t277 x56_3).length : Int) x66_4 = some (r1, r2)) ∧ Aside0 (kq ≤ k3) ∧ Aside0 (Kd.S (Kd.slice 3 (Kd.int .i64)) 36 w' w.heap.size (fun k_ => some k_ ≠ (v289 : Value).ownBlock ∧ some k_ ≠ ((.slice (some ad291) x10_2.length co32) : Value).ownBlock) (.slice (some ad292) t277.length co24) t277) ∧ Aside0 (Kd.R (Kd.int .i64) 3 w' w.heap.size (fun k_ => some k_ ≠ ((.slice (some ad291) x10_2.length co32) : Value).ownBlock) v289 x11_4) ∧ Aside0 (Kd.R (Kd.int .i64) 3 w' w.heap.size (fun k_ => some k_ ≠ (v289 : Value).ownBlock) (.slice (some ad291) x10_2.length co32) x10_2) ∧ Aside0 (Kd.R (Kd.int .i64) 3 w' w.heap.size (fun k_ => some k_ ≠ (v289 : Value).ownBlock) (.slice A292_0 (rd_L1 t277 x56_3).length c292_0) (rd_L1 t277 x56_3)) ∧ Aside0 (w'.heap[gb276]? = some (.cells #[(.slice A0_0 l0_0.length c0_0)] 28 (0, 0))) ∧ Aside0 (Below w.heap.size w w'))
                   case atStart => exact ⟨(x11_3), (0), (by first | rfl | (simp; done) | (simp [*]; done)), H', ⟨Nat.le_refl _⟩, ⟨by exact rS HO_8⟩, ⟨by exact rR HO_11⟩, ⟨by exact rR HO_54⟩, ⟨by exact xR (Kd.R_mono HL292_0.out (fun _ hk => hk.1.1))⟩, ⟨by exact rX BK276⟩, ⟨by exact rB HB⟩⟩
                   case round =>
                    clear H'
                    try clear c1
                    try clear c2
                    try clear p2
                    try clear q2
                    try clear hx2
                    try clear c3
                    try clear c9
                    try clear c10
                    try clear c10b0
                    try clear c11
                    try clear c11b0
                    try clear c13
                    try clear c13b0
                    try clear c16
                    try clear c18
                    try clear c19
                    try clear c19b0
                    try clear c19b1
                    try clear c20
                    try clear c20b0
                    try clear c20b1
                    try clear c21
                    try clear c21b0
                    try clear c22
                    try clear c22b0
                    try clear p23
                    try clear q23
                    try clear hx23
                    try clear hf23
                    try clear c27
                    try clear c29
                    try clear c29b0
                    try clear p29
                    try clear q29
                    try clear hx29
                    try clear c30
                    try clear c30b0
                    try clear c30b1
                    try clear c31
                    try clear c31b0
                    try clear c31b1
                    try clear c35
                    try clear c35b0
                    try clear c36
                    try clear c36b0
                    try clear c37
                    try clear c37b0
                    try clear c38
                    try clear c38b0
                    try clear hcz7_0
                    try clear hfz7_0
                    try clear hx23_0
                    try clear hx291_0
                    try clear hx292_0
                    try clear p2
                    try clear p23
                    try clear p291
                    try clear p292
                    try clear q2
                    try clear q23
                    try clear q291
                    try clear q292
                    obtain ⟨x11_4, x66_4, rfl, HA, HK4, HO_8, HO_11, HO_54, HO_R, BK276, HB⟩ := hrel; cases gk with
                    | zero => exact absurd HA.out (by simp [impl_LettersAfter.l2])
                    | succ k4 =>
                     have H := HA.out; clear HA; simp only [impl_LettersAfter.l2] at H; by_cases c39 : x66_4 < ((rd_L1 t277 x56_3).length : Int)
                     ·rw [if_pos c39] at H; have c39b0 : decide (x66_4 < ((rd_L1 t277 x56_3).length : Int)) = true := decide_eq_true c39; clear c39; by_cases c40 : 0 ≤ x66_4
                      ·rw [if_pos c40] at H; have c40b0 : decide (0 ≤ x66_4) = true := decide_eq_true c40; clear c40; by_cases c41 : x66_4 < ((rd_L1 t277 x56_3).length : Int)
                       ·rw [if_pos c41] at H; have c41b0 : decide (x66_4 < ((rd_L1 t277 x56_3).length : Int)) = true := decide_eq_true c41; clear c41; by_cases c42 : x66_4 < (x11_4.length : Int)
                        ·rw [if_pos c42] at H; have c42b0 : decide (x66_4 < (x11_4.length : Int)) = true := decide_eq_true c42; clear c42; obtain ⟨y295, hy295⟩ : ∃ y_ : List Int, y_ = (x11_4.set (x66_4 : Int).toNat (wrap64 ((rd x11_4 x66_4) + (wrap64 ((rd x10_2 x56_3) * (rd (rd_L1 t277 x56_3) x66_4)))))) := ⟨_, rfl⟩; replace H : (impl_LettersAfter.l2 k4 t277 y295 (rd x10_2 x56_3) a2 x49_2 x10_2 (x10_2.length : Int) x56_3 (rd_L1 t277 x56_3) ((rd_L1 t277 x56_3).length : Int) (wrap64 (x66_4 + 1))) = some (r1, r2) := by rw [hy295]; first | exact H | exact (Option.bind_some _ _).symm.trans H
                         have Ny295 := am hy295; clear hy295; have H' := am H; clear H; have p293 : 0 ≤ (x66_4 : Int) := oD; have q293 : x66_4 < ((rd_L1 t277 x56_3).length : Int) := oD; obtain ⟨ad293, e293, hx293_0⟩ := Kd.at_int (Kd.R_reads' HO_R.out).2.2 x66_4 p293 q293; cases e293
                         skip
                         replace p293 := eq_true p293; replace q293 := eq_true q293; obtain ⟨Ao44, co44, eo44⟩ := Kd.R_slice HO_11.out; subst eo44; have p294 : 0 ≤ (x66_4 : Int) := oD; have q294 : x66_4 < (x11_4.length : Int) := oD; obtain ⟨ad294, e294, hx294_0⟩ := Kd.at_int (Kd.R_reads' HO_11.out).2.2 x66_4 p294 q294; cases e294; replace p294 := eq_true p294; replace q294 := eq_true q294; have p43 : 0 ≤ (x66_4 : Int) := oD; have q43 : (x66_4 : Int) < ((x11_4.length : Int) : Int) := oD; obtain ⟨go43, co43, eo43, gb43, gl43, cl43, HG43⟩ := Kd.R_form HO_11.out (by omega)
                         (first | cases eo43 | (injection eo43 with ea_ en_ ec_; (first | subst ea_ | (injection ea_ with ea_; subst ea_)); subst ec_; clear en_))
                         have GB43 := am gb43; have GG43 := am HG43; clear gb43 gl43 HG43
                         (first | simp only [add_plain] at hx294_0 | skip)
                         obtain ⟨hx43_0, hf43_0⟩ := Kd.R_celln 0 HO_11.out (x66_4 : Int) p43 q43; replace p43 := eq_true p43; replace q43 := eq_true q43; have HP45 := Kd.R_putg HO_11.out (x66_4 : Int) (wrap64 ((rd x11_4 x66_4) + (wrap64 ((rd x10_2 x56_3) * (rd (rd_L1 t277 x56_3) x66_4))))); go_wp2_with (first | ((with_reducible refine gate_store (t := 3) (p := 79) rfl ?_); refine store_event (t := 3) (p := 79) (v := ?vo_w46) (w1 := (wr.setCell ⟨go43, (x66_4 : Int).toNat, none⟩ (.int .i64 (wrap64 ((rd x11_4 x66_4) + (wrap64 ((rd x10_2 x56_3) * (rd (rd_L1 t277 x56_3) x66_4)))))))) ?hg ?ho ?hn ?hr ?_; (case ho => rfl); (case hg => rfl); (case hn => rfl); (case hr => go_simp <;> rfl); intro w46 hw; have hg : wr.grownBy w46 (some go43) := (by rw [hw]; exact HP45.2); have hp_ : Kd.R (Kd.int .i64) 3 w46 w.heap.size (fun k_ => some k_ ≠ (.slice (some ad291) x10_2.length co32 : Value).ownBlock) (.slice (some ⟨go43, 0, none⟩) x11_4.length co44) y295 := (by rw [hw, Ny295.out]; exact HP45.1); clear HP45; have n0_ := am (Kd.S_after (v := (.slice (some ⟨go43, 0, none⟩) x11_4.length co44)) (v1 := (.slice (some ⟨go43, 0, none⟩) x11_4.length co44)) (ok := (fun k_ => some k_ ≠ (.slice (some ad291) x10_2.length co32 : Value).ownBlock)) (by exact xS (Kd.S_mono HO_8.out (fun _ hk => ⟨hk.2, hk.1⟩))) hg (.inl rfl)); have n1_ := am (hp_); have nR_ := am (Kd.R_after (v := (.slice (some ⟨go43, 0, none⟩) x11_4.length co44)) (v1 := (.slice (some ⟨go43, 0, none⟩) x11_4.length co44)) (ok := (fun _ => True)) (by exact xR (Kd.R_mono HO_R.out (fun _ hk => ⟨trivial, hk⟩))) hg (.inl rfl)); have n2_ := am (Kd.R_after (v := (.slice (some ⟨go43, 0, none⟩) x11_4.length co44)) (v1 := (.slice (some ⟨go43, 0, none⟩) x11_4.length co44)) (ok := (fun _ => True)) (by exact xR (Kd.R_mono HO_54.out (fun _ hk => ⟨trivial, hk⟩))) hg (.inl rfl)); have n3_ := am (blk_grown (g := gb276) (o := .cells #[.slice A0_0 l0_0.length c0_0] 28 (0, 0)) (by exact rX BK276) hg (Kd.R_ne HO_11.out BK276.out (by decide))); have n4_ := am ((by rw [hw]; exact below_set (HB.out) GB43.out : Below w.heap.size w w46)); clear HO_8; clear HO_11; clear HO_54; clear HO_R; clear BK276; clear HB; have HO_8 := n0_; have HO_11 := n1_; have HO_R := nR_; have HO_54 := n2_; have BK276 := n3_; have HB := n4_; clear nR_ n0_ n1_ n2_ n3_ n4_; clear hg hw hp_)); go_roundg k4
                         case measure => have := HJ4.out; have := HK2.out; have := HK3.out; have := HK4.out; omega
                         case rel => exact ⟨(y295), (wrap64 (x66_4 + 1)), (by first | rfl | (simp; done) | (simp [*]; done)), H', ⟨by have := HJ4.out; have := HK2.out; have := HK3.out; have := HK4.out; omega⟩, ⟨by exact xS (Kd.S_mono HO_8.out (fun _ hk => ⟨hk.2, hk.1⟩))⟩, ⟨by exact rR HO_11⟩, ⟨by exact xR (Kd.R_mono HO_54.out (fun _ hk => hk.2))⟩, ⟨by exact xR (Kd.R_mono HO_R.out (fun _ hk => hk.2))⟩, ⟨by exact rX BK276⟩, ⟨by exact rB HB⟩⟩
                        ·rw [if_neg c42] at H; exact absurd H (by simp)
                       ·rw [if_neg c41] at H; exact absurd H (by simp)
                      ·rw [if_neg c40] at H; exact absurd H (by simp)
                     ·rw [if_neg c39] at H; have c39b0 : decide (x66_4 < ((rd_L1 t277 x56_3).length : Int)) = false := decide_eq_false c39; clear c39; have H' := am H; clear H; go_wp2; go_roundg k4
                      case measure => have := HJ4.out; have := HK2.out; have := HK3.out; have := HK4.out; omega
                      case rel => exact ⟨(x11_4), (wrap64 (x56_3 + 1)), (by first | rfl | (simp; done) | (simp [*]; done)), H', ⟨by have := HJ4.out; have := HK2.out; have := HK3.out; have := HK4.out; omega⟩, ⟨by exact rS HO_8⟩, ⟨by exact rR HO_11⟩, ⟨by exact rR HO_54⟩, ⟨by exact rX BK276⟩, ⟨by exact rB HB⟩⟩
                  ·rw [if_neg c38] at H; exact absurd H (by simp)
                 ·rw [if_neg c37] at H; exact absurd H (by simp)
                ·rw [if_neg c36] at H; exact absurd H (by simp)
               ·rw [if_neg c35] at H; have c35b0 : decide (x56_3 < (x10_2.length : Int)) = false := decide_eq_false c35; clear c35; have H' := am H; clear H; go_wp2; go_roundg k3
                case measure => have := HJ4.out; have := HK2.out; have := HK3.out; omega
                case rel => exact ⟨(x11_3), (wrap64 (x49_2 + 1)), (by first | rfl | (simp; done) | (simp [*]; done)), H', ⟨by have := HJ4.out; have := HK2.out; have := HK3.out; omega⟩, ⟨by exact xS (Kd.S_mono HO_8.out (fun _ hk => hk.1))⟩, ⟨by exact xR (Kd.R_mono HO_11.out (fun _ hk => trivial))⟩, ⟨by exact rX BK276⟩, ⟨by exact rB HB⟩⟩
            ·rw [if_neg c31] at H; exact absurd H (by simp)
           ·rw [if_neg c30] at H; exact absurd H (by simp)
          ·rw [if_neg c29] at H; have c29b0 : decide (x49_2 < a2) = false := decide_eq_false c29; clear c29; simp only [Option.some.injEq, Prod.mk.injEq] at H; obtain ⟨rfl, rfl⟩ := H; go_wp2; go_ret2; exact ⟨_, by first | rfl | (simp [errW_none, errW_some] <;> rfl) | (simp [*, errW_none, errW_some] <;> rfl), by exact rR HO_10, by exact rB HB⟩
       ·rw [if_neg c22] at H; exact absurd H (by simp)
      ·rw [if_neg c21] at H; exact absurd H (by simp)
     ·rw [if_neg c20] at H; exact absurd H (by simp)
    ·rw [if_neg c19] at H; exact absurd H (by simp)
mutual
def spec_ImageLengths.l0 : Nat → Int → List Int → Int → List (List Int) → Option (List Int × Bool)
 | 0, _, _, _, _ => none
 | k + 1, x1, x6, x7, x319000 => if x7 < (x319000.length : Int) then ((spec_LettersAfter.f k x319000 x7 x1).bind fun bt324 => (if bt324.2 = true then (spec_ImageLengths.l1 k x1 x6 x7 bt324.1 0 0 x319000) else (some ((([] : List Int)), false)))) else ((spec_IsMorphism.f k x319000).bind fun t322 => (if t322 = true then ((spec_l1In.f x1 0 12).bind fun t323 => (some (x6, t323))) else (some (x6, false))))
def spec_ImageLengths.l1 : Nat → Int → List Int → Int → List Int → Int → Int → List (List Int) → Option (List Int × Bool)
 | 0, _, _, _, _, _, _, _ => none
 | k + 1, x1, x6, x7, x8, x10, x11, x319000 => if x11 < (x8.length : Int) then (if 0 ≤ x11 then (spec_ImageLengths.l1 k x1 x6 x7 x8 (wrap64 (x10 + (rd x8 x11))) (wrap64 (x11 + 1)) x319000) else (none)) else (if x6.length < 17592186044416 then (spec_ImageLengths.l0 k x1 (x6 ++ [x10]) (wrap64 (x7 + 1)) x319000) else (none))
end
def spec_ImageLengths.f (k : Nat) (l0_0 : List (List Int)) (a1 : Int) : Option (List Int × Bool) := spec_ImageLengths.l0 k a1 (([] : List Int)) 0 l0_0
set_option maxHeartbeats 8000000 in
set_option maxRecDepth 100000 in
theorem spec_ImageLengths.calls (k : Nat) (A0_0 : Option Addr) (c0_0 : Nat) (l0_0 : List (List Int)) (a1 : Int) (r1 : List Int) (r2 : Bool) (w : World) (hr0_0 : Kd.C (Kd.slice 3 (Kd.int .i64)) w A0_0 l0_0.length l0_0) (hc0_0 : l0_0.length ≤ c0_0) (h : spec_ImageLengths.f k l0_0 a1 = some (r1, r2)) :
  Calls Try.prog 31 #[.agg #[.slice A0_0 l0_0.length c0_0], .int .i64 a1] w fun e w' => ∃ v0_ : Value, e = .returned (.tuple #[v0_, .bool r2]) ∧ Kd.R (Kd.int .i64) 3 w' w.heap.size (fun _ => True) v0_ r1 ∧ Below w.heap.size w w' := by
 have hu28 := Try.underlying28; have HR0_0 := am hr0_0; have HC0_0 := am hc0_0; clear hr0_0 hc0_0; have HB := am (Below.refl w.heap.size w); have H : (spec_ImageLengths.l0 k a1 (([] : List Int)) 0 l0_0) = some (r1, r2) := h; clear h; obtain ⟨y319, hy319⟩ : ∃ y_ : List Int, y_ = (([] : List Int)) := ⟨_, rfl⟩; replace H : (spec_ImageLengths.l0 k a1 y319 0 l0_0) = some (r1, r2) := by rw [hy319]; first | exact H | exact (Option.bind_some _ _).symm.trans H
 have Ny319 := am hy319; clear hy319; have H' := am H; clear H; go_enter Try.func31, Try.ntmps31; go_wp2_with (first | ((with_reducible refine gate_dst (N := 2) rfl ?_); refine box_event ?hg (N := 2) ?hd (cs := #[.slice A0_0 l0_0.length c0_0]) (t := 28) ?hr ?_; (case hd | hg => rfl); (case hr => go_simp <;> rfl); intro gb318 hg w3 hbox hb; have BK318 := am (hbox); have GW318 := am ((by rw [hg]; exact (bZ HB) : w.heap.size ≤ gb318)); have GE318 := am ((by rw [hg]; exact (bZ HB) : w.heap.size ≤ gb318)); replace HB := bS HB hb; have qW318 := Ge.mk GW318.out; have qE318 := Ge.mk GE318.out; clear hb hbox hg) | ((with_reducible refine gate_dst (N := 12) rfl ?_); refine Kd.R_lit (Kd.int .i64) _ 3 ?hg (N := 12) ?hd (xs := ([] : List Int)) (inner := []) (ok := fun _ => True) (okp := fun _ => True) ?hr ?hp (fun _ hk => hk) trivial (Below.refl _ _) (Nat.le_refl _) (by simp) ?_; (case hd | hg => rfl); (case hr => go_simp <;> rfl); (case hp => exact (Reps.none _ _)); intro v320 w4 ho5 hb hg_ hnew_; clear hg_ hnew_; (first | rw [← Ny319.out] at ho5 | (simp only [Int.reduceToNat] at ho5; rw [← Ny319.out] at ho5)); have HO321 := am (Kd.R_lower ho5 (bZ HB)); replace BK318 := bK BK318 hb; replace HB := bS HB hb; clear hb ho5)); go_loopg [6, 7] k (fun kq v6 v7 w' => ∃ (x6_1 : List Int) (x7_1 : Int), v7 = .int .i64 x7_1 ∧ Aside0 (spec_ImageLengths.l0 kq a1 x6_1 x7_1 l0_0 = some (r1, r2)) ∧ Aside0 (kq ≤ k) ∧ Aside0 (Kd.R (Kd.int .i64) 3 w' w.heap.size (fun _ => True) v6 x6_1) ∧ Aside0 (w'.heap[gb318]? = some (.cells #[(.slice A0_0 l0_0.length c0_0)] 28 (0, 0))) ∧ Aside0 (Below w.heap.size w w'))
 case atStart => exact ⟨(y319), (0), (by first | rfl | (simp; done) | (simp [*]; done)), H', ⟨Nat.le_refl _⟩, ⟨by exact rR HO321⟩, ⟨by exact rX BK318⟩, ⟨by exact rB HB⟩⟩
 case round =>
  clear H'
  try clear p2
  try clear c3
  obtain ⟨x6_1, x7_1, rfl, HA, HK1, HO_6, BK318, HB⟩ := hrel; cases gk with
  | zero => exact absurd HA.out (by simp [spec_ImageLengths.l0])
  | succ k1 =>
   have H := HA.out; clear HA; simp only [spec_ImageLengths.l0] at H; by_cases c6 : x7_1 < (l0_0.length : Int)
   ·rw [if_pos c6] at H; have c6b0 : decide (x7_1 < (l0_0.length : Int)) = true := decide_eq_true c6; clear c6; replace H := bE H; obtain ⟨⟨t324, t327⟩, A70, H⟩ := H; replace H : (if t327 = true then (spec_ImageLengths.l1 k1 a1 x6_1 x7_1 t324 0 0 l0_0) else (some ((([] : List Int)), false))) = some (r1, r2) := H; have A7 := am A70; clear A70; by_cases c8 : t327 = true
    ·subst c8; have H1 : (spec_ImageLengths.l1 k1 a1 x6_1 x7_1 t324 0 0 l0_0) = some (r1, r2) := by rw [if_pos rfl] at H; exact H
     clear H; have H := H1; clear H1; have H' := am H; clear H; have hcz9_0 := z10 BK318; have hfz9_0 := blk_frozen BK318.out 0; go_wp2_with (first | ((with_reducible refine gate_callee (f := 26) rfl ?_); refine goesL_ (some 24) rfl rfl Try.func26 (by kernel_rfl) rfl #[.agg #[.slice A0_0 l0_0.length c0_0], .int .i64 x7_1, .int .i64 a1] rfl (by (try simp only [mT, mC, mN]); first | done | rfl) ?_; (with_reducible refine (spec_LettersAfter.calls k1 _ _ l0_0 x7_1 a1 t324 true _ ?side1 ?side2 A7.out).mono ?_); (case side1 => exact xC ((Kd.C_below HR0_0.out HB.out))); (case side2 => exact HC0_0.out); rintro e w10 ⟨v325, rfl, ho0, hb⟩; refine ⟨_, rfl, ?_⟩; have HO326 := am (Kd.R_lower (Kd.R_new' ho0 (Kd.R_lt (by exact rR HO_6))) (bZ HB)); replace HO_6 := am (Kd.R_elder' (by exact rR HO_6) (Kd.R_base ho0) hb); replace BK318 := bK BK318 hb; replace HB := bS HB hb; clear hb ho0)); go_loopg [10, 11] k1 (fun kq v10 v11 w' => ∃ (x10_2 : Int) (x11_2 : Int), v10 = .int .i64 x10_2 ∧ v11 = .int .i64 x11_2 ∧ Aside0 (spec_ImageLengths.l1 kq a1 x6_1 x7_1 t324 x10_2 x11_2 l0_0 = some (r1, r2)) ∧ Aside0 (kq ≤ k1) ∧ Aside0 (Kd.R (Kd.int .i64) 3 w' w.heap.size (fun k_ => some k_ ≠ (v325 : Value).ownBlock) u6 x6_1) ∧ Aside0 (Kd.R (Kd.int .i64) 3 w' w.heap.size (fun k_ => some k_ ≠ (u6 : Value).ownBlock) v325 t324) ∧ Aside0 (w'.heap[gb318]? = some (.cells #[(.slice A0_0 l0_0.length c0_0)] 28 (0, 0))) ∧ Aside0 (Below w.heap.size w w'))
     case atStart => exact ⟨(0), (0), (by first | rfl | (simp; done) | (simp [*]; done)), (by first | rfl | (simp; done) | (simp [*]; done)), H', ⟨Nat.le_refl _⟩, ⟨by exact xR (Kd.R_mono HO_6.out (fun _ hk => hk.2))⟩, ⟨by exact xR (Kd.R_mono HO326.out (fun _ hk => hk.2))⟩, ⟨by exact rX BK318⟩, ⟨by exact rB HB⟩⟩
     case round =>
      clear H'
      try clear c2
      try clear p2
      try clear c3
      try clear c6
      try clear c6b0
      try clear c8
      try clear hcz9_0
      try clear hfz9_0
      try clear p2
      obtain ⟨x10_2, x11_2, rfl, rfl, HA, HK2, HO_6, HO_8, BK318, HB⟩ := hrel; cases gk with
      | zero => exact absurd HA.out (by simp [spec_ImageLengths.l1])
      | succ k2 =>
       have H := HA.out; clear HA; simp only [spec_ImageLengths.l1] at H; by_cases c11 : x11_2 < (t324.length : Int)
       ·rw [if_pos c11] at H; have c11b0 : decide (x11_2 < (t324.length : Int)) = true := decide_eq_true c11; clear c11; by_cases c12 : 0 ≤ x11_2
        ·rw [if_pos c12] at H; have c12b0 : decide (0 ≤ x11_2) = true := decide_eq_true c12; clear c12; have H' := am H; clear H; obtain ⟨Ao13, co13, eo13⟩ := Kd.R_slice HO_8.out; subst eo13; have p331 : 0 ≤ (x11_2 : Int) := oD; have q331 : x11_2 < (t324.length : Int) := oD; obtain ⟨ad331, e331, hx331_0⟩ := Kd.at_int (Kd.R_reads' HO_8.out).2.2 x11_2 p331 q331; cases e331; replace p331 := eq_true p331; replace q331 := eq_true q331; go_wp2; go_roundg k2
         case measure => have := HK1.out; have := HK2.out; omega
         case rel => exact ⟨(wrap64 (x10_2 + (rd t324 x11_2))), (wrap64 (x11_2 + 1)), (by first | rfl | (simp; done) | (simp [*]; done)), (by first | rfl | (simp; done) | (simp [*]; done)), H', ⟨by have := HK1.out; have := HK2.out; omega⟩, ⟨by exact rR HO_6⟩, ⟨by exact rR HO_8⟩, ⟨by exact rX BK318⟩, ⟨by exact rB HB⟩⟩
        ·rw [if_neg c12] at H; exact absurd H (by simp)
       ·rw [if_neg c11] at H; have c11b0 : decide (x11_2 < (t324.length : Int)) = false := decide_eq_false c11; clear c11; by_cases c14 : x6_1.length < 17592186044416
        ·rw [if_pos c14] at H; have LMc14 := am c14; clear c14; obtain ⟨y332, hy332⟩ : ∃ y_ : List Int, y_ = (x6_1 ++ [x10_2]) := ⟨_, rfl⟩; replace H : (spec_ImageLengths.l0 k2 a1 y332 (wrap64 (x7_1 + 1)) l0_0) = some (r1, r2) := by rw [hy332]; first | exact H | exact (Option.bind_some _ _).symm.trans H
         have Ny332 := am hy332; clear hy332; have H' := am H; clear H; obtain ⟨Ao15, co15, eo15⟩ := Kd.R_slice HO_8.out; subst eo15; go_wp2_with (first | ((with_reducible refine gate_builtin (b := .append) (xs := #[.tmp 42, .tmp 44]) rfl ?_); at_builtin; refine Kd.R_append (Kd.int .i64) (w0 := w) w.heap.size rfl (.tmp 42) (.tmp 44) 36 3 (.int .i64 0) 8 rfl Try.underlying36 info3 rfl (by decide) (by omega) u6 x6_1 x10_2 [.int .i64 x10_2] (fun k_ => some k_ ≠ (.slice Ao15 t324.length co15 : Value).ownBlock) (fun _ => False) rfl rfl ?aP (fun _ hk => hk.elim) ?aF ?aO ?aB ?aS ?aL ?_; (case aP => exact rfl); (case aB => exact (by exact rB HB)); (case aF => exact (fun k_ hk => Kd.fresh' (Kd.R_lt (by exact rR HO_8)) k_ hk)); (case aO => exact (by exact rR HO_6)); (case aS => exact (bZ HB)); (case aL => have := LMc14.out; omega); intro v333 w16 ho hb hg hat; rw [← Ny332.out] at ho; replace HO_8 := am (Kd.R_after (ok := (fun _ => True)) (by exact xR (Kd.R_mono HO_8.out (fun _ hk => ⟨trivial, hk⟩))) hg hat); replace BK318 := am (blk_grown (g := gb318) (o := .cells #[.slice A0_0 l0_0.length c0_0] 28 (0, 0)) (by exact rX BK318) hg (Kd.R_ne HO_6.out BK318.out (by decide))); replace HB := am (hb); have HO334 := am (ho); clear HO_6; clear ho hb hg hat)); go_roundg k2
         case measure => have := HK1.out; have := HK2.out; omega
         case rel => exact ⟨(y332), (wrap64 (x7_1 + 1)), (by first | rfl | (simp; done) | (simp [*]; done)), H', ⟨by have := HK1.out; have := HK2.out; omega⟩, ⟨by exact xR (Kd.R_mono HO334.out (fun _ hk => trivial))⟩, ⟨by exact rX BK318⟩, ⟨by exact rB HB⟩⟩
        ·rw [if_neg c14] at H; exact absurd H (by simp)
    ·replace c8 := Bool.eq_false_iff.mpr c8; subst c8; have H1 : (some ((([] : List Int)), false)) = some (r1, r2) := by rw [if_neg (show ¬ (false = true) by decide)] at H; exact H
     clear H; have H := H1; clear H1; obtain ⟨y328, hy328⟩ : ∃ y_ : List Int, y_ = (([] : List Int)) := ⟨_, rfl⟩; replace H : (some (y328, false)) = some (r1, r2) := by rw [hy328]; first | exact H | exact (Option.bind_some _ _).symm.trans H
     have Ny328 := am hy328; clear hy328; simp only [Option.some.injEq, Prod.mk.injEq] at H; obtain ⟨rfl, rfl⟩ := H; have hcz17_0 := z10 BK318; have hfz17_0 := blk_frozen BK318.out 0; go_wp2_with (first | ((with_reducible refine gate_callee (f := 26) rfl ?_); refine goesL_ (some 24) rfl rfl Try.func26 (by kernel_rfl) rfl #[.agg #[.slice A0_0 l0_0.length c0_0], .int .i64 x7_1, .int .i64 a1] rfl (by (try simp only [mT, mC, mN]); first | done | rfl) ?_; (with_reducible refine (spec_LettersAfter.calls k1 _ _ l0_0 x7_1 a1 t324 false _ ?side1 ?side2 A7.out).mono ?_); (case side1 => exact xC ((Kd.C_below HR0_0.out HB.out))); (case side2 => exact HC0_0.out); rintro e w18 ⟨v325, rfl, ho0, hb⟩; refine ⟨_, rfl, ?_⟩; have HO326 := am (Kd.R_lower (Kd.R_new' ho0 (Kd.R_lt (by exact rR HO_6))) (bZ HB)); replace HO_6 := am (Kd.R_elder' (by exact rR HO_6) (Kd.R_base ho0) hb); replace BK318 := bK BK318 hb; replace HB := bS HB hb; clear hb ho0) | ((with_reducible refine gate_dst (N := 29) rfl ?_); refine Kd.R_lit (Kd.int .i64) _ 3 ?hg (N := 29) ?hd (xs := ([] : List Int)) (inner := []) (ok := fun _ => True) (okp := fun _ => True) ?hr ?hp (fun _ hk => hk) trivial (Below.refl _ _) (Nat.le_refl _) (by simp) ?_; (case hd | hg => rfl); (case hr => go_simp <;> rfl); (case hp => exact (Reps.none _ _)); intro v329 w19 ho20 hb hg_ hnew_; clear hg_ hnew_; (first | rw [← Ny328.out] at ho20 | (simp only [Int.reduceToNat] at ho20; rw [← Ny328.out] at ho20)); have HO330 := am (Kd.R_lower (Kd.R_new' (Kd.R_new' ho20 (Kd.R_lt (by exact rR HO_6))) (Kd.R_lt (by exact rR HO326))) (bZ HB)); replace HO_6 := am (Kd.R_elder' (by exact rR HO_6) (Kd.R_base ho20) hb); replace HO326 := am (Kd.R_elder' (by exact rR HO326) (Kd.R_base ho20) hb); replace BK318 := bK BK318 hb; replace HB := bS HB hb; clear hb ho20)); go_ret2; exact ⟨_, by first | rfl | (simp [errW_none, errW_some] <;> rfl) | (simp [*, errW_none, errW_some] <;> rfl), by exact xR (Kd.R_mono HO330.out (fun _ hk => trivial)), by exact rB HB⟩
   ·rw [if_neg c6] at H; have c6b0 : decide (x7_1 < (l0_0.length : Int)) = false := decide_eq_false c6; clear c6; replace H := bE H; obtain ⟨t322, A210, H⟩ := H; replace H : (if t322 = true then ((spec_l1In.f a1 0 12).bind fun t323 => (some (x6_1, t323))) else (some (x6_1, false))) = some (r1, r2) := H; have A21 := am A210; clear A210; by_cases c22 : t322 = true
    ·subst c22; have H1 : ((spec_l1In.f a1 0 12).bind fun t323 => (some (x6_1, t323))) = some (r1, r2) := by rw [if_pos rfl] at H; exact H
     clear H; have H := H1; clear H1; replace H := bE H; obtain ⟨t323, A230, H⟩ := H; replace H : (some (x6_1, t323)) = some (r1, r2) := H; have A23 := am A230; clear A230; simp only [Option.some.injEq, Prod.mk.injEq] at H; obtain ⟨rfl, rfl⟩ := H; have hcz24_0 := z10 BK318; have hfz24_0 := blk_frozen BK318.out 0; go_wp2_with (first | ((with_reducible refine gate_callee (f := 109) rfl ?_); refine goesL_ (some 48) rfl rfl Try.func109 (by kernel_rfl) rfl #[.agg #[.slice A0_0 l0_0.length c0_0]] rfl (by (try simp only [mT, mC, mN]); first | done | rfl) ?_; (with_reducible refine (spec_IsMorphism.calls k1 _ _ l0_0 true _ ?side1 ?side2 A21.out).mono ?_); (case side1 => exact xC ((Kd.C_below HR0_0.out HB.out))); (case side2 => exact HC0_0.out); rintro e w25 ⟨rfl, hb⟩; refine ⟨_, rfl, ?_⟩; replace HO_6 := am (Kd.R_below (by exact rR HO_6) hb); replace BK318 := bK BK318 hb; replace HB := bS HB hb; clear hb) | (go_at_call 115; (with_reducible refine (spec_l1In.calls a1 0 12 t323 _ A23.out).mono ?_); rintro e w' ⟨rfl, ⟨nd, rfl⟩⟩)); go_ret2; exact ⟨_, by first | rfl | (simp [errW_none, errW_some] <;> rfl) | (simp [*, errW_none, errW_some] <;> rfl), by exact rR HO_6, by exact rB HB⟩
    ·replace c22 := Bool.eq_false_iff.mpr c22; subst c22; have H1 : (some (x6_1, false)) = some (r1, r2) := by rw [if_neg (show ¬ (false = true) by decide)] at H; exact H
     clear H; have H := H1; clear H1; simp only [Option.some.injEq, Prod.mk.injEq] at H; obtain ⟨rfl, rfl⟩ := H; have hcz26_0 := z10 BK318; have hfz26_0 := blk_frozen BK318.out 0; go_wp2_with (first | ((with_reducible refine gate_callee (f := 109) rfl ?_); refine goesL_ (some 48) rfl rfl Try.func109 (by kernel_rfl) rfl #[.agg #[.slice A0_0 l0_0.length c0_0]] rfl (by (try simp only [mT, mC, mN]); first | done | rfl) ?_; (with_reducible refine (spec_IsMorphism.calls k1 _ _ l0_0 false _ ?side1 ?side2 A21.out).mono ?_); (case side1 => exact xC ((Kd.C_below HR0_0.out HB.out))); (case side2 => exact HC0_0.out); rintro e w27 ⟨rfl, hb⟩; refine ⟨_, rfl, ?_⟩; replace HO_6 := am (Kd.R_below (by exact rR HO_6) hb); replace BK318 := bK BK318 hb; replace HB := bS HB hb; clear hb)); go_ret2; exact ⟨_, by first | rfl | (simp [errW_none, errW_some] <;> rfl) | (simp [*, errW_none, errW_some] <;> rfl), by exact rR HO_6, by exact rB HB⟩
mutual
def impl_ImageLengths.j0 : Nat → Int → List (List Int) → Bool → Option (List Int × Bool)
 | 0, _, _, _ => none
 | k + 1, x1, x6, x29 => if x29 = true then (some ((([] : List Int)), false)) else (if 0 ≤ (x6.length : Int) then (if ((x6.length : Int) : Int).toNat ≤ 35184372088832 then ((some (List.replicate ((x6.length : Int) : Int).toNat 0 : List Int)).bind fun y343 => (impl_ImageLengths.l0 k x1 x6 y343 (y343.length : Int) 0)) else (none)) else (none))
def impl_ImageLengths.l0 : Nat → Int → List (List Int) → List Int → Int → Int → Option (List Int × Bool)
 | 0, _, _, _, _, _ => none
 | k + 1, x1, x6, x8, x35, x36 => if x36 < x35 then (if 0 ≤ x36 then (if x36 < (x8.length : Int) then (impl_ImageLengths.l0 k x1 x6 (x8.set (x36 : Int).toNat 1) x35 (wrap64 (x36 + 1))) else (none)) else (none)) else (impl_ImageLengths.l1 k x6 x8 x1 0)
def impl_ImageLengths.l1 : Nat → List (List Int) → List Int → Int → Int → Option (List Int × Bool)
 | 0, _, _, _, _ => none
 | k + 1, x6, x8, x43, x44 => if x44 < x43 then (if 0 ≤ (x8.length : Int) then (if ((x8.length : Int) : Int).toNat ≤ 35184372088832 then (impl_ImageLengths.l2 k x6 x8 (List.replicate ((x8.length : Int) : Int).toNat 0) x43 x44 x6 (x6.length : Int) 0) else (none)) else (none)) else (some (x8, true))
def impl_ImageLengths.l2 : Nat → List (List Int) → List Int → List Int → Int → Int → List (List Int) → Int → Int → Option (List Int × Bool)
 | 0, _, _, _, _, _, _, _, _ => none
 | k + 1, x6, x8, x10, x43, x44, x49, x50, x51 => if x51 < x50 then (if 0 ≤ x51 then (if x51 < (x49.length : Int) then (impl_ImageLengths.l3 k x6 x8 x10 x51 x43 x44 x49 x50 x51 (rd_L1 x49 x51) ((rd_L1 x49 x51).length : Int) 0) else (none)) else (none)) else (impl_ImageLengths.l1 k x6 x10 x43 (wrap64 (x44 + 1)))
def impl_ImageLengths.l3 : Nat → List (List Int) → List Int → List Int → Int → Int → Int → List (List Int) → Int → Int → List Int → Int → Int → Option (List Int × Bool)
 | 0, _, _, _, _, _, _, _, _, _, _, _, _ => none
 | k + 1, x6, x8, x10, x11, x43, x44, x49, x50, x51, x56, x57, x58 => if x58 < x57 then (if 0 ≤ x58 then (if x58 < (x56.length : Int) then (if 0 ≤ x11 then (if x11 < (x10.length : Int) then (if x58 < (x8.length : Int) then (impl_ImageLengths.l3 k x6 x8 (x10.set (x11 : Int).toNat (wrap64 ((rd x10 x11) + (wrap64 ((rd x56 x58) * (rd x8 x58)))))) x11 x43 x44 x49 x50 x51 x56 x57 (wrap64 (x58 + 1))) else (none)) else (none)) else (none)) else (none)) else (none)) else (impl_ImageLengths.l2 k x6 x8 x10 x43 x44 x49 x50 (wrap64 (x51 + 1)))
end
def impl_ImageLengths.f (k : Nat) (l0_0 : List (List Int)) (a1 : Int) : Option (List Int × Bool) := (impl_IncidenceOf.f k l0_0).bind fun bt336 => (if bt336.2 = true then (if a1 < 0 then (impl_ImageLengths.j0 k a1 bt336.1 true) else (impl_ImageLengths.j0 k a1 bt336.1 (decide (a1 > 12)))) else (impl_ImageLengths.j0 k a1 bt336.1 true))
def impl_ImageLengths.T19 : Bool × List (List Nat × List Nat) := (true, [([], []), ([], []), ([0, 1], [0, 1]), ([2], [2]), ([], []), ([], []), ([], []), ([5, 6], [5, 6]), ([7], [7]), ([4, 8], [4, 8]), ([3, 9], [3, 9]), ([0, 1, 0, 1, 2, 3, 4, 5, 6, 7, 8, 9, 10], [0, 1]), ([11, 10, 0, 1, 2, 3, 4, 5, 6, 7, 8, 9, 10], [10, 11])])
def impl_ImageLengths.B19 : List Nat := [0, 0, 3, 7, 0, 0, 0, 96, 224, 496, 1023, 2047, 4095]
theorem impl_ImageLengths.tab19 : rtab .any (opsOf Try.f32 19) = impl_ImageLengths.T19 := by kernel_rfl
theorem impl_ImageLengths.bits19 : waitsOk impl_ImageLengths.T19.2 impl_ImageLengths.B19 = true := by kernel_rfl
set_option maxHeartbeats 8000000 in
set_option maxRecDepth 100000 in
theorem impl_ImageLengths.calls (k : Nat) (A0_0 : Option Addr) (c0_0 : Nat) (l0_0 : List (List Int)) (a1 : Int) (r1 : List Int) (r2 : Bool) (w : World) (hr0_0 : Kd.C (Kd.slice 3 (Kd.int .i64)) w A0_0 l0_0.length l0_0) (hc0_0 : l0_0.length ≤ c0_0) (h : impl_ImageLengths.f k l0_0 a1 = some (r1, r2)) :
  Calls Try.prog 32 #[.agg #[.slice A0_0 l0_0.length c0_0], .int .i64 a1] w fun e w' => ∃ v0_ : Value, e = .returned (.tuple #[v0_, .bool r2]) ∧ Kd.R (Kd.int .i64) 3 w' w.heap.size (fun _ => True) v0_ r1 ∧ Below w.heap.size w w' := by
 have hu28 := Try.underlying28; have HR0_0 := am hr0_0; have HC0_0 := am hc0_0; clear hr0_0 hc0_0; have HB := am (Below.refl w.heap.size w); have H : ((impl_IncidenceOf.f k l0_0).bind fun bt336 => (if bt336.2 = true then (if a1 < 0 then (impl_ImageLengths.j0 k a1 bt336.1 true) else (impl_ImageLengths.j0 k a1 bt336.1 (decide (a1 > 12)))) else (impl_ImageLengths.j0 k a1 bt336.1 true))) = some (r1, r2) := h; clear h; replace H := bE H; obtain ⟨⟨t336, t339⟩, A30, H⟩ := H; replace H : (if t339 = true then (if a1 < 0 then (impl_ImageLengths.j0 k a1 t336 true) else (impl_ImageLengths.j0 k a1 t336 (decide (a1 > 12)))) else (impl_ImageLengths.j0 k a1 t336 true)) = some (r1, r2) := H; have A3 := am A30; clear A30; have HC4 := am H; clear H; go_enter Try.func32, Try.ntmps32; go_upto_region 2 with (first | ((with_reducible refine gate_dst (N := 2) rfl ?_); refine box_event ?hg (N := 2) ?hd (cs := #[.slice A0_0 l0_0.length c0_0]) (t := 28) ?hr ?_; (case hd | hg => rfl); (case hr => go_simp <;> rfl); intro gb335 hg w5 hbox hb; have BK335 := am (hbox); have GW335 := am ((by rw [hg]; exact (bZ HB) : w.heap.size ≤ gb335)); have GE335 := am ((by rw [hg]; exact (bZ HB) : w.heap.size ≤ gb335)); replace HB := bS HB hb; have qW335 := Ge.mk GW335.out; have qE335 := Ge.mk GE335.out; clear hb hbox hg; have hcz6_0 := z10 BK335; have hfz6_0 := blk_frozen BK335.out 0) | ((with_reducible refine gate_callee (f := 18) rfl ?_); refine goesL_ (some 17) rfl rfl Try.func18 (by kernel_rfl) rfl #[.agg #[.slice A0_0 l0_0.length c0_0]] rfl (by (try simp only [mT, mC, mN]); first | done | rfl) ?_; (with_reducible refine (impl_IncidenceOf.calls k _ _ l0_0 t336 t339 _ ?side1 ?side2 A3.out).mono ?_); (case side1 => exact xC ((Kd.C_below HR0_0.out HB.out))); (case side2 => exact HC0_0.out); rintro e w7 ⟨v337, rfl, ho0, hb⟩; refine ⟨_, rfl, ?_⟩; have HO338 := am (Kd.S_lower ho0 (bZ HB)); replace BK335 := bK BK335 hb; replace HB := bS HB hb; clear hb ho0)); (try simp only [Act.put, qa, qz, qs]); go_cut [29] (fun v29 wc => ∃ (kq : Nat) (x29_3 : Bool), v29 = .bool x29_3 ∧ Aside0 (impl_ImageLengths.j0 kq a1 t336 x29_3 = some (r1, r2)) ∧ Aside0 (kq ≤ k) ∧ Aside0 (Kd.S (Kd.slice 3 (Kd.int .i64)) 36 wc w.heap.size (fun _ => True) v337 t336) ∧ Aside0 (wc.heap[gb335]? = some (.cells #[(.slice A0_0 l0_0.length c0_0)] 28 (0, 0))) ∧ Aside0 (Below w.heap.size w wc))
 case first =>
  have H := HC4.out; clear HC4; by_cases c8 : t339 = true
  ·subst c8; have H1 : (if a1 < 0 then (impl_ImageLengths.j0 k a1 t336 true) else (impl_ImageLengths.j0 k a1 t336 (decide (a1 > 12)))) = some (r1, r2) := by rw [if_pos rfl] at H; exact H
   clear H; have H := H1; clear H1; by_cases c9 : a1 < 0
   ·rw [if_pos c9] at H; have c9b0 : decide (a1 < 0) = true := decide_eq_true c9; clear c9
    (first | rw [c9b0] | (simp only [i64_w, i32_w]; rw [c9b0]) | skip)
    have H' := am H; clear H; go_wp2; go_meet
    case rel => exact ⟨_, (true), (by first | rfl | (simp; done) | (simp [*]; done)), H', ⟨by first | omega | exact Nat.le_refl _⟩, ⟨by exact rS HO338⟩, ⟨by exact rX BK335⟩, ⟨by exact rB HB⟩⟩
   ·rw [if_neg c9] at H; have c9b0 : decide (a1 < 0) = false := decide_eq_false c9; clear c9
    (first | rw [c9b0] | (simp only [i64_w, i32_w]; rw [c9b0]) | skip)
    have H' := am H; clear H; go_wp2; go_meet
    case rel => exact ⟨_, (decide (a1 > 12)), (by first | rfl | (simp; done) | (simp [*]; done)), H', ⟨by first | omega | exact Nat.le_refl _⟩, ⟨by exact rS HO338⟩, ⟨by exact rX BK335⟩, ⟨by exact rB HB⟩⟩
  ·replace c8 := Bool.eq_false_iff.mpr c8; subst c8; have H1 : (impl_ImageLengths.j0 k a1 t336 true) = some (r1, r2) := by rw [if_neg (show ¬ (false = true) by decide)] at H; exact H
   clear H; have H := H1; clear H1; have H' := am H; clear H; go_wp2; go_meet
   case rel => exact ⟨_, (true), (by first | rfl | (simp; done) | (simp [*]; done)), H', ⟨by first | omega | exact Nat.le_refl _⟩, ⟨by exact rS HO338⟩, ⟨by exact rX BK335⟩, ⟨by exact rB HB⟩⟩
 case rest =>
  clear HC4
  try clear c1
  try clear p2
  try clear c3
  try clear c8
  try clear c9
  try clear c9b0
  try clear hcz6_0
  try clear hfz6_0
  obtain ⟨kq, x29_3, rfl, HA, HJ3, HO_6, BK335, HB⟩ := hcut; cases kq with
  | zero => exact absurd HA.out (by simp [impl_ImageLengths.j0])
  | succ kj3 =>
   have H := HA.out; clear HA; simp only [impl_ImageLengths.j0] at H; by_cases c10 : x29_3 = true
   ·subst c10; have H1 : (some ((([] : List Int)), false)) = some (r1, r2) := by rw [if_pos rfl] at H; exact H
    clear H; have H := H1; clear H1; obtain ⟨y340, hy340⟩ : ∃ y_ : List Int, y_ = (([] : List Int)) := ⟨_, rfl⟩; replace H : (some (y340, false)) = some (r1, r2) := by rw [hy340]; first | exact H | exact (Option.bind_some _ _).symm.trans H
    have Ny340 := am hy340; clear hy340; simp only [Option.some.injEq, Prod.mk.injEq] at H; obtain ⟨rfl, rfl⟩ := H; go_wp2_with (first | ((with_reducible refine gate_dst (N := 30) rfl ?_); refine Kd.R_lit (Kd.int .i64) _ 3 ?hg (N := 30) ?hd (xs := ([] : List Int)) (inner := []) (ok := fun _ => True) (okp := fun _ => True) ?hr ?hp (fun _ hk => hk) trivial (Below.refl _ _) (Nat.le_refl _) (by simp) ?_; (case hd | hg => rfl); (case hr => go_simp <;> rfl); (case hp => exact (Reps.none _ _)); intro v341 w11 ho12 hb hg_ hnew_; clear hg_ hnew_; (first | rw [← Ny340.out] at ho12 | (simp only [Int.reduceToNat] at ho12; rw [← Ny340.out] at ho12)); replace HO_6 := am (Kd.S_elder' (by exact rS HO_6) (Kd.R_base ho12) hb); have HO342 := am (Kd.R_lower ho12 (bZ HB)); replace BK335 := bK BK335 hb; replace HB := bS HB hb; clear hb ho12)); go_ret2; exact ⟨_, by first | rfl | (simp [errW_none, errW_some] <;> rfl) | (simp [*, errW_none, errW_some] <;> rfl), by exact rR HO342, by exact rB HB⟩
   ·replace c10 := Bool.eq_false_iff.mpr c10; subst c10; have H1 : (if 0 ≤ (t336.length : Int) then (if ((t336.length : Int) : Int).toNat ≤ 35184372088832 then ((some (List.replicate ((t336.length : Int) : Int).toNat 0 : List Int)).bind fun y343 => (impl_ImageLengths.l0 kj3 a1 t336 y343 (y343.length : Int) 0)) else (none)) else (none)) = some (r1, r2) := by rw [if_neg (show ¬ (false = true) by decide)] at H; exact H
    clear H; have H := H1; clear H1; by_cases c13 : 0 ≤ (t336.length : Int)
    ·rw [if_pos c13] at H; have c13b0 := eq_true c13; have c13b1 : decide (0 ≤ (t336.length : Int)) = true := decide_eq_true c13; clear c13; by_cases c14 : ((t336.length : Int) : Int).toNat ≤ 35184372088832
     ·rw [if_pos c14] at H; have c14b0 := eq_true c14; have c14b1 : decide (((t336.length : Int) : Int).toNat ≤ 35184372088832) = true := decide_eq_true c14; clear c14; obtain ⟨y343, hy343⟩ : ∃ y_ : List Int, y_ = (List.replicate ((t336.length : Int) : Int).toNat 0) := ⟨_, rfl⟩; replace H : (impl_ImageLengths.l0 kj3 a1 t336 y343 (y343.length : Int) 0) = some (r1, r2) := by rw [hy343]; first | exact H | exact (Option.bind_some _ _).symm.trans H
      have Ny343 := am hy343; clear hy343; have H' := am H; clear H; obtain ⟨Ao15, co15, eo15⟩ := Kd.S_slice HO_6.out; subst eo15; go_wp2_with (first | ((with_reducible refine gate_dst (N := 33) rfl ?_); refine Kd.R_make (Kd.int .i64) _ 3 rfl (N := 33) rfl 36 _ _ rfl (t336.length : Int) rfl rfl Try.underlying36 (.int .i64 0) 8 info3 rfl (by decide) (by omega) 0 (ok := fun _ => True) (okp := fun _ => True) rfl (fun _ hk => hk) trivial (oD) (Nat.le_trans (Nat.mul_le_mul_right _ (oD : (t336.length : Int).toNat ≤ 35184372088832)) (by omega)) (Below.refl _ _) (Nat.le_refl _) ?_; intro v344 w16 ho17 hb hg_ hnew_; clear hg_ hnew_; (first | rw [← Ny343.out] at ho17 | (simp only [Int.reduceToNat] at ho17; rw [← Ny343.out] at ho17)); replace HO_6 := am (Kd.S_elder' (by exact rS HO_6) (Kd.R_base ho17) hb); have HO345 := am (Kd.R_lower ho17 (bZ HB)); replace BK335 := bK BK335 hb; replace HB := bS HB hb; clear hb ho17; obtain ⟨Ao18, co18, eo18⟩ := Kd.R_slice HO345.out; subst eo18)); go_loopg [36] kj3 (fun kq v36 w' => ∃ (x8_2 : List Int) (x36_2 : Int), v36 = .int .i64 x36_2 ∧ Aside0 (impl_ImageLengths.l0 kq a1 t336 x8_2 (y343.length : Int) x36_2 = some (r1, r2)) ∧ Aside0 (kq ≤ kj3) ∧ Aside0 (Kd.S (Kd.slice 3 (Kd.int .i64)) 36 w' w.heap.size (fun k_ => some k_ ≠ ((.slice Ao18 y343.length co18) : Value).ownBlock) (.slice Ao15 t336.length co15) t336) ∧ Aside0 (Kd.R (Kd.int .i64) 3 w' w.heap.size (fun _ => True) (.slice Ao18 y343.length co18) x8_2) ∧ Aside0 (w'.heap[gb335]? = some (.cells #[(.slice A0_0 l0_0.length c0_0)] 28 (0, 0))) ∧ Aside0 (Below w.heap.size w w'))
      case atStart => exact ⟨(y343), (0), (by first | rfl | (simp; done) | (simp [*]; done)), H', ⟨Nat.le_refl _⟩, ⟨by exact xS (Kd.S_mono HO_6.out (fun _ hk => hk.2))⟩, ⟨by exact rR HO345⟩, ⟨by exact rX BK335⟩, ⟨by exact rB HB⟩⟩
      case round =>
       clear H'
       try clear c1
       try clear p2
       try clear c3
       try clear c8
       try clear c9
       try clear c9b0
       try clear c10
       try clear c13
       try clear c13b0
       try clear c13b1
       try clear c14
       try clear c14b0
       try clear c14b1
       try clear c18
       try clear hcz6_0
       try clear hfz6_0
       try clear p2
       obtain ⟨x8_2, x36_2, rfl, HA, HK2, HO_6, HO_8, BK335, HB⟩ := hrel; have hl8_2 := (Kd.R_reads' HO_8.out).1; rw [hl8_2] at HO_8; (try simp only [hl8_2]); (try simp only [hl8_2] at BK335); (try simp only [hl8_2] at HO_6); cases gk with
       | zero => exact absurd HA.out (by simp [impl_ImageLengths.l0])
       | succ k2 =>
        have H := HA.out; clear HA; simp only [impl_ImageLengths.l0] at H; by_cases c19 : x36_2 < (y343.length : Int)
        ·rw [if_pos c19] at H; have c19b0 : decide (x36_2 < (y343.length : Int)) = true := decide_eq_true c19; clear c19; (try simp only [hl8_2] at c19b0); by_cases c20 : 0 ≤ x36_2
         ·rw [if_pos c20] at H; have c20b0 : decide (0 ≤ x36_2) = true := decide_eq_true c20; clear c20; by_cases c21 : x36_2 < (x8_2.length : Int)
          ·rw [if_pos c21] at H; have c21b0 : decide (x36_2 < (x8_2.length : Int)) = true := decide_eq_true c21; clear c21; (try simp only [hl8_2] at c21b0); obtain ⟨y346, hy346⟩ : ∃ y_ : List Int, y_ = (x8_2.set (x36_2 : Int).toNat 1) := ⟨_, rfl⟩; replace H : (impl_ImageLengths.l0 k2 a1 t336 y346 (y343.length : Int) (wrap64 (x36_2 + 1))) = some (r1, r2) := by rw [hy346]; first | exact H | exact (Option.bind_some _ _).symm.trans H
           have Ny346 := am hy346; clear hy346; have H' := am H; clear H; have p22 : 0 ≤ (x36_2 : Int) := oD; have q22 : (x36_2 : Int) < ((x8_2.length : Int) : Int) := oD; obtain ⟨go22, co22, eo22, gb22, gl22, cl22, HG22⟩ := Kd.R_form HO_8.out (by omega)
           (first | cases eo22 | (injection eo22 with ea_ en_ ec_; (first | subst ea_ | (injection ea_ with ea_; subst ea_)); subst ec_; clear en_))
           have GB22 := am gb22; have GG22 := am HG22; clear gb22 gl22 HG22; obtain ⟨hx22_0, hf22_0⟩ := Kd.R_celln 0 HO_8.out (x36_2 : Int) p22 q22; replace p22 := eq_true p22; replace q22 := eq_true q22; have HP23 := Kd.R_putg HO_8.out (x36_2 : Int) 1; go_wp2_with (first | ((with_reducible refine gate_store (t := 3) (p := 41) rfl ?_); refine store_event (t := 3) (p := 41) (v := ?vo_w24) (w1 := (wr.setCell ⟨go22, (x36_2 : Int).toNat, none⟩ (.int .i64 1))) ?hg ?ho ?hn ?hr ?_; (case ho => rfl); (case hg => rfl); (case hn => rfl); (case hr => go_simp <;> rfl); intro w24 hw; have hg : wr.grownBy w24 (some go22) := (by rw [hw]; exact HP23.2); have hp_ : Kd.R (Kd.int .i64) 3 w24 w.heap.size (fun _ => True) (.slice (some ⟨go22, 0, none⟩) x8_2.length co18) y346 := (by rw [hw, Ny346.out]; exact HP23.1); clear HP23; replace HO_6 := am (Kd.S_after (v := (.slice (some ⟨go22, 0, none⟩) x8_2.length co18)) (v1 := (.slice (some ⟨go22, 0, none⟩) x8_2.length co18)) (ok := (fun _ => True)) (by exact xS (Kd.S_mono HO_6.out (fun _ hk => ⟨trivial, hk⟩))) hg (.inl rfl)); replace BK335 := am (blk_grown (g := gb335) (o := .cells #[.slice A0_0 l0_0.length c0_0] 28 (0, 0)) (by exact rX BK335) hg (Kd.R_ne HO_8.out BK335.out (by decide))); replace HO_8 := am (hp_); replace HB := am ((by rw [hw]; exact below_set (HB.out) GB22.out : Below w.heap.size w w24)); clear hg hw hp_)); (try simp only [← hl8_2]); go_roundg k2
           case measure => have := HJ3.out; have := HK2.out; omega
           case rel => exact ⟨(y346), (wrap64 (x36_2 + 1)), (by first | rfl | (simp; done) | (simp [*]; done)), H', ⟨by have := HJ3.out; have := HK2.out; omega⟩, ⟨by (try simp only [hl8_2]); exact xS (Kd.S_mono HO_6.out (fun _ hk => hk.2))⟩, ⟨by (try simp only [hl8_2]); exact rR HO_8⟩, ⟨by (try simp only [hl8_2]); exact rX BK335⟩, ⟨by exact rB HB⟩⟩
          ·rw [if_neg c21] at H; exact absurd H (by simp)
         ·rw [if_neg c20] at H; exact absurd H (by simp)
        ·rw [if_neg c19] at H; have c19b0 : decide (x36_2 < (y343.length : Int)) = false := decide_eq_false c19; clear c19; (try simp only [hl8_2] at c19b0); have H' := am H; clear H; go_wp2; go_loopg [8, 44] k2 (fun kq v8 v44 w' => ∃ (x8_3 : List Int) (x44_3 : Int), v44 = .int .i64 x44_3 ∧ Aside0 (impl_ImageLengths.l1 kq t336 x8_3 a1 x44_3 = some (r1, r2)) ∧ Aside0 (kq ≤ k2) ∧ Aside0 (Kd.S (Kd.slice 3 (Kd.int .i64)) 36 w' w.heap.size (fun k_ => some k_ ≠ (v8 : Value).ownBlock) (.slice Ao15 t336.length co15) t336) ∧ Aside0 (Kd.R (Kd.int .i64) 3 w' w.heap.size (fun _ => True) v8 x8_3) ∧ Aside0 (w'.heap[gb335]? = some (.cells #[(.slice A0_0 l0_0.length c0_0)] 28 (0, 0))) ∧ Aside0 (Below w.heap.size w w'))
         case atStart => exact ⟨(x8_2), (0), (by first | rfl | (simp; done) | (simp [*]; done)), H', ⟨Nat.le_refl _⟩, ⟨by (try simp only [hl8_2]); exact rS HO_6⟩, ⟨by (try simp only [hl8_2]); exact rR HO_8⟩, ⟨by (try simp only [hl8_2]); exact rX BK335⟩, ⟨by exact rB HB⟩⟩
         case round =>
          clear H'
          try clear c1
          try clear c2
          try clear p2
          try clear q2
          try clear hx2
          try clear hf2
          try clear c3
          try clear p6
          try clear c8
          try clear c9
          try clear c9b0
          try clear c10
          try clear c13
          try clear c13b0
          try clear c13b1
          try clear c14
          try clear c14b0
          try clear c14b1
          try clear c18
          try clear c19
          try clear c19b0
          try clear c20
          try clear c20b0
          try clear c21
          try clear c21b0
          try clear p22
          try clear q22
          try clear hx22
          try clear hf22
          try clear hcz6_0
          try clear hfz6_0
          try clear hx22_0
          try clear p2
          try clear p22
          try clear q22
          obtain ⟨x8_3, x44_3, rfl, HA, HK3, HO_6, HO_8, BK335, HB⟩ := hrel; cases gk with
          | zero => exact absurd HA.out (by simp [impl_ImageLengths.l1])
          | succ k3 =>
           have H := HA.out; clear HA; simp only [impl_ImageLengths.l1] at H; by_cases c25 : x44_3 < a1
           ·rw [if_pos c25] at H; have c25b0 : decide (x44_3 < a1) = true := decide_eq_true c25; clear c25; by_cases c26 : 0 ≤ (x8_3.length : Int)
            ·rw [if_pos c26] at H; have c26b0 := eq_true c26; have c26b1 : decide (0 ≤ (x8_3.length : Int)) = true := decide_eq_true c26; clear c26; by_cases c27 : ((x8_3.length : Int) : Int).toNat ≤ 35184372088832
             ·rw [if_pos c27] at H; have c27b0 := eq_true c27; have c27b1 : decide (((x8_3.length : Int) : Int).toNat ≤ 35184372088832) = true := decide_eq_true c27; clear c27; obtain ⟨y347, hy347⟩ : ∃ y_ : List Int, y_ = (List.replicate ((x8_3.length : Int) : Int).toNat 0) := ⟨_, rfl⟩; replace H : (impl_ImageLengths.l2 k3 t336 x8_3 y347 a1 x44_3 t336 (t336.length : Int) 0) = some (r1, r2) := by rw [hy347]; first | exact H | exact (Option.bind_some _ _).symm.trans H
              have Ny347 := am hy347; clear hy347; have H' := am H; clear H; obtain ⟨Ao28, co28, eo28⟩ := Kd.R_slice HO_8.out; subst eo28; go_wp2_with (first | ((with_reducible refine gate_dst (N := 48) rfl ?_); refine Kd.R_make (Kd.int .i64) _ 3 rfl (N := 48) rfl 36 _ _ rfl (x8_3.length : Int) rfl rfl Try.underlying36 (.int .i64 0) 8 info3 rfl (by decide) (by omega) 0 (ok := fun _ => True) (okp := fun _ => True) rfl (fun _ hk => hk) trivial (oD) (Nat.le_trans (Nat.mul_le_mul_right _ (oD : (x8_3.length : Int).toNat ≤ 35184372088832)) (by omega)) (Below.refl _ _) (Nat.le_refl _) ?_; intro v348 w29 ho30 hb hg_ hnew_; clear hg_ hnew_; (first | rw [← Ny347.out] at ho30 | (simp only [Int.reduceToNat] at ho30; rw [← Ny347.out] at ho30)); replace HO_6 := am (Kd.S_elder' (by exact rS HO_6) (Kd.R_base ho30) hb); have HO349 := am (Kd.R_lower (Kd.R_new' ho30 (Kd.R_lt (by exact rR HO_8))) (bZ HB)); replace HO_8 := am (Kd.R_elder' (by exact rR HO_8) (Kd.R_base ho30) hb); replace BK335 := bK BK335 hb; replace HB := bS HB hb; clear hb ho30)); go_loopg [51] k3 (fun kq v51 w' => ∃ (x10_4 : List Int) (x51_4 : Int), v51 = .int .i64 x51_4 ∧ Aside0 (impl_ImageLengths.l2 kq t336 x8_3 x10_4 a1 x44_3 t336 (t336.length : Int) x51_4 = some (r1, r2)) ∧ Aside0 (kq ≤ k3) ∧ Aside0 (Kd.S (Kd.slice 3 (Kd.int .i64)) 36 w' w.heap.size (fun k_ => some k_ ≠ ((.slice Ao28 x8_3.length co28) : Value).ownBlock ∧ some k_ ≠ (v348 : Value).ownBlock) (.slice Ao15 t336.length co15) t336) ∧ Aside0 (Kd.R (Kd.int .i64) 3 w' w.heap.size (fun k_ => some k_ ≠ (v348 : Value).ownBlock) (.slice Ao28 x8_3.length co28) x8_3) ∧ Aside0 (Kd.R (Kd.int .i64) 3 w' w.heap.size (fun k_ => some k_ ≠ ((.slice Ao28 x8_3.length co28) : Value).ownBlock) v348 x10_4) ∧ Aside0 (Kd.S (Kd.slice 3 (Kd.int .i64)) 36 w' w.heap.size (fun k_ => some k_ ≠ ((.slice Ao28 x8_3.length co28) : Value).ownBlock ∧ some k_ ≠ (v348 : Value).ownBlock) (.slice Ao15 t336.length co15) t336) ∧ Aside0 (w'.heap[gb335]? = some (.cells #[(.slice A0_0 l0_0.length c0_0)] 28 (0, 0))) ∧ Aside0 (Below w.heap.size w w'))
              case atStart => exact ⟨(y347), (0), (by first | rfl | (simp; done) | (simp [*]; done)), H', ⟨Nat.le_refl _⟩, ⟨by (try simp only [hl8_2]); exact rS HO_6⟩, ⟨by (try simp only [hl8_2]); exact xR (Kd.R_mono HO_8.out (fun _ hk => hk.2))⟩, ⟨by (try simp only [hl8_2]); exact xR (Kd.R_mono HO349.out (fun _ hk => hk.2))⟩, ⟨by (try simp only [hl8_2]); exact rS HO_6⟩, ⟨by (try simp only [hl8_2]); exact rX BK335⟩, ⟨by exact rB HB⟩⟩
              case round =>
               clear H'
               try clear c1
               try clear c2
               try clear p2
               try clear q2
               try clear hx2
               try clear hf2
               try clear c3
               try clear p6
               try clear c8
               try clear c9
               try clear c9b0
               try clear c10
               try clear c13
               try clear c13b0
               try clear c13b1
               try clear c14
               try clear c14b0
               try clear c14b1
               try clear c18
               try clear c19
               try clear c19b0
               try clear c20
               try clear c20b0
               try clear c21
               try clear c21b0
               try clear p22
               try clear q22
               try clear hx22
               try clear hf22
               try clear c25
               try clear c25b0
               try clear c26
               try clear c26b0
               try clear c26b1
               try clear c27
               try clear c27b0
               try clear c27b1
               try clear hcz6_0
               try clear hfz6_0
               try clear hx22_0
               try clear p2
               try clear p22
               try clear p6
               try clear q2
               try clear q22
               obtain ⟨x10_4, x51_4, rfl, HA, HK4, HO_6, HO_8, HO_10, HO_49, BK335, HB⟩ := hrel; cases gk with
               | zero => exact absurd HA.out (by simp [impl_ImageLengths.l2])
               | succ k4 =>
                have H := HA.out; clear HA; simp only [impl_ImageLengths.l2] at H; by_cases c31 : x51_4 < (t336.length : Int)
                ·rw [if_pos c31] at H; have c31b0 : decide (x51_4 < (t336.length : Int)) = true := decide_eq_true c31; clear c31; (try simp only [hl8_2] at c31b0); by_cases c32 : 0 ≤ x51_4
                 ·rw [if_pos c32] at H; have c32b0 : decide (0 ≤ x51_4) = true := decide_eq_true c32; clear c32; by_cases c33 : x51_4 < (t336.length : Int)
                  ·rw [if_pos c33] at H; have c33b0 : decide (x51_4 < (t336.length : Int)) = true := decide_eq_true c33; clear c33; (try simp only [hl8_2] at c33b0); have H' := am H; clear H; have p350 : 0 ≤ (x51_4 : Int) := oD; have q350 : x51_4 < (t336.length : Int) := oD; obtain ⟨ad350, A350_0, c350_0, e350, hx350_0, hl350_0, hi350_0⟩ := at_L1 (Kd.S_reads' HO_49.out).2.2 x51_4 p350 q350; cases e350; obtain ⟨ce350, hce350, hMe350, hcc350⟩ := Kd.S_get HO_49.out [] x51_4 p350 (by first | exact q350 | exact oD | (have e_ := (Kd.S_reads' HO_49.out).1; omega)); obtain ⟨ve350_0, rfl, ge350_0⟩ := hMe350; have hv350_0 := hcc350 0 _ rfl; rw [Nat.add_zero, show ((Kd.slice 3 (Kd.int .i64))).sz = 1 from rfl, Nat.mul_one] at hv350_0; replace hv350_0 := Option.some.inj (hv350_0.symm.trans hx350_0); rw [hv350_0] at ge350_0; have HL350_0 := am (show Kd.R (Kd.int .i64) 3 _ _ _ _ (rd_L1 t336 x51_4) from ge350_0); clear hv350_0 ge350_0; clear hcc350 hce350; have HR350_0 := am hi350_0; have HC350_0 := am hl350_0; clear hi350_0 hl350_0; replace p350 := eq_true p350; replace q350 := eq_true q350; go_wp2; go_loopg [58] k4 (fun kq v58 w' => ∃ (x10_5 : List Int) (x58_5 : Int), v58 = .int .i64 x58_5 ∧ Aside0 (impl_ImageLengths.l3 kq t336 x8_3 x10_5 x51_4 a1 x44_3 t336 (t336.length : Int) x51_4 (rd_L1 t336 x51_4) ((rd_L1 t336 x51_4).length : Int) x58_5 = some (r1, r2)) ∧ Aside0 (kq ≤ k4) ∧ Aside0 (Kd.S (Kd.slice 3 (Kd.int .i64)) 36 w' w.heap.size (fun k_ => some k_ ≠ ((.slice Ao28 x8_3.length co28) : Value).ownBlock ∧ some k_ ≠ (v348 : Value).ownBlock) (.slice (some ad350) t336.length co15) t336) ∧ Aside0 (Kd.R (Kd.int .i64) 3 w' w.heap.size (fun k_ => some k_ ≠ (v348 : Value).ownBlock) (.slice Ao28 x8_3.length co28) x8_3) ∧ Aside0 (Kd.R (Kd.int .i64) 3 w' w.heap.size (fun k_ => some k_ ≠ (v348 : Value).ownBlock) (.slice A350_0 (rd_L1 t336 x51_4).length c350_0) (rd_L1 t336 x51_4)) ∧ Aside0 (Kd.R (Kd.int .i64) 3 w' w.heap.size (fun k_ => some k_ ≠ ((.slice Ao28 x8_3.length co28) : Value).ownBlock) v348 x10_5) ∧ Aside0 (Kd.S (Kd.slice 3 (Kd.int .i64)) 36 w' w.heap.size (fun k_ => some k_ ≠ ((.slice Ao28 x8_3.length co28) : Value).ownBlock ∧ some k_ ≠ (v348 : Value).ownBlock) (.slice (some ad350) t336.length co15) t336) ∧ Aside0 (w'.heap[gb335]? = some (.cells #[(.slice A0_0 l0_0.length c0_0)] 28 (0, 0))) ∧ Aside0 (Below w.heap.size w w'))
                   case atStart => exact ⟨(x10_4), (0), (by first | rfl | (simp; done) | (simp [*]; done)), H', ⟨Nat.le_refl _⟩, ⟨by (try simp only [hl8_2]); exact rS HO_6⟩, ⟨by (try simp only [hl8_2]); exact rR HO_8⟩, ⟨by exact xR (Kd.R_mono HL350_0.out (fun _ hk => hk.1.2))⟩, ⟨by (try simp only [hl8_2]); exact rR HO_10⟩, ⟨by (try simp only [hl8_2]); exact rS HO_49⟩, ⟨by (try simp only [hl8_2]); exact rX BK335⟩, ⟨by exact rB HB⟩⟩
                   case round =>
                    clear H'
                    try clear c1
                    try clear c2
                    try clear p2
                    try clear q2
                    try clear hx2
                    try clear hf2
                    try clear c3
                    try clear p3
                    try clear q3
                    try clear hx3
                    try clear p6
                    try clear c8
                    try clear c9
                    try clear c9b0
                    try clear c10
                    try clear c13
                    try clear c13b0
                    try clear c13b1
                    try clear c14
                    try clear c14b0
                    try clear c14b1
                    try clear c18
                    try clear c19
                    try clear c19b0
                    try clear c20
                    try clear c20b0
                    try clear c21
                    try clear c21b0
                    try clear p22
                    try clear q22
                    try clear hx22
                    try clear hf22
                    try clear c25
                    try clear c25b0
                    try clear c26
                    try clear c26b0
                    try clear c26b1
                    try clear c27
                    try clear c27b0
                    try clear c27b1
                    try clear c31
                    try clear c31b0
                    try clear c32
                    try clear c32b0
                    try clear c33
                    try clear c33b0
                    try clear hcz6_0
                    try clear hfz6_0
                    try clear hx22_0
                    try clear hx350_0
                    try clear p2
                    try clear p22
                    try clear p350
                    try clear p6
                    try clear q2
                    try clear q22
                    try clear q350
                    obtain ⟨x10_5, x58_5, rfl, HA, HK5, HO_6, HO_8, HO_R, HO_10, HO_49, BK335, HB⟩ := hrel; cases gk with
                    | zero => exact absurd HA.out (by simp [impl_ImageLengths.l3])
                    | succ k5 =>
                     have H := HA.out; clear HA; simp only [impl_ImageLengths.l3] at H; by_cases c34 : x58_5 < ((rd_L1 t336 x51_4).length : Int)
                     ·rw [if_pos c34] at H; have c34b0 : decide (x58_5 < ((rd_L1 t336 x51_4).length : Int)) = true := decide_eq_true c34; clear c34; (try simp only [hl8_2] at c34b0); by_cases c35 : 0 ≤ x58_5
                      ·rw [if_pos c35] at H; have c35b0 : decide (0 ≤ x58_5) = true := decide_eq_true c35; clear c35; by_cases c36 : x58_5 < ((rd_L1 t336 x51_4).length : Int)
                       ·rw [if_pos c36] at H; have c36b0 : decide (x58_5 < ((rd_L1 t336 x51_4).length : Int)) = true := decide_eq_true c36; clear c36; (try simp only [hl8_2] at c36b0); by_cases c37 : 0 ≤ x51_4
                        ·rw [if_pos c37] at H; have c37b0 : decide (0 ≤ x51_4) = true := decide_eq_true c37; clear c37; by_cases c38 : x51_4 < (x10_5.length : Int)
                         ·rw [if_pos c38] at H; have c38b0 : decide (x51_4 < (x10_5.length : Int)) = true := decide_eq_true c38; clear c38; (try simp only [hl8_2] at c38b0); by_cases c39 : x58_5 < (x8_3.length : Int)
                          ·rw [if_pos c39] at H; have c39b0 : decide (x58_5 < (x8_3.length : Int)) = true := decide_eq_true c39; clear c39; (try simp only [hl8_2] at c39b0); obtain ⟨y354, hy354⟩ : ∃ y_ : List Int, y_ = (x10_5.set (x51_4 : Int).toNat (wrap64 ((rd x10_5 x51_4) + (wrap64 ((rd (rd_L1 t336 x51_4) x58_5) * (rd x8_3 x58_5)))))) := ⟨_, rfl⟩; replace H : (impl_ImageLengths.l3 k5 t336 x8_3 y354 x51_4 a1 x44_3 t336 (t336.length : Int) x51_4 (rd_L1 t336 x51_4) ((rd_L1 t336 x51_4).length : Int) (wrap64 (x58_5 + 1))) = some (r1, r2) := by rw [hy354]; first | exact H | exact (Option.bind_some _ _).symm.trans H
                           have Ny354 := am hy354; clear hy354; have H' := am H; clear H; have p351 : 0 ≤ (x58_5 : Int) := oD; have q351 : x58_5 < ((rd_L1 t336 x51_4).length : Int) := oD; obtain ⟨ad351, e351, hx351_0⟩ := Kd.at_int (Kd.R_reads' HO_R.out).2.2 x58_5 p351 q351; cases e351
                           skip
                           replace p351 := eq_true p351; replace q351 := eq_true q351
                           try go_wp2
                           have n0_ := am (Kd.S_drew HO_6.out); have n1_ := am (Kd.R_drew HO_8.out); have nR_ := am (Kd.R_drew HO_R.out); have n2_ := am (Kd.R_drew HO_10.out); have n3_ := am (Kd.S_drew HO_49.out); have n4_ := am (blk_drew BK335.out); have n5_ := am (below_drew1 HB.out); clear HO_6; clear HO_8; clear HO_10; clear HO_49; clear BK335; clear HB; have HO_6 := n0_; have HO_8 := n1_; clear HO_R; have HO_R := nR_; clear nR_; have HO_10 := n2_; have HO_49 := n3_; have BK335 := n4_; have HB := n5_; clear n0_ n1_ n2_ n3_ n4_ n5_; obtain ⟨Ao42, co42, eo42⟩ := Kd.R_slice HO_10.out
                           (first | subst eo42 | (injection eo42 with f1_ f2_ f3_; have f4_ := f1_.symm; have f5_ := f3_.symm; clear f1_ f2_ f3_; subst f4_; subst f5_))
                           have p352 : 0 ≤ (x51_4 : Int) := oD; have q352 : x51_4 < (x10_5.length : Int) := oD; obtain ⟨ad352, e352, hx352_0⟩ := Kd.at_int (Kd.R_reads' HO_10.out).2.2 x51_4 p352 q352; cases e352; replace p352 := eq_true p352; replace q352 := eq_true q352; have p353 : 0 ≤ (x58_5 : Int) := oD; have q353 : x58_5 < (x8_3.length : Int) := oD; obtain ⟨ad353, e353, hx353_0⟩ := Kd.at_int (Kd.R_reads' HO_8.out).2.2 x58_5 p353 q353; cases e353; replace p353 := eq_true p353; replace q353 := eq_true q353; have p40 : 0 ≤ (x51_4 : Int) := oD; have q40 : (x51_4 : Int) < ((x10_5.length : Int) : Int) := oD; obtain ⟨go40, co40, eo40, gb40, gl40, cl40, HG40⟩ := Kd.R_form HO_10.out (by omega)
                           (first | cases eo40 | (injection eo40 with ea_ en_ ec_; (first | subst ea_ | (injection ea_ with ea_; subst ea_)); subst ec_; clear en_))
                           have GB40 := am gb40; have GG40 := am HG40; clear gb40 gl40 HG40
                           (first | simp only [add_plain] at hx352_0 | skip)
                           obtain ⟨hx40_0, hf40_0⟩ := Kd.R_celln 0 HO_10.out (x51_4 : Int) p40 q40; replace p40 := eq_true p40; replace q40 := eq_true q40; have HP43 := Kd.R_putn HO_10.out (x51_4 : Int) (wrap64 ((rd x10_5 x51_4) + (wrap64 ((rd (rd_L1 t336 x51_4) x58_5) * (rd x8_3 x58_5))))); rw [← Ny354.out] at HP43; have HQ43 := am HP43; clear HP43; refine start_ (n := 13) (S := fun w' => w'.cell? ⟨go40, (x51_4).toNat, none⟩ = some (.int .i64 (rd x10_5 x51_4)) ∧ w'.cell? (ad353.add (x58_5).toNat) = some (.int .i64 (rd x8_3 x58_5))) (ds := [12]) #[false, false, false, false, false, false, false, false, false, false, false, false, false] (by kernel_rfl) rfl rfl ⟨hx352_0, hx353_0⟩ (fun hHeld => ?_); refine with_tabW impl_ImageLengths.tab19 impl_ImageLengths.bits19 (fun HT_ HW_ => ?_); generalize wr.drew = w41 at HO_6 HO_8 HO_R HO_10 HO_49 BK335 HB GG40 HQ43 hf40_0 hx352_0 hx353_0 hx40_0 hHeld ⊢; refine pure_ (i := 0) (N := some 63) (v := ?_) (a' := ?_) (bA 13 1) rfl rfl (any_of HT_.out (by kernel_rfl)) (fun _ _ _ h => h) (Or.inl ⟨by rfl, ?_⟩) ?_ ?_; rotate_left; (intro w'; go_simp; (with_reducible rfl)); rotate_left; (simp only [Act.put, qa, qz, qs, i64_w, i32_w]; rfl); refine pure_ (i := 1) (N := some 64) (v := ?_) (a' := ?_) (bA 13 3) rfl rfl (any_of HT_.out (by kernel_rfl)) (fun _ _ _ h => h) (Or.inl ⟨by rfl, ?_⟩) ?_ ?_; rotate_left
                           ·intro w'; go_simp; (with_reducible rfl)
                           rotate_left; (simp only [Act.put, qa, qz, qs, i64_w, i32_w]; rfl); refine pure_ (i := 2) (N := some 65) (v := ?_) (a' := ?_) (bA 13 7) rfl rfl (any_of HT_.out (by kernel_rfl)) (fun _ _ _ h => h) (Or.inl ⟨by rfl, ?_⟩) ?_ ?_; rotate_left
                           ·intro w'; go_simp; (with_reducible rfl)
                           rotate_left; (simp only [Act.put, qa, qz, qs, i64_w, i32_w]; rfl); refine pure_ (i := 4) (N := some 67) (v := ?_) (a' := ?_) (bA 13 23) rfl rfl (any_of HT_.out (by kernel_rfl)) (fun _ _ _ h => h) (Or.inl ⟨by rfl, ?_⟩) ?_ ?_; rotate_left
                           ·intro w'; go_simp; (with_reducible rfl)
                           rotate_left; (simp only [Act.put, qa, qz, qs, i64_w, i32_w]; rfl); refine pure_ (i := 5) (N := some 68) (v := ?_) (a' := ?_) (bA 13 55) rfl rfl (any_of HT_.out (by kernel_rfl)) (fun _ _ _ h => h) (Or.inl ⟨by rfl, ?_⟩) ?_ ?_; rotate_left
                           ·intro w'; go_simp; (with_reducible rfl)
                           rotate_left; (simp only [Act.put, qa, qz, qs, i64_w, i32_w]; rfl); refine pure_ (i := 6) (N := some 69) (v := ?_) (a' := ?_) (bA 13 119) rfl rfl (any_of HT_.out (by kernel_rfl)) (fun _ _ _ h => h) (Or.inl ⟨by rfl, ?_⟩) ?_ ?_; rotate_left
                           ·intro w'; go_simp; (with_reducible rfl)
                           rotate_left; (simp only [Act.put, qa, qz, qs, i64_w, i32_w]; rfl); refine pure_ (i := 7) (N := some 70) (v := ?_) (a' := ?_) (bA 13 247) rfl rfl (any_of HT_.out (by kernel_rfl)) (fun _ _ _ h => h) (Or.inl ⟨by rfl, ?_⟩) ?_ ?_; rotate_left
                           ·intro w'; go_simp; (with_reducible rfl)
                           rotate_left; (simp only [Act.put, qa, qz, qs, i64_w, i32_w]; rfl); refine take_ (i := 3) (N := some 66) (v := ?_) (a' := ?_) (bA 13 255) rfl rfl (take_ofW HT_.out HW_.out (by kernel_rfl)) (fun _ _ _ h => h) (Or.inl ⟨by rfl, ?_⟩) hHeld ?_ ?_; rotate_left
                           ·rintro w' ⟨s0, s1⟩; go_simp; (with_reducible rfl)
                           rotate_left; (simp only [Act.put, qa, qz, qs, i64_w, i32_w]; rfl); refine take_ (i := 8) (N := some 71) (v := ?_) (a' := ?_) (bA 13 511) rfl rfl (take_ofW HT_.out HW_.out (by kernel_rfl)) (fun _ _ _ h => h) (Or.inl ⟨by rfl, ?_⟩) hHeld ?_ ?_; rotate_left
                           ·rintro w' ⟨s0, s1⟩; go_simp; (with_reducible rfl)
                           rotate_left; (simp only [Act.put, qa, qz, qs, i64_w, i32_w]; rfl); refine pure_ (i := 9) (N := some 72) (v := ?_) (a' := ?_) (bA 13 1023) rfl rfl (any_of HT_.out (by kernel_rfl)) (fun _ _ _ h => h) (Or.inl ⟨by rfl, ?_⟩) ?_ ?_; rotate_left
                           ·intro w'; go_simp; (with_reducible rfl)
                           rotate_left; (simp only [Act.put, qa, qz, qs, i64_w, i32_w]; rfl); refine pure_ (i := 10) (N := some 73) (v := ?_) (a' := ?_) (bA 13 2047) rfl rfl (any_of HT_.out (by kernel_rfl)) (fun _ _ _ h => h) (Or.inl ⟨by rfl, ?_⟩) ?_ ?_; rotate_left
                           ·intro w'; go_simp; (with_reducible rfl)
                           rotate_left; (simp only [Act.put, qa, qz, qs, i64_w, i32_w]; rfl); refine pure_ (i := 11) (N := some 74) (v := ?_) (a' := ?_) (bA 13 4095) rfl rfl (any_of HT_.out (by kernel_rfl)) (fun _ _ _ h => h) (Or.inl ⟨by rfl, ?_⟩) ?_ ?_; rotate_left
                           ·intro w'; go_simp; (with_reducible rfl)
                           rotate_left; (simp only [Act.put, qa, qz, qs, i64_w, i32_w]; rfl); refine last_ (i := 12) (N := none) (bA 13 8191) rfl rfl (one_of HT_.out (by kernel_rfl)) (by decide) (fun K hK => ?_); refine skip_ (w1 := ?_) (by rfl) rfl ?_ ?_; rotate_left
                           ·go_simp; rfl
                           refine hK.out _ _ ?_; clear hK K; refine done_ (done_of HT_.out (by kernel_rfl)) ?_
                           try go_wp2
                           go_roundg k5
                           case measure => have := HJ3.out; have := HK2.out; have := HK3.out; have := HK4.out; have := HK5.out; omega
                           case rel => exact ⟨(y354), (wrap64 (x58_5 + 1)), (by first | rfl | (simp; done) | (simp [*]; done)), H', ⟨by have := HJ3.out; have := HK2.out; have := HK3.out; have := HK4.out; have := HK5.out; omega⟩, ⟨by (try simp only [hl8_2]); (with_reducible repeat (first | apply Kd.S_alloc | apply Kd.S_drewN | apply Kd.S_drew)); exact Kd.S_mono (Kd.S_far (p := ⟨go40, (x51_4 : Int).toNat, none⟩) (Kd.S_mono HO_6.out (fun k_ hk => (⟨hk, fun e_ => hk.2 (by rw [e_]; rfl)⟩ : _ ∧ k_ ≠ go40))) (fun _ hk => hk.2) (.int .i64 (wrap64 ((rd x10_5 x51_4) + (wrap64 ((rd (rd_L1 t336 x51_4) x58_5) * (rd x8_3 x58_5))))))) (fun _ hk => ⟨hk.1.1, hk.1.2⟩)⟩, ⟨by (try simp only [hl8_2]); (with_reducible repeat (first | apply Kd.R_alloc | apply Kd.R_drewN | apply Kd.R_drew)); exact Kd.R_mono (Kd.R_far (p := ⟨go40, (x51_4 : Int).toNat, none⟩) (Kd.R_mono HO_8.out (fun k_ hk => (⟨hk, fun e_ => hk (by rw [e_]; rfl)⟩ : _ ∧ k_ ≠ go40))) (fun _ hk => hk.2) (.int .i64 (wrap64 ((rd x10_5 x51_4) + (wrap64 ((rd (rd_L1 t336 x51_4) x58_5) * (rd x8_3 x58_5))))))) (fun _ hk => hk.1)⟩, ⟨by (try simp only [hl8_2]); (with_reducible repeat (first | apply Kd.R_alloc | apply Kd.R_drewN | apply Kd.R_drew)); exact Kd.R_mono (Kd.R_far (p := ⟨go40, (x51_4 : Int).toNat, none⟩) (Kd.R_mono HO_R.out (fun k_ hk => (⟨hk, fun e_ => hk (by rw [e_]; rfl)⟩ : _ ∧ k_ ≠ go40))) (fun _ hk => hk.2) (.int .i64 (wrap64 ((rd x10_5 x51_4) + (wrap64 ((rd (rd_L1 t336 x51_4) x58_5) * (rd x8_3 x58_5))))))) (fun _ hk => hk.1)⟩, ⟨by (try simp only [hl8_2]); (with_reducible repeat (first | apply Kd.R_alloc | apply Kd.R_drewN | apply Kd.R_drew)); exact HQ43.out⟩, ⟨by (try simp only [hl8_2]); (with_reducible repeat (first | apply Kd.S_alloc | apply Kd.S_drewN | apply Kd.S_drew)); exact Kd.S_mono (Kd.S_far (p := ⟨go40, (x51_4 : Int).toNat, none⟩) (Kd.S_mono HO_49.out (fun k_ hk => (⟨hk, fun e_ => hk.2 (by rw [e_]; rfl)⟩ : _ ∧ k_ ≠ go40))) (fun _ hk => hk.2) (.int .i64 (wrap64 ((rd x10_5 x51_4) + (wrap64 ((rd (rd_L1 t336 x51_4) x58_5) * (rd x8_3 x58_5))))))) (fun _ hk => ⟨hk.1.1, hk.1.2⟩)⟩, ⟨by (try simp only [hl8_2]); (with_reducible repeat (first | refine blk_drewN ?_ _ | refine blk_drew ?_ | refine blk_alloc ?_ _)); refine blk_far ?_ (by have h_ := Kd.R_ne HO_10.out BK335.out (by decide); intro e_; exact h_ (by rw [e_]; rfl)) _; (with_reducible repeat (first | refine blk_drewN ?_ _ | refine blk_drew ?_ | refine blk_alloc ?_ _)); exact BK335.out⟩, ⟨by repeat (first | (with_reducible first | exact HB.out | apply below_alloc | apply pw_below_drewN | apply below_drew1 | refine below_set ?_ GB40.out | refine below_set ?_ GE335.out) | exact HB.out)⟩⟩
                          ·rw [if_neg c39] at H; exact absurd H (by simp)
                         ·rw [if_neg c38] at H; exact absurd H (by simp)
                        ·rw [if_neg c37] at H; exact absurd H (by simp)
                       ·rw [if_neg c36] at H; exact absurd H (by simp)
                      ·rw [if_neg c35] at H; exact absurd H (by simp)
                     ·rw [if_neg c34] at H; have c34b0 : decide (x58_5 < ((rd_L1 t336 x51_4).length : Int)) = false := decide_eq_false c34; clear c34; (try simp only [hl8_2] at c34b0); have H' := am H; clear H; go_wp2; go_roundg k5
                      case measure => have := HJ3.out; have := HK2.out; have := HK3.out; have := HK4.out; have := HK5.out; omega
                      case rel => exact ⟨(x10_5), (wrap64 (x51_4 + 1)), (by first | rfl | (simp; done) | (simp [*]; done)), H', ⟨by have := HJ3.out; have := HK2.out; have := HK3.out; have := HK4.out; have := HK5.out; omega⟩, ⟨by (try simp only [hl8_2]); exact rS HO_6⟩, ⟨by (try simp only [hl8_2]); exact rR HO_8⟩, ⟨by (try simp only [hl8_2]); exact rR HO_10⟩, ⟨by (try simp only [hl8_2]); exact rS HO_49⟩, ⟨by (try simp only [hl8_2]); exact rX BK335⟩, ⟨by exact rB HB⟩⟩
                  ·rw [if_neg c33] at H; exact absurd H (by simp)
                 ·rw [if_neg c32] at H; exact absurd H (by simp)
                ·rw [if_neg c31] at H; have c31b0 : decide (x51_4 < (t336.length : Int)) = false := decide_eq_false c31; clear c31; (try simp only [hl8_2] at c31b0); have H' := am H; clear H; go_wp2; go_roundg k4
                 case measure => have := HJ3.out; have := HK2.out; have := HK3.out; have := HK4.out; omega
                 case rel => exact ⟨(x10_4), (wrap64 (x44_3 + 1)), (by first | rfl | (simp; done) | (simp [*]; done)), H', ⟨by have := HJ3.out; have := HK2.out; have := HK3.out; have := HK4.out; omega⟩, ⟨by (try simp only [hl8_2]); exact xS (Kd.S_mono HO_6.out (fun _ hk => hk.2))⟩, ⟨by (try simp only [hl8_2]); exact xR (Kd.R_mono HO_10.out (fun _ hk => trivial))⟩, ⟨by (try simp only [hl8_2]); exact rX BK335⟩, ⟨by exact rB HB⟩⟩
             ·rw [if_neg c27] at H; exact absurd H (by simp)
            ·rw [if_neg c26] at H; exact absurd H (by simp)
           ·rw [if_neg c25] at H; have c25b0 : decide (x44_3 < a1) = false := decide_eq_false c25; clear c25; simp only [Option.some.injEq, Prod.mk.injEq] at H; obtain ⟨rfl, rfl⟩ := H; go_wp2; go_ret2; exact ⟨_, by first | rfl | (simp [errW_none, errW_some] <;> rfl) | (simp [*, errW_none, errW_some] <;> rfl), by exact rR HO_8, by exact rB HB⟩
     ·rw [if_neg c14] at H; exact absurd H (by simp)
    ·rw [if_neg c13] at H; exact absurd H (by simp)
def laws_big.f (l0 : List Int) : Option (Bool) := some (decide ((l0.length : Int) > 1048576))
set_option maxHeartbeats 8000000 in
set_option maxRecDepth 100000 in
theorem laws_big.calls (A0 : Option Addr) (c0 : Nat) (l0 : List Int) (r : Bool) (w : World) (hr0 : Kd.C (Kd.int .u8) w A0 l0.length l0) (hc0 : l0.length ≤ c0) (h : laws_big.f l0 = some r) :
  Calls Try.prog 41 #[.slice A0 l0.length c0] w fun e w' => e = .returned (.bool r) ∧ Drawn0 w w' := by
 have HR0 := am hr0; have HC0 := am hc0; clear hr0 hc0; have H : (some (decide ((l0.length : Int) > 1048576))) = some r := h; clear h; obtain rfl := Option.some.inj H; go_enter Try.func41, Try.ntmps41; go_wp2; go_ret; exact ⟨by first | rfl | (simp; done) | (simp [*]; done), by repeat (first | exact Drawn0.refl _ | apply Drawn0.step)⟩
def laws_sameInts.l0 : Nat → List Int → List Int → Int → Option (Bool)
 | 0, _, _, _ => none
 | k + 1, x0, x1, x5 => if x5 < (x0.length : Int) then (if 0 ≤ x5 then (if x5 < (x1.length : Int) then (if (rd x0 x5) = (rd x1 x5) then (laws_sameInts.l0 k x0 x1 (wrap64 (x5 + 1))) else (some false)) else (none)) else (none)) else (some true)
def laws_sameInts.f (k : Nat) (l0 : List Int) (l1 : List Int) : Option (Bool) := if (l0.length : Int) = (l1.length : Int) then (laws_sameInts.l0 k l0 l1 0) else (some false)
set_option maxHeartbeats 8000000 in
set_option maxRecDepth 100000 in
theorem laws_sameInts.calls (k : Nat) (A0 : Option Addr) (c0 : Nat) (l0 : List Int) (A1 : Option Addr) (c1 : Nat) (l1 : List Int) (r : Bool) (w : World) (hr0 : Kd.C (Kd.int .i64) w A0 l0.length l0) (hc0 : l0.length ≤ c0) (hr1 : Kd.C (Kd.int .i64) w A1 l1.length l1) (hc1 : l1.length ≤ c1) (h : laws_sameInts.f k l0 l1 = some r) :
  Calls Try.prog 43 #[.slice A0 l0.length c0, .slice A1 l1.length c1] w fun e w' => e = .returned (.bool r) ∧ Drawn0 w w' := by
 have HR0 := am hr0; have HC0 := am hc0; clear hr0 hc0; have HR1 := am hr1; have HC1 := am hc1; clear hr1 hc1; have H : (if (l0.length : Int) = (l1.length : Int) then (laws_sameInts.l0 k l0 l1 0) else (some false)) = some r := h; clear h; by_cases c3 : (l0.length : Int) = (l1.length : Int)
 ·rw [if_pos c3] at H; have c3b0 : ((l0.length : Int) == (l1.length : Int)) = true := beq_iff_eq.mpr c3; have c3b1 : ((l0.length : Int) != (l1.length : Int)) = false := bne_eq_false_iff_eq.mpr c3; have c3b2 : (l0.length == l1.length) = true := by first | simpa using c3 | (simp at c3 ⊢; omega)
  clear c3; have H' := am H; clear H; go_enter Try.func43, Try.ntmps43; go_wp2
  repeat (go_quiet (fail); try go_wp2)
  go_loopg [5] k (fun kq v5 w' => ∃ (x5_1 : Int), v5 = .int .i64 x5_1 ∧ Aside0 (laws_sameInts.l0 kq l0 l1 x5_1 = some r) ∧ Aside0 (kq ≤ k) ∧ Drawn0 w w')
  case atStart => exact ⟨(0), (by first | rfl | (simp; done) | (simp [*]; done)), H', ⟨Nat.le_refl _⟩, by repeat (first | exact Drawn0.refl _ | apply Drawn0.step)⟩
  case round =>
   clear H'
   try clear c1
   try clear p2
   try clear c3
   try clear c3b0
   try clear c3b1
   try clear c3b2
   obtain ⟨x5_1, rfl, HA, HK1, ⟨m1, rfl⟩⟩ := hrel; cases gk with
   | zero => exact absurd HA.out (by simp [laws_sameInts.l0])
   | succ k1 =>
    have H := HA.out; clear HA; simp only [laws_sameInts.l0] at H; by_cases c4 : x5_1 < (l0.length : Int)
    ·rw [if_pos c4] at H; have c4b0 : decide (x5_1 < (l0.length : Int)) = true := decide_eq_true c4; clear c4; by_cases c5 : 0 ≤ x5_1
     ·rw [if_pos c5] at H; have c5b0 : decide (0 ≤ x5_1) = true := decide_eq_true c5; clear c5; by_cases c6 : x5_1 < (l1.length : Int)
      ·rw [if_pos c6] at H; have c6b0 : decide (x5_1 < (l1.length : Int)) = true := decide_eq_true c6; clear c6; by_cases c7 : (rd l0 x5_1) = (rd l1 x5_1)
       ·rw [if_pos c7] at H; have c7b0 : ((rd l0 x5_1) == (rd l1 x5_1)) = true := beq_iff_eq.mpr c7; have c7b1 : ((rd l0 x5_1) != (rd l1 x5_1)) = false := bne_eq_false_iff_eq.mpr c7; clear c7; have H' := am H; clear H; have p842 : 0 ≤ (x5_1 : Int) := oD; have q842 : x5_1 < (l0.length : Int) := oD; obtain ⟨ad842, e842, hx842_0⟩ := Kd.at_int HR0.out x5_1 p842 q842; cases e842; replace p842 := eq_true p842; replace q842 := eq_true q842; have p843 : 0 ≤ (x5_1 : Int) := oD; have q843 : x5_1 < (l1.length : Int) := oD; obtain ⟨ad843, e843, hx843_0⟩ := Kd.at_int HR1.out x5_1 p843 q843; cases e843; replace p843 := eq_true p843; replace q843 := eq_true q843; go_wp2
        repeat (go_quiet (fail); try go_wp2)
        go_roundg k1
        case measure => have := HK1.out; omega
        case rel => exact ⟨(wrap64 (x5_1 + 1)), (by first | rfl | (simp; done) | (simp [*]; done)), H', ⟨by have := HK1.out; omega⟩, by repeat (first | exact Drawn0.refl _ | apply Drawn0.step)⟩
       ·rw [if_neg c7] at H; have c7b0 : ((rd l0 x5_1) == (rd l1 x5_1)) = false := beq_eq_false_iff_ne.mpr c7; have c7b1 : ((rd l0 x5_1) != (rd l1 x5_1)) = true := bne_iff_ne.mpr c7; obtain rfl := Option.some.inj H; have p842 : 0 ≤ (x5_1 : Int) := oD; have q842 : x5_1 < (l0.length : Int) := oD; obtain ⟨ad842, e842, hx842_0⟩ := Kd.at_int HR0.out x5_1 p842 q842; cases e842; replace p842 := eq_true p842; replace q842 := eq_true q842; have p843 : 0 ≤ (x5_1 : Int) := oD; have q843 : x5_1 < (l1.length : Int) := oD; obtain ⟨ad843, e843, hx843_0⟩ := Kd.at_int HR1.out x5_1 p843 q843; cases e843; replace p843 := eq_true p843; replace q843 := eq_true q843; go_wp2
        repeat (go_quiet (fail); try go_wp2)
        go_ret; exact ⟨by first | rfl | (simp; done) | (simp [*]; done), by repeat (first | exact Drawn0.refl _ | apply Drawn0.step)⟩
      ·rw [if_neg c6] at H; exact absurd H (by simp)
     ·rw [if_neg c5] at H; exact absurd H (by simp)
    ·rw [if_neg c4] at H; have c4b0 : decide (x5_1 < (l0.length : Int)) = false := decide_eq_false c4; clear c4; obtain rfl := Option.some.inj H; go_wp2
     repeat (go_quiet (fail); try go_wp2)
     go_ret; exact ⟨by first | rfl | (simp; done) | (simp [*]; done), by repeat (first | exact Drawn0.refl _ | apply Drawn0.step)⟩
 ·rw [if_neg c3] at H; have c3b0 : ((l0.length : Int) == (l1.length : Int)) = false := beq_eq_false_iff_ne.mpr c3; have c3b1 : ((l0.length : Int) != (l1.length : Int)) = true := bne_iff_ne.mpr c3; have c3b2 : (l0.length == l1.length) = false := by first | simpa using c3 | (simp at c3 ⊢; omega)
  obtain rfl := Option.some.inj H; go_enter Try.func43, Try.ntmps43; go_wp2
  repeat (go_quiet (fail); try go_wp2)
  go_ret; exact ⟨by first | rfl | (simp; done) | (simp [*]; done), by repeat (first | exact Drawn0.refl _ | apply Drawn0.step)⟩
def laws_sameWords.l0 : Nat → List (List Int) → List (List Int) → Int → Option (Bool)
 | 0, _, _, _ => none
 | k + 1, x0, x1, x5 => if x5 < (x0.length : Int) then (if 0 ≤ x5 then (if x5 < (x1.length : Int) then ((laws_sameInts.f k (rd_L1 x0 x5) (rd_L1 x1 x5)).bind fun t869 => (if t869 = true then (laws_sameWords.l0 k x0 x1 (wrap64 (x5 + 1))) else (some false))) else (none)) else (none)) else (some true)
def laws_sameWords.f (k : Nat) (l0 : List (List Int)) (l1 : List (List Int)) : Option (Bool) := if (l0.length : Int) = (l1.length : Int) then (laws_sameWords.l0 k l0 l1 0) else (some false)
set_option maxHeartbeats 8000000 in
set_option maxRecDepth 100000 in
theorem laws_sameWords.calls (k : Nat) (A0 : Option Addr) (c0 : Nat) (l0 : List (List Int)) (A1 : Option Addr) (c1 : Nat) (l1 : List (List Int)) (r : Bool) (w : World) (hr0 : Kd.C (Kd.slice 3 (Kd.int .i64)) w A0 l0.length l0) (hc0 : l0.length ≤ c0) (hr1 : Kd.C (Kd.slice 3 (Kd.int .i64)) w A1 l1.length l1) (hc1 : l1.length ≤ c1) (h : laws_sameWords.f k l0 l1 = some r) :
  Calls Try.prog 58 #[.slice A0 l0.length c0, .slice A1 l1.length c1] w fun e w' => e = .returned (.bool r) ∧ Drawn0 w w' := by
 have HR0 := am hr0; have HC0 := am hc0; clear hr0 hc0; have HR1 := am hr1; have HC1 := am hc1; clear hr1 hc1; have H : (if (l0.length : Int) = (l1.length : Int) then (laws_sameWords.l0 k l0 l1 0) else (some false)) = some r := h; clear h; by_cases c3 : (l0.length : Int) = (l1.length : Int)
 ·rw [if_pos c3] at H; have c3b0 : ((l0.length : Int) == (l1.length : Int)) = true := beq_iff_eq.mpr c3; have c3b1 : ((l0.length : Int) != (l1.length : Int)) = false := bne_eq_false_iff_eq.mpr c3; have c3b2 : (l0.length == l1.length) = true := by first | simpa using c3 | (simp at c3 ⊢; omega)
  clear c3; have H' := am H; clear H; go_enter Try.func58, Try.ntmps58; go_wp2
  repeat (go_quiet (fail); try go_wp2)
  go_loopg [5] k (fun kq v5 w' => ∃ (x5_1 : Int), v5 = .int .i64 x5_1 ∧ Aside0 (laws_sameWords.l0 kq l0 l1 x5_1 = some r) ∧ Aside0 (kq ≤ k) ∧ Drawn0 w w')
  case atStart => exact ⟨(0), (by first | rfl | (simp; done) | (simp [*]; done)), H', ⟨Nat.le_refl _⟩, by repeat (first | exact Drawn0.refl _ | apply Drawn0.step)⟩
  case round =>
   clear H'
   try clear c1
   try clear p2
   try clear c3
   try clear c3b0
   try clear c3b1
   try clear c3b2
   obtain ⟨x5_1, rfl, HA, HK1, ⟨m1, rfl⟩⟩ := hrel; cases gk with
   | zero => exact absurd HA.out (by simp [laws_sameWords.l0])
   | succ k1 =>
    have H := HA.out; clear HA; simp only [laws_sameWords.l0] at H; by_cases c4 : x5_1 < (l0.length : Int)
    ·rw [if_pos c4] at H; have c4b0 : decide (x5_1 < (l0.length : Int)) = true := decide_eq_true c4; clear c4; by_cases c5 : 0 ≤ x5_1
     ·rw [if_pos c5] at H; have c5b0 : decide (0 ≤ x5_1) = true := decide_eq_true c5; clear c5; by_cases c6 : x5_1 < (l1.length : Int)
      ·rw [if_pos c6] at H; have c6b0 : decide (x5_1 < (l1.length : Int)) = true := decide_eq_true c6; clear c6; replace H := bE H; obtain ⟨t869, A70, H⟩ := H; replace H : (if t869 = true then (laws_sameWords.l0 k1 l0 l1 (wrap64 (x5_1 + 1))) else (some false)) = some r := H; have A7 := am A70; clear A70; by_cases c8 : t869 = true
       ·subst c8; have H1 : (laws_sameWords.l0 k1 l0 l1 (wrap64 (x5_1 + 1))) = some r := by rw [if_pos rfl] at H; exact H
        clear H; have H := H1; clear H1; have H' := am H; clear H; have p867 : 0 ≤ (x5_1 : Int) := oD; have q867 : x5_1 < (l0.length : Int) := oD; obtain ⟨ad867, A867_0, c867_0, e867, hx867_0, hl867_0, hi867_0⟩ := at_L1 HR0.out x5_1 p867 q867; cases e867; have HR867_0 := am hi867_0; have HC867_0 := am hl867_0; clear hi867_0 hl867_0; replace p867 := eq_true p867; replace q867 := eq_true q867; have p868 : 0 ≤ (x5_1 : Int) := oD; have q868 : x5_1 < (l1.length : Int) := oD; obtain ⟨ad868, A868_0, c868_0, e868, hx868_0, hl868_0, hi868_0⟩ := at_L1 HR1.out x5_1 p868 q868; cases e868; have HR868_0 := am hi868_0; have HC868_0 := am hl868_0; clear hi868_0 hl868_0; replace p868 := eq_true p868; replace q868 := eq_true q868; go_wp2_with (first | (go_at_call 43; (with_reducible refine (laws_sameInts.calls k1 _ _ (rd_L1 l0 x5_1) _ _ (rd_L1 l1 x5_1) true _ ?side1 ?side2 ?side3 ?side4 A7.out).mono ?_); (case side1 => exact xC (HR867_0.out)); (case side2 => exact HC867_0.out); (case side3 => exact xC (HR868_0.out)); (case side4 => exact HC868_0.out); rintro e w' ⟨rfl, ⟨nd, rfl⟩⟩; (try first | exact ⟨rfl, _, World.drewN_drewN _ _ _⟩ | exact ⟨rfl, _, Eq.trans (World.drewN_drewN _ _ _) (congrArg (World.drewN _) (Nat.add_assoc _ _ _))⟩)))
        repeat (go_quiet (first | (go_at_call 43; (with_reducible refine (laws_sameInts.calls k1 _ _ (rd_L1 l0 x5_1) _ _ (rd_L1 l1 x5_1) true _ ?side1 ?side2 ?side3 ?side4 A7.out).mono ?_); (case side1 => exact xC (HR867_0.out)); (case side2 => exact HC867_0.out); (case side3 => exact xC (HR868_0.out)); (case side4 => exact HC868_0.out); rintro e w' ⟨rfl, ⟨nd, rfl⟩⟩; (try first | exact ⟨rfl, _, World.drewN_drewN _ _ _⟩ | exact ⟨rfl, _, Eq.trans (World.drewN_drewN _ _ _) (congrArg (World.drewN _) (Nat.add_assoc _ _ _))⟩))); try go_wp2_with (first | (go_at_call 43; (with_reducible refine (laws_sameInts.calls k1 _ _ (rd_L1 l0 x5_1) _ _ (rd_L1 l1 x5_1) true _ ?side1 ?side2 ?side3 ?side4 A7.out).mono ?_); (case side1 => exact xC (HR867_0.out)); (case side2 => exact HC867_0.out); (case side3 => exact xC (HR868_0.out)); (case side4 => exact HC868_0.out); rintro e w' ⟨rfl, ⟨nd, rfl⟩⟩; (try first | exact ⟨rfl, _, World.drewN_drewN _ _ _⟩ | exact ⟨rfl, _, Eq.trans (World.drewN_drewN _ _ _) (congrArg (World.drewN _) (Nat.add_assoc _ _ _))⟩))))
        go_roundg k1
        case measure => have := HK1.out; omega
        case rel => exact ⟨(wrap64 (x5_1 + 1)), (by first | rfl | (simp; done) | (simp [*]; done)), H', ⟨by have := HK1.out; omega⟩, by repeat (first | exact Drawn0.refl _ | apply Drawn0.step)⟩
       ·replace c8 := Bool.eq_false_iff.mpr c8; subst c8; have H1 : (some false) = some r := by rw [if_neg (show ¬ (false = true) by decide)] at H; exact H
        clear H; have H := H1; clear H1; obtain rfl := Option.some.inj H; have p867 : 0 ≤ (x5_1 : Int) := oD; have q867 : x5_1 < (l0.length : Int) := oD; obtain ⟨ad867, A867_0, c867_0, e867, hx867_0, hl867_0, hi867_0⟩ := at_L1 HR0.out x5_1 p867 q867; cases e867; have HR867_0 := am hi867_0; have HC867_0 := am hl867_0; clear hi867_0 hl867_0; replace p867 := eq_true p867; replace q867 := eq_true q867; have p868 : 0 ≤ (x5_1 : Int) := oD; have q868 : x5_1 < (l1.length : Int) := oD; obtain ⟨ad868, A868_0, c868_0, e868, hx868_0, hl868_0, hi868_0⟩ := at_L1 HR1.out x5_1 p868 q868; cases e868; have HR868_0 := am hi868_0; have HC868_0 := am hl868_0; clear hi868_0 hl868_0; replace p868 := eq_true p868; replace q868 := eq_true q868; go_wp2_with (first | (go_at_call 43; (with_reducible refine (laws_sameInts.calls k1 _ _ (rd_L1 l0 x5_1) _ _ (rd_L1 l1 x5_1) false _ ?side1 ?side2 ?side3 ?side4 A7.out).mono ?_); (case side1 => exact xC (HR867_0.out)); (case side2 => exact HC867_0.out); (case side3 => exact xC (HR868_0.out)); (case side4 => exact HC868_0.out); rintro e w' ⟨rfl, ⟨nd, rfl⟩⟩; (try first | exact ⟨rfl, _, World.drewN_drewN _ _ _⟩ | exact ⟨rfl, _, Eq.trans (World.drewN_drewN _ _ _) (congrArg (World.drewN _) (Nat.add_assoc _ _ _))⟩)))
        repeat (go_quiet (first | (go_at_call 43; (with_reducible refine (laws_sameInts.calls k1 _ _ (rd_L1 l0 x5_1) _ _ (rd_L1 l1 x5_1) false _ ?side1 ?side2 ?side3 ?side4 A7.out).mono ?_); (case side1 => exact xC (HR867_0.out)); (case side2 => exact HC867_0.out); (case side3 => exact xC (HR868_0.out)); (case side4 => exact HC868_0.out); rintro e w' ⟨rfl, ⟨nd, rfl⟩⟩; (try first | exact ⟨rfl, _, World.drewN_drewN _ _ _⟩ | exact ⟨rfl, _, Eq.trans (World.drewN_drewN _ _ _) (congrArg (World.drewN _) (Nat.add_assoc _ _ _))⟩))); try go_wp2_with (first | (go_at_call 43; (with_reducible refine (laws_sameInts.calls k1 _ _ (rd_L1 l0 x5_1) _ _ (rd_L1 l1 x5_1) false _ ?side1 ?side2 ?side3 ?side4 A7.out).mono ?_); (case side1 => exact xC (HR867_0.out)); (case side2 => exact HC867_0.out); (case side3 => exact xC (HR868_0.out)); (case side4 => exact HC868_0.out); rintro e w' ⟨rfl, ⟨nd, rfl⟩⟩; (try first | exact ⟨rfl, _, World.drewN_drewN _ _ _⟩ | exact ⟨rfl, _, Eq.trans (World.drewN_drewN _ _ _) (congrArg (World.drewN _) (Nat.add_assoc _ _ _))⟩))))
        go_ret; exact ⟨by first | rfl | (simp; done) | (simp [*]; done), by repeat (first | exact Drawn0.refl _ | apply Drawn0.step)⟩
      ·rw [if_neg c6] at H; exact absurd H (by simp)
     ·rw [if_neg c5] at H; exact absurd H (by simp)
    ·rw [if_neg c4] at H; have c4b0 : decide (x5_1 < (l0.length : Int)) = false := decide_eq_false c4; clear c4; obtain rfl := Option.some.inj H; go_wp2
     repeat (go_quiet (fail); try go_wp2)
     go_ret; exact ⟨by first | rfl | (simp; done) | (simp [*]; done), by repeat (first | exact Drawn0.refl _ | apply Drawn0.step)⟩
 ·rw [if_neg c3] at H; have c3b0 : ((l0.length : Int) == (l1.length : Int)) = false := beq_eq_false_iff_ne.mpr c3; have c3b1 : ((l0.length : Int) != (l1.length : Int)) = true := bne_iff_ne.mpr c3; have c3b2 : (l0.length == l1.length) = false := by first | simpa using c3 | (simp at c3 ⊢; omega)
  obtain rfl := Option.some.inj H; go_enter Try.func58, Try.ntmps58; go_wp2
  repeat (go_quiet (fail); try go_wp2)
  go_ret; exact ⟨by first | rfl | (simp; done) | (simp [*]; done), by repeat (first | exact Drawn0.refl _ | apply Drawn0.step)⟩
def spec_l1Byte.f (s0_0 : List Int) (s0_1 : Int) (s0_2 : Int) : Option (Int × Int × Int) := if s0_1 < (s0_0.length : Int) then (if 0 ≤ s0_1 then (some (Go.bits .and .i64 (wrap64 ((Go.bits .and .i64 (Go.bits .xor .i64 ((wrap64 ((wrap64 (s0_2 * 6364136223846793005)) + 1442695040888963407)) / 8589934592) ((wrap64 ((wrap64 (s0_2 * 6364136223846793005)) + 1442695040888963407)) / 35184372088832)) 255) + (wrap64 (rd s0_0 s0_1)))) 255, wrap64 (s0_1 + 1), wrap64 ((wrap64 (s0_2 * 6364136223846793005)) + 1442695040888963407))) else (none)) else (some (Go.bits .and .i64 (Go.bits .xor .i64 ((wrap64 ((wrap64 (s0_2 * 6364136223846793005)) + 1442695040888963407)) / 8589934592) ((wrap64 ((wrap64 (s0_2 * 6364136223846793005)) + 1442695040888963407)) / 35184372088832)) 255, s0_1, wrap64 ((wrap64 (s0_2 * 6364136223846793005)) + 1442695040888963407)))
set_option maxHeartbeats 8000000 in
set_option maxRecDepth 100000 in
theorem spec_l1Byte.calls (g : Nat) (s0_0 : List Int) (s0_1 : Int) (s0_2 : Int) (r1 : Int) (r2 : Int) (r3 : Int) (w0 w : World) (hI : IsS114 w0 w g s0_0 s0_1 s0_2) (hB : Below w0.heap.size w0 w) (h : spec_l1Byte.f s0_0 s0_1 s0_2 = some (r1, r2, r3)) :
  Calls Try.prog 164 #[.pointer (some ⟨g, 0, none⟩)] w fun e w' => e = .returned (.int .i64 r1) ∧ IsS114 w0 w' g s0_0 r2 r3 ∧ Below w0.heap.size w0 w' ∧ KeepBut w w' g none := by
 have HI0 := am hI; have qI0 := Ge.mk (hI.ge); have HK := am (KeepBut.refl w g none); have HL := am hB.size; clear hI; have HW0 := am hB.size; have HB := am hB; clear hB; have H : (if s0_1 < (s0_0.length : Int) then (if 0 ≤ s0_1 then (some (Go.bits .and .i64 (wrap64 ((Go.bits .and .i64 (Go.bits .xor .i64 ((wrap64 ((wrap64 (s0_2 * 6364136223846793005)) + 1442695040888963407)) / 8589934592) ((wrap64 ((wrap64 (s0_2 * 6364136223846793005)) + 1442695040888963407)) / 35184372088832)) 255) + (wrap64 (rd s0_0 s0_1)))) 255, wrap64 (s0_1 + 1), wrap64 ((wrap64 (s0_2 * 6364136223846793005)) + 1442695040888963407))) else (none)) else (some (Go.bits .and .i64 (Go.bits .xor .i64 ((wrap64 ((wrap64 (s0_2 * 6364136223846793005)) + 1442695040888963407)) / 8589934592) ((wrap64 ((wrap64 (s0_2 * 6364136223846793005)) + 1442695040888963407)) / 35184372088832)) 255, s0_1, wrap64 ((wrap64 (s0_2 * 6364136223846793005)) + 1442695040888963407)))) = some (r1, r2, r3) := h; clear h; by_cases c2 : s0_1 < (s0_0.length : Int)
 ·rw [if_pos c2] at H; have c2b0 : decide (s0_1 < (s0_0.length : Int)) = true := decide_eq_true c2; clear c2; by_cases c3 : 0 ≤ s0_1
  ·rw [if_pos c3] at H; have c3b0 : decide (0 ≤ s0_1) = true := decide_eq_true c3; clear c3; simp only [Option.some.injEq, Prod.mk.injEq] at H; obtain ⟨rfl, rfl, rfl⟩ := H; obtain ⟨ASz4_0, cSz4_0, HGz4, hgz4, HSz4_0⟩ := HI0.out; have hcz4_0 := cellS114_0 HGz4; have hcz4_1 := cellS114_1 HGz4; have hcz4_2 := cellS114_2 HGz4; have hfz4_1 := blk_frozen HGz4 1; have hfz4_2 := blk_frozen HGz4 2; clear HGz4 hgz4; have p680 : 0 ≤ (s0_1 : Int) := oD; have q680 : s0_1 < (s0_0.length : Int) := oD; obtain ⟨ad680, e680, hx680_0⟩ := Kd.at_int HSz4_0 s0_1 p680 q680; cases e680; have hn680_0 : ad680.block ≠ g := Nat.ne_of_lt (Nat.lt_of_lt_of_le (by have := World.block_lt_of_cell? _ _ hx680_0; first | rwa [add_block] at this | exact this) (IsS114.ge HI0.out)); replace hx680_0 := pw_cell_below HB.out hx680_0; replace hx680_0 := (cell_far (p := ⟨g, 2, none⟩) (by first | (rw [add_block]; exact hn680_0) | (show (Addr.add _ _).block ≠ _; rw [add_block]; exact hn680_0) | exact hn680_0) (.int .i64 (wrap64 ((wrap64 (s0_2 * 6364136223846793005)) + 1442695040888963407)))).trans hx680_0; (try have hy680_0 := fun (n_ : Nat) => (show (((w.drewN n_).setCell ⟨g, 2, none⟩ (.int .i64 (wrap64 ((wrap64 (s0_2 * 6364136223846793005)) + 1442695040888963407))))).cell? _ = some _ from hx680_0)); clear hn680_0; replace p680 := eq_true p680; replace q680 := eq_true q680; go_enter Try.func164, Try.ntmps164; go_wp2
   repeat (go_quiet (fail); try go_wp2)
   go_ret; exact ⟨by first | rfl | (simp [errW_none, errW_some] <;> rfl) | (simp [*, errW_none, errW_some] <;> rfl), by repeat (first | (with_reducible first | exact HI0.out | apply IsS114.alloc | apply IsS114.drewN | apply IsS114.drew | apply IsS114.set_1 | apply IsS114.set_2) | exact HI0.out), by repeat (first | (with_reducible first | exact HB.out | apply below_alloc | apply pw_below_drewN | apply below_drew1 | refine below_set ?_ (IsS114.ge HI0.out)) | exact HB.out), by repeat (first | (with_reducible first | exact HK.out | apply KeepBut.set_ | apply keep_drewN | apply keep_drew | apply keep_alloc) | exact HK.out)⟩
  ·rw [if_neg c3] at H; exact absurd H (by simp)
 ·rw [if_neg c2] at H; have c2b0 : decide (s0_1 < (s0_0.length : Int)) = false := decide_eq_false c2; clear c2; simp only [Option.some.injEq, Prod.mk.injEq] at H; obtain ⟨rfl, rfl, rfl⟩ := H; obtain ⟨ASz5_0, cSz5_0, HGz5, hgz5, HSz5_0⟩ := HI0.out; have hcz5_0 := cellS114_0 HGz5; have hcz5_1 := cellS114_1 HGz5; have hcz5_2 := cellS114_2 HGz5; have hfz5_1 := blk_frozen HGz5 1; have hfz5_2 := blk_frozen HGz5 2; clear HGz5 hgz5; go_enter Try.func164, Try.ntmps164; go_wp2
  repeat (go_quiet (fail); try go_wp2)
  go_ret; exact ⟨by first | rfl | (simp [errW_none, errW_some] <;> rfl) | (simp [*, errW_none, errW_some] <;> rfl), by repeat (first | (with_reducible first | exact HI0.out | apply IsS114.alloc | apply IsS114.drewN | apply IsS114.drew | apply IsS114.set_1 | apply IsS114.set_2) | exact HI0.out), by repeat (first | (with_reducible first | exact HB.out | apply below_alloc | apply pw_below_drewN | apply below_drew1 | refine below_set ?_ (IsS114.ge HI0.out)) | exact HB.out), by repeat (first | (with_reducible first | exact HK.out | apply KeepBut.set_ | apply keep_drewN | apply keep_drew | apply keep_alloc) | exact HK.out)⟩
def spec_l1Below.f (s0_0 : List Int) (s0_1 : Int) (s0_2 : Int) (a1 : Int) : Option (Int × Int × Int) := if a1 ≤ 0 then (some (0, s0_1, s0_2)) else (if a1 ≤ 256 then ((spec_l1Byte.f s0_0 s0_1 s0_2).bind fun bt681 => (if a1 = 0 then (none) else (some (Int.tmod bt681.1 a1, bt681.2.1, bt681.2.2)))) else ((spec_l1Byte.f s0_0 s0_1 s0_2).bind fun bt684 => ((spec_l1Byte.f s0_0 bt684.2.1 bt684.2.2).bind fun bt687 => ((spec_l1Byte.f s0_0 bt687.2.1 bt687.2.2).bind fun bt690 => ((spec_l1Byte.f s0_0 bt690.2.1 bt690.2.2).bind fun bt693 => (if a1 = 0 then (none) else (some (Int.tmod (wrap64 ((wrap64 ((wrap64 ((wrap64 (bt684.1 * 16777216)) + (wrap64 (bt687.1 * 65536)))) + (wrap64 (bt690.1 * 256)))) + bt693.1)) a1, bt693.2.1, bt693.2.2))))))))
set_option maxHeartbeats 8000000 in
set_option maxRecDepth 100000 in
theorem spec_l1Below.calls (g : Nat) (s0_0 : List Int) (s0_1 : Int) (s0_2 : Int) (a1 : Int) (r1 : Int) (r2 : Int) (r3 : Int) (w0 w : World) (hI : IsS114 w0 w g s0_0 s0_1 s0_2) (hB : Below w0.heap.size w0 w) (h : spec_l1Below.f s0_0 s0_1 s0_2 a1 = some (r1, r2, r3)) :
  Calls Try.prog 127 #[.pointer (some ⟨g, 0, none⟩), .int .i64 a1] w fun e w' => e = .returned (.int .i64 r1) ∧ IsS114 w0 w' g s0_0 r2 r3 ∧ Below w0.heap.size w0 w' ∧ KeepBut w w' g none := by
 have HI0 := am hI; have qI0 := Ge.mk (hI.ge); have HK := am (KeepBut.refl w g none); have HL := am hB.size; clear hI; have HW0 := am hB.size; have HB := am hB; clear hB; have H : (if a1 ≤ 0 then (some (0, s0_1, s0_2)) else (if a1 ≤ 256 then ((spec_l1Byte.f s0_0 s0_1 s0_2).bind fun bt681 => (if a1 = 0 then (none) else (some (Int.tmod bt681.1 a1, bt681.2.1, bt681.2.2)))) else ((spec_l1Byte.f s0_0 s0_1 s0_2).bind fun bt684 => ((spec_l1Byte.f s0_0 bt684.2.1 bt684.2.2).bind fun bt687 => ((spec_l1Byte.f s0_0 bt687.2.1 bt687.2.2).bind fun bt690 => ((spec_l1Byte.f s0_0 bt690.2.1 bt690.2.2).bind fun bt693 => (if a1 = 0 then (none) else (some (Int.tmod (wrap64 ((wrap64 ((wrap64 ((wrap64 (bt684.1 * 16777216)) + (wrap64 (bt687.1 * 65536)))) + (wrap64 (bt690.1 * 256)))) + bt693.1)) a1, bt693.2.1, bt693.2.2))))))))) = some (r1, r2, r3) := h; clear h; by_cases c3 : a1 ≤ 0
 ·rw [if_pos c3] at H; have c3b0 : decide (a1 ≤ 0) = true := decide_eq_true c3; clear c3; simp only [Option.some.injEq, Prod.mk.injEq] at H; obtain ⟨rfl, rfl, rfl⟩ := H; go_enter Try.func127, Try.ntmps127; go_wp2; go_ret; exact ⟨by first | rfl | (simp [errW_none, errW_some] <;> rfl) | (simp [*, errW_none, errW_some] <;> rfl), by exact IsS114.m HI0, by exact rB HB, by exact rK HK⟩
 ·rw [if_neg c3] at H; have c3b0 : decide (a1 ≤ 0) = false := decide_eq_false c3; clear c3; by_cases c4 : a1 ≤ 256
  ·rw [if_pos c4] at H; have c4b0 : decide (a1 ≤ 256) = true := decide_eq_true c4; clear c4; replace H := bE H; obtain ⟨⟨t681, t682, t683⟩, A50, H⟩ := H; replace H : (if a1 = 0 then (none) else (some (Int.tmod t681 a1, t682, t683))) = some (r1, r2, r3) := H; have A5 := am A50; clear A50; by_cases c6 : a1 = 0
   ·rw [if_pos c6] at H; exact absurd H (by simp)
   ·rw [if_neg c6] at H; have c6b0 : (a1 == 0) = false := beq_eq_false_iff_ne.mpr c6; have c6b1 : (a1 != 0) = true := bne_iff_ne.mpr c6; simp only [Option.some.injEq, Prod.mk.injEq] at H; obtain ⟨rfl, rfl, rfl⟩ := H; go_enter Try.func127, Try.ntmps127; go_wp2_with (first | ((with_reducible refine gate_callee (f := 164) rfl ?_); refine goesL_ (some 14) rfl rfl Try.func164 (by kernel_rfl) rfl #[.pointer (some ⟨g, 0, none⟩)] rfl (by (try simp only [mT, mC, mN]); first | done | rfl) ?_; (with_reducible refine (spec_l1Byte.calls g s0_0 s0_1 s0_2 t681 t682 t683 w0 _ ?side1 ?side2 A5.out).mono ?_); (case side1 => exact IsS114.m HI0); (case side2 => exact rB HB); rintro e w7 ⟨rfl, hi, hb, hk⟩; refine ⟨_, rfl, ?_⟩; replace HK := kV HK hk; replace HB := am (hb); replace HI0 := am (hi); clear hb hk hi)); go_ret; exact ⟨by first | rfl | (simp [errW_none, errW_some] <;> rfl) | (simp [*, errW_none, errW_some] <;> rfl), by exact IsS114.m HI0, by exact rB HB, by exact rK HK⟩
  ·rw [if_neg c4] at H; have c4b0 : decide (a1 ≤ 256) = false := decide_eq_false c4; clear c4; replace H := bE H; obtain ⟨⟨t684, t685, t686⟩, A80, H⟩ := H; replace H : ((spec_l1Byte.f s0_0 t685 t686).bind fun bt687 => ((spec_l1Byte.f s0_0 bt687.2.1 bt687.2.2).bind fun bt690 => ((spec_l1Byte.f s0_0 bt690.2.1 bt690.2.2).bind fun bt693 => (if a1 = 0 then (none) else (some (Int.tmod (wrap64 ((wrap64 ((wrap64 ((wrap64 (t684 * 16777216)) + (wrap64 (bt687.1 * 65536)))) + (wrap64 (bt690.1 * 256)))) + bt693.1)) a1, bt693.2.1, bt693.2.2)))))) = some (r1, r2, r3) := H; have A8 := am A80; clear A80; replace H := bE H; obtain ⟨⟨t687, t688, t689⟩, A90, H⟩ := H; replace H : ((spec_l1Byte.f s0_0 t688 t689).bind fun bt690 => ((spec_l1Byte.f s0_0 bt690.2.1 bt690.2.2).bind fun bt693 => (if a1 = 0 then (none) else (some (Int.tmod (wrap64 ((wrap64 ((wrap64 ((wrap64 (t684 * 16777216)) + (wrap64 (t687 * 65536)))) + (wrap64 (bt690.1 * 256)))) + bt693.1)) a1, bt693.2.1, bt693.2.2))))) = some (r1, r2, r3) := H; have A9 := am A90; clear A90; replace H := bE H; obtain ⟨⟨t690, t691, t692⟩, A100, H⟩ := H; replace H : ((spec_l1Byte.f s0_0 t691 t692).bind fun bt693 => (if a1 = 0 then (none) else (some (Int.tmod (wrap64 ((wrap64 ((wrap64 ((wrap64 (t684 * 16777216)) + (wrap64 (t687 * 65536)))) + (wrap64 (t690 * 256)))) + bt693.1)) a1, bt693.2.1, bt693.2.2)))) = some (r1, r2, r3) := H; have A10 := am A100; clear A100; replace H := bE H; obtain ⟨⟨t693, t694, t695⟩, A110, H⟩ := H; replace H : (if a1 = 0 then (none) else (some (Int.tmod (wrap64 ((wrap64 ((wrap64 ((wrap64 (t684 * 16777216)) + (wrap64 (t687 * 65536)))) + (wrap64 (t690 * 256)))) + t693)) a1, t694, t695))) = some (r1, r2, r3) := H; have A11 := am A110; clear A110; by_cases c12 : a1 = 0
   ·rw [if_pos c12] at H; exact absurd H (by simp)
   ·rw [if_neg c12] at H; have c12b0 : (a1 == 0) = false := beq_eq_false_iff_ne.mpr c12; have c12b1 : (a1 != 0) = true := bne_iff_ne.mpr c12; simp only [Option.some.injEq, Prod.mk.injEq] at H; obtain ⟨rfl, rfl, rfl⟩ := H; go_enter Try.func127, Try.ntmps127; go_wp2_with (first | ((with_reducible refine gate_callee (f := 164) rfl ?_); refine goesL_ (some 18) rfl rfl Try.func164 (by kernel_rfl) rfl #[.pointer (some ⟨g, 0, none⟩)] rfl (by (try simp only [mT, mC, mN]); first | done | rfl) ?_; (with_reducible refine (spec_l1Byte.calls g s0_0 s0_1 s0_2 t684 t685 t686 w0 _ ?side1 ?side2 A8.out).mono ?_); (case side1 => exact IsS114.m HI0); (case side2 => exact rB HB); rintro e w13 ⟨rfl, hi, hb, hk⟩; refine ⟨_, rfl, ?_⟩; replace HK := kV HK hk; replace HB := am (hb); replace HI0 := am (hi); clear hb hk hi) | ((with_reducible refine gate_callee (f := 164) rfl ?_); refine goesL_ (some 20) rfl rfl Try.func164 (by kernel_rfl) rfl #[.pointer (some ⟨g, 0, none⟩)] rfl (by (try simp only [mT, mC, mN]); first | done | rfl) ?_; (with_reducible refine (spec_l1Byte.calls g s0_0 t685 t686 t687 t688 t689 w0 _ ?side1 ?side2 A9.out).mono ?_); (case side1 => exact IsS114.m HI0); (case side2 => exact rB HB); rintro e w14 ⟨rfl, hi, hb, hk⟩; refine ⟨_, rfl, ?_⟩; replace HK := kV HK hk; replace HB := am (hb); replace HI0 := am (hi); clear hb hk hi) | ((with_reducible refine gate_callee (f := 164) rfl ?_); refine goesL_ (some 22) rfl rfl Try.func164 (by kernel_rfl) rfl #[.pointer (some ⟨g, 0, none⟩)] rfl (by (try simp only [mT, mC, mN]); first | done | rfl) ?_; (with_reducible refine (spec_l1Byte.calls g s0_0 t688 t689 t690 t691 t692 w0 _ ?side1 ?side2 A10.out).mono ?_); (case side1 => exact IsS114.m HI0); (case side2 => exact rB HB); rintro e w15 ⟨rfl, hi, hb, hk⟩; refine ⟨_, rfl, ?_⟩; replace HK := kV HK hk; replace HB := am (hb); replace HI0 := am (hi); clear hb hk hi) | ((with_reducible refine gate_callee (f := 164) rfl ?_); refine goesL_ (some 24) rfl rfl Try.func164 (by kernel_rfl) rfl #[.pointer (some ⟨g, 0, none⟩)] rfl (by (try simp only [mT, mC, mN]); first | done | rfl) ?_; (with_reducible refine (spec_l1Byte.calls g s0_0 t691 t692 t693 t694 t695 w0 _ ?side1 ?side2 A11.out).mono ?_); (case side1 => exact IsS114.m HI0); (case side2 => exact rB HB); rintro e w16 ⟨rfl, hi, hb, hk⟩; refine ⟨_, rfl, ?_⟩; replace HK := kV HK hk; replace HB := am (hb); replace HI0 := am (hi); clear hb hk hi)); go_ret; exact ⟨by first | rfl | (simp [errW_none, errW_some] <;> rfl) | (simp [*, errW_none, errW_some] <;> rfl), by exact IsS114.m HI0, by exact rB HB, by exact rK HK⟩
def spec_l1PickInt.f (s0_0 : List Int) (s0_1 : Int) (s0_2 : Int) (l1 : List Int) : Option (Int × Int × Int) := (spec_l1Below.f s0_0 s0_1 s0_2 (l1.length : Int)).bind fun bt719 => (if 0 ≤ bt719.1 then (if bt719.1 < (l1.length : Int) then (some (rd l1 bt719.1, bt719.2.1, bt719.2.2)) else (none)) else (none))
set_option maxHeartbeats 8000000 in
set_option maxRecDepth 100000 in
theorem spec_l1PickInt.calls (g : Nat) (s0_0 : List Int) (s0_1 : Int) (s0_2 : Int) (A1 : Option Addr) (c1 : Nat) (l1 : List Int) (r1 : Int) (r2 : Int) (r3 : Int) (w0 w : World) (hI : IsS114 w0 w g s0_0 s0_1 s0_2) (hB : Below w0.heap.size w0 w) (hr1 : Kd.C (Kd.int .i64) w A1 l1.length l1) (hc1 : l1.length ≤ c1) (hf1 : ∀ ad, A1 = some ad → 0 < l1.length → ad.block ≠ g) (h : spec_l1PickInt.f s0_0 s0_1 s0_2 l1 = some (r1, r2, r3)) :
  Calls Try.prog 138 #[.pointer (some ⟨g, 0, none⟩), .slice A1 l1.length c1] w fun e w' => e = .returned (.int .i64 r1) ∧ IsS114 w0 w' g s0_0 r2 r3 ∧ Below w0.heap.size w0 w' ∧ KeepBut w w' g none := by
 have HR1 := am hr1; have HC1 := am hc1; clear hr1 hc1; have HI0 := am hI; have qI0 := Ge.mk (hI.ge); have HK := am (KeepBut.refl w g none); have HL := am hB.size; clear hI; have HW0 := am hB.size; have HB := am hB; clear hB; have H : ((spec_l1Below.f s0_0 s0_1 s0_2 (l1.length : Int)).bind fun bt719 => (if 0 ≤ bt719.1 then (if bt719.1 < (l1.length : Int) then (some (rd l1 bt719.1, bt719.2.1, bt719.2.2)) else (none)) else (none))) = some (r1, r2, r3) := h; clear h; replace H := bE H; obtain ⟨⟨t719, t720, t721⟩, A30, H⟩ := H; replace H : (if 0 ≤ t719 then (if t719 < (l1.length : Int) then (some (rd l1 t719, t720, t721)) else (none)) else (none)) = some (r1, r2, r3) := H; have A3 := am A30; clear A30; by_cases c4 : 0 ≤ t719
 ·rw [if_pos c4] at H; have c4b0 : decide (0 ≤ t719) = true := decide_eq_true c4; clear c4; by_cases c5 : t719 < (l1.length : Int)
  ·rw [if_pos c5] at H; have c5b0 : decide (t719 < (l1.length : Int)) = true := decide_eq_true c5; clear c5; simp only [Option.some.injEq, Prod.mk.injEq] at H; obtain ⟨rfl, rfl, rfl⟩ := H; go_enter Try.func138, Try.ntmps138; go_wp2_with (first | ((with_reducible refine gate_callee (f := 127) rfl ?_); refine goesL_ (some 9) rfl rfl Try.func127 (by kernel_rfl) rfl #[.pointer (some ⟨g, 0, none⟩), .int .i64 (l1.length : Int)] rfl (by (try simp only [mT, mC, mN]); first | done | rfl) ?_; (with_reducible refine (spec_l1Below.calls g s0_0 s0_1 s0_2 (l1.length : Int) t719 t720 t721 w0 _ ?side1 ?side2 A3.out).mono ?_); (case side1 => exact IsS114.m HI0); (case side2 => exact rB HB); rintro e w6 ⟨rfl, hi, hb, hk⟩; refine ⟨_, rfl, ?_⟩; replace HK := kV HK hk; replace HB := am (hb); replace HI0 := am (hi); clear hb hk hi; have p722 : 0 ≤ (t719 : Int) := oD; have q722 : t719 < (l1.length : Int) := oD; obtain ⟨ad722, e722, hx722_0⟩ := Kd.at_int HR1.out t719 p722 q722; cases e722; replace hx722_0 := keep_cell HK.out hx722_0 (by first | (rw [add_block]; exact hf1 _ rfl (by omega)) | exact hf1 _ rfl (by omega) | exact hf1 ad722 rfl (by omega)); replace p722 := eq_true p722; replace q722 := eq_true q722)); go_ret; exact ⟨by first | rfl | (simp [errW_none, errW_some] <;> rfl) | (simp [*, errW_none, errW_some] <;> rfl), by exact IsS114.m HI0, by exact rB HB, by exact rK HK⟩
  ·rw [if_neg c5] at H; exact absurd H (by simp)
 ·rw [if_neg c4] at H; exact absurd H (by simp)
def spec_l1Once.f (s0_0 : List Int) (s0_1 : Int) (s0_2 : Int) (a1 : Int) : Option (Bool × Int × Int) := (spec_l1Below.f s0_0 s0_1 s0_2 a1).bind fun bt723 => (some ((bt723.1 == 0), bt723.2.1, bt723.2.2))
set_option maxHeartbeats 8000000 in
set_option maxRecDepth 100000 in
theorem spec_l1Once.calls (g : Nat) (s0_0 : List Int) (s0_1 : Int) (s0_2 : Int) (a1 : Int) (r1 : Bool) (r2 : Int) (r3 : Int) (w0 w : World) (hI : IsS114 w0 w g s0_0 s0_1 s0_2) (hB : Below w0.heap.size w0 w) (h : spec_l1Once.f s0_0 s0_1 s0_2 a1 = some (r1, r2, r3)) :
  Calls Try.prog 154 #[.pointer (some ⟨g, 0, none⟩), .int .i64 a1] w fun e w' => e = .returned (.bool r1) ∧ IsS114 w0 w' g s0_0 r2 r3 ∧ Below w0.heap.size w0 w' ∧ KeepBut w w' g none := by
 have HI0 := am hI; have qI0 := Ge.mk (hI.ge); have HK := am (KeepBut.refl w g none); have HL := am hB.size; clear hI; have HW0 := am hB.size; have HB := am hB; clear hB; have H : ((spec_l1Below.f s0_0 s0_1 s0_2 a1).bind fun bt723 => (some ((bt723.1 == 0), bt723.2.1, bt723.2.2))) = some (r1, r2, r3) := h; clear h; replace H := bE H; obtain ⟨⟨t723, t724, t725⟩, A30, H⟩ := H; replace H : (some ((t723 == 0), t724, t725)) = some (r1, r2, r3) := H; have A3 := am A30; clear A30; simp only [Option.some.injEq, Prod.mk.injEq] at H; obtain ⟨rfl, rfl, rfl⟩ := H; go_enter Try.func154, Try.ntmps154; go_wp2_with (first | ((with_reducible refine gate_callee (f := 127) rfl ?_); refine goesL_ (some 7) rfl rfl Try.func127 (by kernel_rfl) rfl #[.pointer (some ⟨g, 0, none⟩), .int .i64 a1] rfl (by (try simp only [mT, mC, mN]); first | done | rfl) ?_; (with_reducible refine (spec_l1Below.calls g s0_0 s0_1 s0_2 a1 t723 t724 t725 w0 _ ?side1 ?side2 A3.out).mono ?_); (case side1 => exact IsS114.m HI0); (case side2 => exact rB HB); rintro e w4 ⟨rfl, hi, hb, hk⟩; refine ⟨_, rfl, ?_⟩; replace HK := kV HK hk; replace HB := am (hb); replace HI0 := am (hi); clear hb hk hi)); go_ret; exact ⟨by first | rfl | (simp [errW_none, errW_some] <;> rfl) | (simp [*, errW_none, errW_some] <;> rfl), by exact IsS114.m HI0, by exact rB HB, by exact rK HK⟩
/-- Three numbers in a new block, read. -/
theorem l7m_three (W : World) (N : Nat) (x y z : Int) (h : W.heap[N]? = some (.cells #[.int .i64 x, .int .i64 y, .int .i64 z] 3 (0, 0))) : Kd.C (Kd.int .i64) W (some ⟨N, 0, none⟩) 3 [x, y, z] := by
 refine ⟨rfl, by decide, fun _ => ⟨_, rfl, fun j p hj => ?_⟩⟩; rcases j with _ | _ | _ | j
 ·obtain rfl : x = p := by simpa using hj
  refine ⟨[.int .i64 x], rfl, rfl, fun i u hu => ?_⟩; rcases i with _ | i
  ·obtain rfl : Value.int .i64 x = u := by simpa using hu
   exact (blk_cell h 0).trans rfl
  ·simp at hu
 ·obtain rfl : y = p := by simpa using hj
  refine ⟨[.int .i64 y], rfl, rfl, fun i u hu => ?_⟩; rcases i with _ | i
  ·obtain rfl : Value.int .i64 y = u := by simpa using hu
   exact (blk_cell h 1).trans rfl
  ·simp at hu
 ·obtain rfl : z = p := by simpa using hj
  refine ⟨[.int .i64 z], rfl, rfl, fun i u hu => ?_⟩; rcases i with _ | i
  ·obtain rfl : Value.int .i64 z = u := by simpa using hu
   exact (blk_cell h 2).trans rfl
  ·simp at hu
 ·simp at hj
def l7m_row : Unit := ()
theorem l7m_one (W : World) (N : Nat) (z : Int) (h : W.heap[N]? = some (.cells #[.int .i64 z] 3 (0, 0))) : Kd.C (Kd.int .i64) W (some ⟨N, 0, none⟩) 1 [z] := by
 refine ⟨rfl, by decide, fun _ => ⟨_, rfl, fun j p hj => ?_⟩⟩; rcases j with _ | j
 ·obtain rfl : z = p := by simpa using hj
  refine ⟨[.int .i64 z], rfl, rfl, fun i u hu => ?_⟩; rcases i with _ | i
  ·obtain rfl : Value.int .i64 z = u := by simpa using hu
   exact (blk_cell h 0).trans rfl
  ·simp at hu
 ·simp at hj
theorem l7m_cell {W W1 : World} {g : Nat} (hk : KeepBut W W1 g none) {p : Addr} {v : Value} (h : W.cell? p = some v) (hn : p.block ≠ g) : W1.cell? p = some v := by
 have := hk.2 p.block (World.block_lt_of_cell? W p h) hn (by simp); simpa [World.cell?, this] using h
def spec_l7Morphism.T20 : Bool × List (List Nat × List Nat) := (true, [([], []), ([0], [0]), ([], []), ([2], [2]), ([3], [3]), ([4], [4]), ([], []), ([], []), ([6, 7], [6, 7]), ([8], [8]), ([5, 9, 8], [5, 9]), ([1, 0, 1, 2, 3, 4, 5, 6, 7, 8, 9, 10], [1]), ([11, 10, 10, 0, 1, 2, 3, 4, 5, 6, 7, 8, 9, 10], [10, 11])])
def spec_l7Morphism.B20 : List Nat := [0, 1, 0, 4, 12, 28, 0, 0, 192, 448, 1020, 2047, 4095]
theorem spec_l7Morphism.tab20 : rtab .any (opsOf Try.f128 20) = spec_l7Morphism.T20 := by kernel_rfl
theorem spec_l7Morphism.bits20 : waitsOk spec_l7Morphism.T20.2 spec_l7Morphism.B20 = true := by kernel_rfl
mutual
def spec_l7Morphism.l0 : Nat → Int → Int → List Int → Int → Int → List (List Int) → Option ((List (List Int)) × Int × Int)
 | 0, _, _, _, _, _, _ => none
 | k + 1, x3, x5, x1000, x1001, x1002, x764000 => if x5 < x3 then ((spec_l1Below.f x1000 x1001 x1002 4).bind fun bt770 => (spec_l7Morphism.l1 k x3 x5 (([] : List Int)) bt770.1 x1000 bt770.2.1 bt770.2.2 x764000)) else ((spec_l1Once.f x1000 x1001 x1002 12).bind fun bt764 => (if bt764.1 = true then ((spec_l1PickInt.f x1000 bt764.2.1 bt764.2.2 [-1, 4, 0]).bind fun bq => (if 0 < x764000.length then (if (rd_L1 x764000 0).length < 17592186044416 then (some (x764000.set 0 (rd_L1 x764000 0 ++ [bq.1]), bq.2.1, bq.2.2)) else (none)) else (none))) else (some (x764000, bt764.2.1, bt764.2.2))))
def spec_l7Morphism.l1 : Nat → Int → Int → List Int → Int → List Int → Int → Int → List (List Int) → Option ((List (List Int)) × Int × Int)
 | 0, _, _, _, _, _, _, _, _ => none
 | k + 1, x3, x5, x6, x7, x1000, x1001, x1002, x764000 => if x7 > 0 then ((spec_l1Below.f x1000 x1001 x1002 x3).bind fun bt773 => (if x6.length < 17592186044416 then (spec_l7Morphism.l1 k x3 x5 (x6 ++ [bt773.1]) (wrap64 (x7 - 1)) x1000 bt773.2.1 bt773.2.2 x764000) else (none))) else (if x764000.length < 5864062014805 then (spec_l7Morphism.l0 k x3 (wrap64 (x5 + 1)) x1000 x1001 x1002 (x764000 ++ [x6])) else (none))
end
def spec_l7Morphism.f (k : Nat) (s0_0 : List Int) (s0_1 : Int) (s0_2 : Int) : Option ((List (List Int)) × Int × Int) := (spec_l1Below.f s0_0 s0_1 s0_2 5).bind fun bt727 => (if bt727.1 = 0 then (some ((([(([0, 1] : List Int)), (([1, 0] : List Int))] : List (List Int))), bt727.2.1, bt727.2.2)) else (if bt727.1 = 1 then (some ((([(([0, 1] : List Int)), (([0] : List Int))] : List (List Int))), bt727.2.1, bt727.2.2)) else (if bt727.1 = 2 then (some ((([(([0, 1, 2] : List Int)), (([0, 2] : List Int)), (([1] : List Int))] : List (List Int))), bt727.2.1, bt727.2.2)) else ((spec_l1Below.f s0_0 bt727.2.1 bt727.2.2 3).bind fun bt760 => (spec_l7Morphism.l0 k (wrap64 (1 + bt760.1)) 0 s0_0 bt760.2.1 bt760.2.2 ([] : List (List Int)))))))
set_option maxHeartbeats 8000000 in
set_option maxRecDepth 100000 in
theorem spec_l7Morphism.calls (k : Nat) (g : Nat) (s0_0 : List Int) (s0_1 : Int) (s0_2 : Int) (r1 : List (List Int)) (r2 : Int) (r3 : Int) (w0 w : World) (hI : IsS114 w0 w g s0_0 s0_1 s0_2) (hB : Below w0.heap.size w0 w) (h : spec_l7Morphism.f k s0_0 s0_1 s0_2 = some (r1, r2, r3)) :
  Calls Try.prog 128 #[.pointer (some ⟨g, 0, none⟩)] w fun e w' => ∃ v0_ : Value, e = .returned (.agg #[v0_]) ∧ Kd.N (Kd.slice 3 (Kd.int .i64)) 36 w' w.heap.size (fun k_ => (w.heap.size ≤ k_)) v0_ r1 ∧ IsS114 w0 w' g s0_0 r2 r3 ∧ Below w0.heap.size w0 w' ∧ KeepBut w w' g none := by
 have hu28 := Try.underlying28; have HI0 := am hI; have qI0 := Ge.mk (hI.ge); have HK := am (KeepBut.refl w g none); have HL := am hB.size; clear hI; have HW0 := am hB.size; have HB := am hB; clear hB; have H : ((spec_l1Below.f s0_0 s0_1 s0_2 5).bind fun bt727 => (if bt727.1 = 0 then (some ((([(([0, 1] : List Int)), (([1, 0] : List Int))] : List (List Int))), bt727.2.1, bt727.2.2)) else (if bt727.1 = 1 then (some ((([(([0, 1] : List Int)), (([0] : List Int))] : List (List Int))), bt727.2.1, bt727.2.2)) else (if bt727.1 = 2 then (some ((([(([0, 1, 2] : List Int)), (([0, 2] : List Int)), (([1] : List Int))] : List (List Int))), bt727.2.1, bt727.2.2)) else ((spec_l1Below.f s0_0 bt727.2.1 bt727.2.2 3).bind fun bt760 => (spec_l7Morphism.l0 k (wrap64 (1 + bt760.1)) 0 s0_0 bt760.2.1 bt760.2.2 ([] : List (List Int)))))))) = some (r1, r2, r3) := h; clear h; replace H := bE H; obtain ⟨⟨t727, t728, t729⟩, A20, H⟩ := H; replace H : (if t727 = 0 then (some ((([(([0, 1] : List Int)), (([1, 0] : List Int))] : List (List Int))), t728, t729)) else (if t727 = 1 then (some ((([(([0, 1] : List Int)), (([0] : List Int))] : List (List Int))), t728, t729)) else (if t727 = 2 then (some ((([(([0, 1, 2] : List Int)), (([0, 2] : List Int)), (([1] : List Int))] : List (List Int))), t728, t729)) else ((spec_l1Below.f s0_0 t728 t729 3).bind fun bt760 => (spec_l7Morphism.l0 k (wrap64 (1 + bt760.1)) 0 s0_0 bt760.2.1 bt760.2.2 ([] : List (List Int))))))) = some (r1, r2, r3) := H; have A2 := am A20; clear A20; by_cases c3 : t727 = 0
 ·rw [if_pos c3] at H; have c3b0 : (t727 == 0) = true := beq_iff_eq.mpr c3; have c3b1 : (t727 != 0) = false := bne_eq_false_iff_eq.mpr c3; clear c3; obtain ⟨y730, hy730⟩ : ∃ y_ : List Int, y_ = (([0, 1] : List Int)) := ⟨_, rfl⟩; replace H : (some ((([y730, (([1, 0] : List Int))] : List (List Int))), t728, t729)) = some (r1, r2, r3) := by rw [hy730]; first | exact H | exact (Option.bind_some _ _).symm.trans H
  have Ny730 := am hy730; clear hy730; obtain ⟨y733, hy733⟩ : ∃ y_ : List Int, y_ = (([1, 0] : List Int)) := ⟨_, rfl⟩; replace H : (some ((([y730, y733] : List (List Int))), t728, t729)) = some (r1, r2, r3) := by rw [hy733]; first | exact H | exact (Option.bind_some _ _).symm.trans H
  have Ny733 := am hy733; clear hy733; obtain ⟨y736, hy736⟩ : ∃ y_ : List (List Int), y_ = (([y730, y733] : List (List Int))) := ⟨_, rfl⟩; replace H : (some (y736, t728, t729)) = some (r1, r2, r3) := by rw [hy736]; first | exact H | exact (Option.bind_some _ _).symm.trans H
  have Ny736 := am hy736; clear hy736; simp only [Option.some.injEq, Prod.mk.injEq] at H; obtain ⟨rfl, rfl, rfl⟩ := H; go_enter Try.func128, Try.ntmps128; go_wp2_with (first | ((with_reducible refine gate_dst (N := 2) rfl ?_); refine box_event ?hg (N := 2) ?hd (cs := #[.slice none 0 0]) (t := 28) ?hr ?_; (case hd | hg => rfl); (case hr => go_simp <;> rfl); intro gb726 hg w4 hbox hb; replace HB := bS HB hb; have BK726 := am (hbox); have GW726 := am ((by rw [hg]; exact (keep_size (w := w) (g := g) (row := none) (by exact rK HK)) : w.heap.size ≤ gb726)); have GE726 := am ((Nat.le_trans HW0.out (by rw [hg]; exact (keep_size (w := w) (g := g) (row := none) (by exact rK HK)) : w.heap.size ≤ gb726) : w0.heap.size ≤ gb726)); replace HK := kU HK hb; have NB0_726 := am ((by rw [hg]; exact Nat.ne_of_lt (IsS114.lt (show IsS114 w0 _ g s0_0 s0_1 s0_2 from by exact IsS114.m HI0)) : g ≠ gb726)); have NB726_0 := am ((by rw [hg]; exact Nat.ne_of_gt (IsS114.lt (show IsS114 w0 _ g s0_0 s0_1 s0_2 from by exact IsS114.m HI0)) : gb726 ≠ g)); replace HI0 := am (IsS114.below (by exact IsS114.m HI0) hb); have qW726 := Ge.mk GW726.out; have qE726 := Ge.mk GE726.out; have qN726 := Nq.mk NB0_726.out; clear hb hbox hg) | ((with_reducible refine gate_callee (f := 127) rfl ?_); refine goesL_ (some 9) rfl rfl Try.func127 (by kernel_rfl) rfl #[.pointer (some ⟨g, 0, none⟩), .int .i64 5] rfl (by (try simp only [mT, mC, mN]); first | done | rfl) ?_; (with_reducible refine (spec_l1Below.calls g s0_0 s0_1 s0_2 5 t727 t728 t729 w0 _ ?side1 ?side2 A2.out).mono ?_); (case side1 => exact IsS114.m HI0); (case side2 => exact rB HB); rintro e w5 ⟨rfl, hi, hb, hk⟩; refine ⟨_, rfl, ?_⟩; replace BK726 := am (KeepBut.blk hk (g' := gb726) (o := .cells #[.slice none 0 0] 28 (0, 0)) (by exact rX BK726) NB726_0.out (by simp)); replace HK := kV HK hk; replace HB := am (hb); replace HI0 := am (hi); clear hb hk hi) | ((with_reducible refine gate_dst (N := 12) rfl ?_); refine Kd.R_lit (Kd.int .i64) _ 3 ?hg (N := 12) ?hd (xs := ([0, 1] : List Int)) (inner := [.int .i64 0, .int .i64 1]) (ok := fun _ => True) (okp := fun _ => True) ?hr ?hp (fun _ hk => hk) trivial (Below.refl _ _) (Nat.le_refl _) (by simp) ?_; (case hd | hg => rfl); (case hr => go_simp <;> rfl); (case hp => exact (Reps.one (show Kd.M (Kd.int .i64) _ _ _ 0 [.int .i64 0] from rfl) (Reps.one (show Kd.M (Kd.int .i64) _ _ _ 1 [.int .i64 1] from rfl) (Reps.none _ _)))); intro v731 w6 ho7 hb hg_ hnew_; clear hg_ hnew_; (first | rw [← Ny730.out] at ho7 | (simp only [Int.reduceToNat] at ho7; rw [← Ny730.out] at ho7)); have HO732 := am (Kd.R_lower (Kd.R_newM (M := fun k_ => (w.heap.size ≤ k_)) ho7 (keep_size (w := w) (g := g) (row := none) (by exact rK HK)) (fun k_ h_ => h_)) (keep_size (w := w) (g := g) (row := none) (by exact rK HK))); replace HI0 := am (IsS114.below (by exact IsS114.m HI0) hb); replace BK726 := bK BK726 hb; replace HK := kU HK hb; replace HB := bS HB hb; clear hb ho7) | ((with_reducible refine gate_dst (N := 13) rfl ?_); refine Kd.R_lit (Kd.int .i64) _ 3 ?hg (N := 13) ?hd (xs := ([1, 0] : List Int)) (inner := [.int .i64 1, .int .i64 0]) (ok := fun _ => True) (okp := fun _ => True) ?hr ?hp (fun _ hk => hk) trivial (Below.refl _ _) (Nat.le_refl _) (by simp) ?_; (case hd | hg => rfl); (case hr => go_simp <;> rfl); (case hp => exact (Reps.one (show Kd.M (Kd.int .i64) _ _ _ 1 [.int .i64 1] from rfl) (Reps.one (show Kd.M (Kd.int .i64) _ _ _ 0 [.int .i64 0] from rfl) (Reps.none _ _)))); intro v734 w8 ho9 hb hg_ hnew_; clear hg_ hnew_; (first | rw [← Ny733.out] at ho9 | (simp only [Int.reduceToNat] at ho9; rw [← Ny733.out] at ho9)); have HO735 := am (Kd.R_lower (Kd.R_new' (Kd.R_newM (M := fun k_ => (w.heap.size ≤ k_)) ho9 (keep_size (w := w) (g := g) (row := none) (by exact rK HK)) (fun k_ h_ => h_)) (Kd.R_lt (by exact rR HO732))) (keep_size (w := w) (g := g) (row := none) (by exact rK HK))); replace HO732 := am (Kd.R_elder' (by exact rR HO732) (Kd.R_base ho9) hb); replace HI0 := am (IsS114.below (by exact IsS114.m HI0) hb); replace BK726 := bK BK726 hb; replace HK := kU HK hb; replace HB := bS HB hb; clear hb ho9; obtain ⟨Ao10, co10, eo10⟩ := Kd.R_slice HO732.out; subst eo10; obtain ⟨Ao11, co11, eo11⟩ := Kd.R_slice HO735.out; subst eo11) | ((with_reducible refine gate_dst (N := 14) rfl ?_); refine Kd.N_lit (Kd.slice 3 (Kd.int .i64)) _ 36 ?hg (N' := 14) ?hd (xs := ([y730, y733] : List (List Int))) (inner := [.slice Ao10 y730.length co10, .slice Ao11 y733.length co11]) (ok := (fun k_ => (w.heap.size ≤ k_) ∧ k_ ≠ gb726 ∧ k_ ≠ g)) (okp := (fun k_ => (w.heap.size ≤ k_) ∧ k_ ≠ gb726 ∧ k_ ≠ g)) ?hr ?hp (fun _ hk => hk) ((show ∀ k_, w8.heap.size ≤ k_ → (fun k_ => (w.heap.size ≤ k_) ∧ k_ ≠ gb726 ∧ k_ ≠ g) k_ from fun k_ hk => ⟨(Nat.le_trans (keep_size (w := w) (g := g) (row := none) (by exact rK HK)) hk), Kd.freshB (g := gb726) (o := .cells #[.slice none 0 0] 28 (0, 0)) (by exact rX BK726) k_ hk, IsS114.fresh (by exact IsS114.m HI0) k_ hk⟩) _ (Nat.le_refl _)) (Below.refl _ _) (Nat.le_refl _) (by simp) ?_; (case hd | hg => rfl); (case hr => go_simp <;> rfl); (case hp => exact (Reps.one (show Kd.FK (Kd.slice 3 (Kd.int .i64)) _ _ y730 [.slice Ao10 y730.length co10] from (Kd.FK_slice_mk (Kd.R_reads' (Kd.R_mono (ok' := (fun k_ => (w.heap.size ≤ k_) ∧ k_ ≠ gb726 ∧ k_ ≠ g)) (IsS114.apart HI0.out (Kd.R_types (HO732.out) BK726.out (by decide)) (by decide)) (fun k_ hk => ⟨hk.1.1.1.1, ⟨hk.1.2, hk.2⟩⟩))).2.1 (Kd.R_F (Kd.R_mono (ok' := (fun k_ => (w.heap.size ≤ k_) ∧ k_ ≠ gb726 ∧ k_ ≠ g)) (IsS114.apart HI0.out (Kd.R_types (HO732.out) BK726.out (by decide)) (by decide)) (fun k_ hk => ⟨hk.1.1.1.1, ⟨hk.1.2, hk.2⟩⟩))))) (Reps.one (show Kd.FK (Kd.slice 3 (Kd.int .i64)) _ _ y733 [.slice Ao11 y733.length co11] from (Kd.FK_slice_mk (Kd.R_reads' (Kd.R_mono (ok' := (fun k_ => (w.heap.size ≤ k_) ∧ k_ ≠ gb726 ∧ k_ ≠ g)) (IsS114.apart HI0.out (Kd.R_types (HO735.out) BK726.out (by decide)) (by decide)) (fun k_ hk => ⟨hk.1.1.1.1, ⟨hk.1.2, hk.2⟩⟩))).2.1 (Kd.R_F (Kd.R_mono (ok' := (fun k_ => (w.heap.size ≤ k_) ∧ k_ ≠ gb726 ∧ k_ ≠ g)) (IsS114.apart HI0.out (Kd.R_types (HO735.out) BK726.out (by decide)) (by decide)) (fun k_ hk => ⟨hk.1.1.1.1, ⟨hk.1.2, hk.2⟩⟩))))) (Reps.none _ _)))); intro v737 w12 ho13 hb hg_ hnew_; clear hg_ hnew_; (first | rw [← Ny736.out] at ho13 | (simp only [Int.reduceToNat] at ho13; rw [← Ny736.out] at ho13)); have HO738 := am (Kd.N_lower ho13 (keep_size (w := w) (g := g) (row := none) (by exact rK HK))); replace HI0 := am (IsS114.below (by exact IsS114.m HI0) hb); replace BK726 := bK BK726 hb; replace HK := kU HK hb; replace HB := bS HB hb; clear HO732 HO735; clear hb ho13; obtain ⟨Ao14, co14, eo14⟩ := Kd.N_slice HO738.out; subst eo14; have hnb15 := NB726_0.out; have hnc15 := NB0_726.out; have hcz16_0 := z10 BK726; have hfz16_0 := blk_frozen BK726.out 0)); refine bodyPost_ret (results_cell_row rfl _ _ gb726 28 #[.slice Ao14 y736.length co14] (0, 0) _ rfl (by (with_reducible repeat (first | refine blk_drewN ?_ _ | refine blk_drew ?_ | refine blk_alloc ?_ _)); refine blk_put (cs := #[.slice none 0 0]) ?_ 0 _ rfl; exact rX BK726) Try.underlying28 rfl (by kernel_rfl)) rfl ?_; exact ⟨_, by first | rfl | (simp [errW_none, errW_some] <;> rfl) | (simp [*, errW_none, errW_some] <;> rfl), by exact xN (Kd.N_mono (Kd.N_far (p := ⟨gb726, 0, none⟩) (Kd.N_mono HO738.out (fun k_ hk => (⟨hk, hk.2.1⟩ : _ ∧ k_ ≠ gb726))) (fun _ hk => hk.2) (.slice Ao14 y736.length co14)) (fun _ hk => hk.1.1)), by exact IsS114.m HI0, by exact rB HB, by exact rK HK⟩
 ·rw [if_neg c3] at H; have c3b0 : (t727 == 0) = false := beq_eq_false_iff_ne.mpr c3; have c3b1 : (t727 != 0) = true := bne_iff_ne.mpr c3; by_cases c17 : t727 = 1
  ·rw [if_pos c17] at H; have c17b0 : (t727 == 1) = true := beq_iff_eq.mpr c17; have c17b1 : (t727 != 1) = false := bne_eq_false_iff_eq.mpr c17; clear c17; obtain ⟨y739, hy739⟩ : ∃ y_ : List Int, y_ = (([0, 1] : List Int)) := ⟨_, rfl⟩; replace H : (some ((([y739, (([0] : List Int))] : List (List Int))), t728, t729)) = some (r1, r2, r3) := by rw [hy739]; first | exact H | exact (Option.bind_some _ _).symm.trans H
   have Ny739 := am hy739; clear hy739; obtain ⟨y742, hy742⟩ : ∃ y_ : List Int, y_ = (([0] : List Int)) := ⟨_, rfl⟩; replace H : (some ((([y739, y742] : List (List Int))), t728, t729)) = some (r1, r2, r3) := by rw [hy742]; first | exact H | exact (Option.bind_some _ _).symm.trans H
   have Ny742 := am hy742; clear hy742; obtain ⟨y745, hy745⟩ : ∃ y_ : List (List Int), y_ = (([y739, y742] : List (List Int))) := ⟨_, rfl⟩; replace H : (some (y745, t728, t729)) = some (r1, r2, r3) := by rw [hy745]; first | exact H | exact (Option.bind_some _ _).symm.trans H
   have Ny745 := am hy745; clear hy745; simp only [Option.some.injEq, Prod.mk.injEq] at H; obtain ⟨rfl, rfl, rfl⟩ := H; go_enter Try.func128, Try.ntmps128; go_wp2_with (first | ((with_reducible refine gate_dst (N := 2) rfl ?_); refine box_event ?hg (N := 2) ?hd (cs := #[.slice none 0 0]) (t := 28) ?hr ?_; (case hd | hg => rfl); (case hr => go_simp <;> rfl); intro gb726 hg w18 hbox hb; replace HB := bS HB hb; have BK726 := am (hbox); have GW726 := am ((by rw [hg]; exact (keep_size (w := w) (g := g) (row := none) (by exact rK HK)) : w.heap.size ≤ gb726)); have GE726 := am ((Nat.le_trans HW0.out (by rw [hg]; exact (keep_size (w := w) (g := g) (row := none) (by exact rK HK)) : w.heap.size ≤ gb726) : w0.heap.size ≤ gb726)); replace HK := kU HK hb; have NB0_726 := am ((by rw [hg]; exact Nat.ne_of_lt (IsS114.lt (show IsS114 w0 _ g s0_0 s0_1 s0_2 from by exact IsS114.m HI0)) : g ≠ gb726)); have NB726_0 := am ((by rw [hg]; exact Nat.ne_of_gt (IsS114.lt (show IsS114 w0 _ g s0_0 s0_1 s0_2 from by exact IsS114.m HI0)) : gb726 ≠ g)); replace HI0 := am (IsS114.below (by exact IsS114.m HI0) hb); have qW726 := Ge.mk GW726.out; have qE726 := Ge.mk GE726.out; have qN726 := Nq.mk NB0_726.out; clear hb hbox hg) | ((with_reducible refine gate_callee (f := 127) rfl ?_); refine goesL_ (some 9) rfl rfl Try.func127 (by kernel_rfl) rfl #[.pointer (some ⟨g, 0, none⟩), .int .i64 5] rfl (by (try simp only [mT, mC, mN]); first | done | rfl) ?_; (with_reducible refine (spec_l1Below.calls g s0_0 s0_1 s0_2 5 t727 t728 t729 w0 _ ?side1 ?side2 A2.out).mono ?_); (case side1 => exact IsS114.m HI0); (case side2 => exact rB HB); rintro e w19 ⟨rfl, hi, hb, hk⟩; refine ⟨_, rfl, ?_⟩; replace BK726 := am (KeepBut.blk hk (g' := gb726) (o := .cells #[.slice none 0 0] 28 (0, 0)) (by exact rX BK726) NB726_0.out (by simp)); replace HK := kV HK hk; replace HB := am (hb); replace HI0 := am (hi); clear hb hk hi) | ((with_reducible refine gate_dst (N := 18) rfl ?_); refine Kd.R_lit (Kd.int .i64) _ 3 ?hg (N := 18) ?hd (xs := ([0, 1] : List Int)) (inner := [.int .i64 0, .int .i64 1]) (ok := fun _ => True) (okp := fun _ => True) ?hr ?hp (fun _ hk => hk) trivial (Below.refl _ _) (Nat.le_refl _) (by simp) ?_; (case hd | hg => rfl); (case hr => go_simp <;> rfl); (case hp => exact (Reps.one (show Kd.M (Kd.int .i64) _ _ _ 0 [.int .i64 0] from rfl) (Reps.one (show Kd.M (Kd.int .i64) _ _ _ 1 [.int .i64 1] from rfl) (Reps.none _ _)))); intro v740 w20 ho21 hb hg_ hnew_; clear hg_ hnew_; (first | rw [← Ny739.out] at ho21 | (simp only [Int.reduceToNat] at ho21; rw [← Ny739.out] at ho21)); have HO741 := am (Kd.R_lower (Kd.R_newM (M := fun k_ => (w.heap.size ≤ k_)) ho21 (keep_size (w := w) (g := g) (row := none) (by exact rK HK)) (fun k_ h_ => h_)) (keep_size (w := w) (g := g) (row := none) (by exact rK HK))); replace HI0 := am (IsS114.below (by exact IsS114.m HI0) hb); replace BK726 := bK BK726 hb; replace HK := kU HK hb; replace HB := bS HB hb; clear hb ho21) | ((with_reducible refine gate_dst (N := 19) rfl ?_); refine Kd.R_lit (Kd.int .i64) _ 3 ?hg (N := 19) ?hd (xs := ([0] : List Int)) (inner := [.int .i64 0]) (ok := fun _ => True) (okp := fun _ => True) ?hr ?hp (fun _ hk => hk) trivial (Below.refl _ _) (Nat.le_refl _) (by simp) ?_; (case hd | hg => rfl); (case hr => go_simp <;> rfl); (case hp => exact (Reps.one (show Kd.M (Kd.int .i64) _ _ _ 0 [.int .i64 0] from rfl) (Reps.none _ _))); intro v743 w22 ho23 hb hg_ hnew_; clear hg_ hnew_; (first | rw [← Ny742.out] at ho23 | (simp only [Int.reduceToNat] at ho23; rw [← Ny742.out] at ho23)); have HO744 := am (Kd.R_lower (Kd.R_new' (Kd.R_newM (M := fun k_ => (w.heap.size ≤ k_)) ho23 (keep_size (w := w) (g := g) (row := none) (by exact rK HK)) (fun k_ h_ => h_)) (Kd.R_lt (by exact rR HO741))) (keep_size (w := w) (g := g) (row := none) (by exact rK HK))); replace HO741 := am (Kd.R_elder' (by exact rR HO741) (Kd.R_base ho23) hb); replace HI0 := am (IsS114.below (by exact IsS114.m HI0) hb); replace BK726 := bK BK726 hb; replace HK := kU HK hb; replace HB := bS HB hb; clear hb ho23; obtain ⟨Ao24, co24, eo24⟩ := Kd.R_slice HO741.out; subst eo24; obtain ⟨Ao25, co25, eo25⟩ := Kd.R_slice HO744.out; subst eo25) | ((with_reducible refine gate_dst (N := 20) rfl ?_); refine Kd.N_lit (Kd.slice 3 (Kd.int .i64)) _ 36 ?hg (N' := 20) ?hd (xs := ([y739, y742] : List (List Int))) (inner := [.slice Ao24 y739.length co24, .slice Ao25 y742.length co25]) (ok := (fun k_ => (w.heap.size ≤ k_) ∧ k_ ≠ gb726 ∧ k_ ≠ g)) (okp := (fun k_ => (w.heap.size ≤ k_) ∧ k_ ≠ gb726 ∧ k_ ≠ g)) ?hr ?hp (fun _ hk => hk) ((show ∀ k_, w22.heap.size ≤ k_ → (fun k_ => (w.heap.size ≤ k_) ∧ k_ ≠ gb726 ∧ k_ ≠ g) k_ from fun k_ hk => ⟨(Nat.le_trans (keep_size (w := w) (g := g) (row := none) (by exact rK HK)) hk), Kd.freshB (g := gb726) (o := .cells #[.slice none 0 0] 28 (0, 0)) (by exact rX BK726) k_ hk, IsS114.fresh (by exact IsS114.m HI0) k_ hk⟩) _ (Nat.le_refl _)) (Below.refl _ _) (Nat.le_refl _) (by simp) ?_; (case hd | hg => rfl); (case hr => go_simp <;> rfl); (case hp => exact (Reps.one (show Kd.FK (Kd.slice 3 (Kd.int .i64)) _ _ y739 [.slice Ao24 y739.length co24] from (Kd.FK_slice_mk (Kd.R_reads' (Kd.R_mono (ok' := (fun k_ => (w.heap.size ≤ k_) ∧ k_ ≠ gb726 ∧ k_ ≠ g)) (IsS114.apart HI0.out (Kd.R_types (HO741.out) BK726.out (by decide)) (by decide)) (fun k_ hk => ⟨hk.1.1.1.1, ⟨hk.1.2, hk.2⟩⟩))).2.1 (Kd.R_F (Kd.R_mono (ok' := (fun k_ => (w.heap.size ≤ k_) ∧ k_ ≠ gb726 ∧ k_ ≠ g)) (IsS114.apart HI0.out (Kd.R_types (HO741.out) BK726.out (by decide)) (by decide)) (fun k_ hk => ⟨hk.1.1.1.1, ⟨hk.1.2, hk.2⟩⟩))))) (Reps.one (show Kd.FK (Kd.slice 3 (Kd.int .i64)) _ _ y742 [.slice Ao25 y742.length co25] from (Kd.FK_slice_mk (Kd.R_reads' (Kd.R_mono (ok' := (fun k_ => (w.heap.size ≤ k_) ∧ k_ ≠ gb726 ∧ k_ ≠ g)) (IsS114.apart HI0.out (Kd.R_types (HO744.out) BK726.out (by decide)) (by decide)) (fun k_ hk => ⟨hk.1.1.1.1, ⟨hk.1.2, hk.2⟩⟩))).2.1 (Kd.R_F (Kd.R_mono (ok' := (fun k_ => (w.heap.size ≤ k_) ∧ k_ ≠ gb726 ∧ k_ ≠ g)) (IsS114.apart HI0.out (Kd.R_types (HO744.out) BK726.out (by decide)) (by decide)) (fun k_ hk => ⟨hk.1.1.1.1, ⟨hk.1.2, hk.2⟩⟩))))) (Reps.none _ _)))); intro v746 w26 ho27 hb hg_ hnew_; clear hg_ hnew_; (first | rw [← Ny745.out] at ho27 | (simp only [Int.reduceToNat] at ho27; rw [← Ny745.out] at ho27)); have HO747 := am (Kd.N_lower ho27 (keep_size (w := w) (g := g) (row := none) (by exact rK HK))); replace HI0 := am (IsS114.below (by exact IsS114.m HI0) hb); replace BK726 := bK BK726 hb; replace HK := kU HK hb; replace HB := bS HB hb; clear HO741 HO744; clear hb ho27; obtain ⟨Ao28, co28, eo28⟩ := Kd.N_slice HO747.out; subst eo28; have hnb29 := NB726_0.out; have hnc29 := NB0_726.out; have hcz30_0 := z10 BK726; have hfz30_0 := blk_frozen BK726.out 0)); refine bodyPost_ret (results_cell_row rfl _ _ gb726 28 #[.slice Ao28 y745.length co28] (0, 0) _ rfl (by (with_reducible repeat (first | refine blk_drewN ?_ _ | refine blk_drew ?_ | refine blk_alloc ?_ _)); refine blk_put (cs := #[.slice none 0 0]) ?_ 0 _ rfl; exact rX BK726) Try.underlying28 rfl (by kernel_rfl)) rfl ?_; exact ⟨_, by first | rfl | (simp [errW_none, errW_some] <;> rfl) | (simp [*, errW_none, errW_some] <;> rfl), by exact xN (Kd.N_mono (Kd.N_far (p := ⟨gb726, 0, none⟩) (Kd.N_mono HO747.out (fun k_ hk => (⟨hk, hk.2.1⟩ : _ ∧ k_ ≠ gb726))) (fun _ hk => hk.2) (.slice Ao28 y745.length co28)) (fun _ hk => hk.1.1)), by exact IsS114.m HI0, by exact rB HB, by exact rK HK⟩
  ·rw [if_neg c17] at H; have c17b0 : (t727 == 1) = false := beq_eq_false_iff_ne.mpr c17; have c17b1 : (t727 != 1) = true := bne_iff_ne.mpr c17; by_cases c31 : t727 = 2
   ·rw [if_pos c31] at H; have c31b0 : (t727 == 2) = true := beq_iff_eq.mpr c31; have c31b1 : (t727 != 2) = false := bne_eq_false_iff_eq.mpr c31; clear c31; obtain ⟨y748, hy748⟩ : ∃ y_ : List Int, y_ = (([0, 1, 2] : List Int)) := ⟨_, rfl⟩; replace H : (some ((([y748, (([0, 2] : List Int)), (([1] : List Int))] : List (List Int))), t728, t729)) = some (r1, r2, r3) := by rw [hy748]; first | exact H | exact (Option.bind_some _ _).symm.trans H
    have Ny748 := am hy748; clear hy748; obtain ⟨y751, hy751⟩ : ∃ y_ : List Int, y_ = (([0, 2] : List Int)) := ⟨_, rfl⟩; replace H : (some ((([y748, y751, (([1] : List Int))] : List (List Int))), t728, t729)) = some (r1, r2, r3) := by rw [hy751]; first | exact H | exact (Option.bind_some _ _).symm.trans H
    have Ny751 := am hy751; clear hy751; obtain ⟨y754, hy754⟩ : ∃ y_ : List Int, y_ = (([1] : List Int)) := ⟨_, rfl⟩; replace H : (some ((([y748, y751, y754] : List (List Int))), t728, t729)) = some (r1, r2, r3) := by rw [hy754]; first | exact H | exact (Option.bind_some _ _).symm.trans H
    have Ny754 := am hy754; clear hy754; obtain ⟨y757, hy757⟩ : ∃ y_ : List (List Int), y_ = (([y748, y751, y754] : List (List Int))) := ⟨_, rfl⟩; replace H : (some (y757, t728, t729)) = some (r1, r2, r3) := by rw [hy757]; first | exact H | exact (Option.bind_some _ _).symm.trans H
    have Ny757 := am hy757; clear hy757; simp only [Option.some.injEq, Prod.mk.injEq] at H; obtain ⟨rfl, rfl, rfl⟩ := H; go_enter Try.func128, Try.ntmps128; go_wp2_with (first | ((with_reducible refine gate_dst (N := 2) rfl ?_); refine box_event ?hg (N := 2) ?hd (cs := #[.slice none 0 0]) (t := 28) ?hr ?_; (case hd | hg => rfl); (case hr => go_simp <;> rfl); intro gb726 hg w32 hbox hb; replace HB := bS HB hb; have BK726 := am (hbox); have GW726 := am ((by rw [hg]; exact (keep_size (w := w) (g := g) (row := none) (by exact rK HK)) : w.heap.size ≤ gb726)); have GE726 := am ((Nat.le_trans HW0.out (by rw [hg]; exact (keep_size (w := w) (g := g) (row := none) (by exact rK HK)) : w.heap.size ≤ gb726) : w0.heap.size ≤ gb726)); replace HK := kU HK hb; have NB0_726 := am ((by rw [hg]; exact Nat.ne_of_lt (IsS114.lt (show IsS114 w0 _ g s0_0 s0_1 s0_2 from by exact IsS114.m HI0)) : g ≠ gb726)); have NB726_0 := am ((by rw [hg]; exact Nat.ne_of_gt (IsS114.lt (show IsS114 w0 _ g s0_0 s0_1 s0_2 from by exact IsS114.m HI0)) : gb726 ≠ g)); replace HI0 := am (IsS114.below (by exact IsS114.m HI0) hb); have qW726 := Ge.mk GW726.out; have qE726 := Ge.mk GE726.out; have qN726 := Nq.mk NB0_726.out; clear hb hbox hg) | ((with_reducible refine gate_callee (f := 127) rfl ?_); refine goesL_ (some 9) rfl rfl Try.func127 (by kernel_rfl) rfl #[.pointer (some ⟨g, 0, none⟩), .int .i64 5] rfl (by (try simp only [mT, mC, mN]); first | done | rfl) ?_; (with_reducible refine (spec_l1Below.calls g s0_0 s0_1 s0_2 5 t727 t728 t729 w0 _ ?side1 ?side2 A2.out).mono ?_); (case side1 => exact IsS114.m HI0); (case side2 => exact rB HB); rintro e w33 ⟨rfl, hi, hb, hk⟩; refine ⟨_, rfl, ?_⟩; replace BK726 := am (KeepBut.blk hk (g' := gb726) (o := .cells #[.slice none 0 0] 28 (0, 0)) (by exact rX BK726) NB726_0.out (by simp)); replace HK := kV HK hk; replace HB := am (hb); replace HI0 := am (hi); clear hb hk hi) | ((with_reducible refine gate_dst (N := 24) rfl ?_); refine Kd.R_lit (Kd.int .i64) _ 3 ?hg (N := 24) ?hd (xs := ([0, 1, 2] : List Int)) (inner := [.int .i64 0, .int .i64 1, .int .i64 2]) (ok := fun _ => True) (okp := fun _ => True) ?hr ?hp (fun _ hk => hk) trivial (Below.refl _ _) (Nat.le_refl _) (by simp) ?_; (case hd | hg => rfl); (case hr => go_simp <;> rfl); (case hp => exact (Reps.one (show Kd.M (Kd.int .i64) _ _ _ 0 [.int .i64 0] from rfl) (Reps.one (show Kd.M (Kd.int .i64) _ _ _ 1 [.int .i64 1] from rfl) (Reps.one (show Kd.M (Kd.int .i64) _ _ _ 2 [.int .i64 2] from rfl) (Reps.none _ _))))); intro v749 w34 ho35 hb hg_ hnew_; clear hg_ hnew_; (first | rw [← Ny748.out] at ho35 | (simp only [Int.reduceToNat] at ho35; rw [← Ny748.out] at ho35)); have HO750 := am (Kd.R_lower (Kd.R_newM (M := fun k_ => (w.heap.size ≤ k_)) ho35 (keep_size (w := w) (g := g) (row := none) (by exact rK HK)) (fun k_ h_ => h_)) (keep_size (w := w) (g := g) (row := none) (by exact rK HK))); replace HI0 := am (IsS114.below (by exact IsS114.m HI0) hb); replace BK726 := bK BK726 hb; replace HK := kU HK hb; replace HB := bS HB hb; clear hb ho35) | ((with_reducible refine gate_dst (N := 25) rfl ?_); refine Kd.R_lit (Kd.int .i64) _ 3 ?hg (N := 25) ?hd (xs := ([0, 2] : List Int)) (inner := [.int .i64 0, .int .i64 2]) (ok := fun _ => True) (okp := fun _ => True) ?hr ?hp (fun _ hk => hk) trivial (Below.refl _ _) (Nat.le_refl _) (by simp) ?_; (case hd | hg => rfl); (case hr => go_simp <;> rfl); (case hp => exact (Reps.one (show Kd.M (Kd.int .i64) _ _ _ 0 [.int .i64 0] from rfl) (Reps.one (show Kd.M (Kd.int .i64) _ _ _ 2 [.int .i64 2] from rfl) (Reps.none _ _)))); intro v752 w36 ho37 hb hg_ hnew_; clear hg_ hnew_; (first | rw [← Ny751.out] at ho37 | (simp only [Int.reduceToNat] at ho37; rw [← Ny751.out] at ho37)); have HO753 := am (Kd.R_lower (Kd.R_new' (Kd.R_newM (M := fun k_ => (w.heap.size ≤ k_)) ho37 (keep_size (w := w) (g := g) (row := none) (by exact rK HK)) (fun k_ h_ => h_)) (Kd.R_lt (by exact rR HO750))) (keep_size (w := w) (g := g) (row := none) (by exact rK HK))); replace HO750 := am (Kd.R_elder' (by exact rR HO750) (Kd.R_base ho37) hb); replace HI0 := am (IsS114.below (by exact IsS114.m HI0) hb); replace BK726 := bK BK726 hb; replace HK := kU HK hb; replace HB := bS HB hb; clear hb ho37) | ((with_reducible refine gate_dst (N := 26) rfl ?_); refine Kd.R_lit (Kd.int .i64) _ 3 ?hg (N := 26) ?hd (xs := ([1] : List Int)) (inner := [.int .i64 1]) (ok := fun _ => True) (okp := fun _ => True) ?hr ?hp (fun _ hk => hk) trivial (Below.refl _ _) (Nat.le_refl _) (by simp) ?_; (case hd | hg => rfl); (case hr => go_simp <;> rfl); (case hp => exact (Reps.one (show Kd.M (Kd.int .i64) _ _ _ 1 [.int .i64 1] from rfl) (Reps.none _ _))); intro v755 w38 ho39 hb hg_ hnew_; clear hg_ hnew_; (first | rw [← Ny754.out] at ho39 | (simp only [Int.reduceToNat] at ho39; rw [← Ny754.out] at ho39)); have HO756 := am (Kd.R_lower (Kd.R_new' (Kd.R_new' (Kd.R_newM (M := fun k_ => (w.heap.size ≤ k_)) ho39 (keep_size (w := w) (g := g) (row := none) (by exact rK HK)) (fun k_ h_ => h_)) (Kd.R_lt (by exact rR HO750))) (Kd.R_lt (by exact rR HO753))) (keep_size (w := w) (g := g) (row := none) (by exact rK HK))); replace HO750 := am (Kd.R_elder' (by exact rR HO750) (Kd.R_base ho39) hb); replace HO753 := am (Kd.R_elder' (by exact rR HO753) (Kd.R_base ho39) hb); replace HI0 := am (IsS114.below (by exact IsS114.m HI0) hb); replace BK726 := bK BK726 hb; replace HK := kU HK hb; replace HB := bS HB hb; clear hb ho39; obtain ⟨Ao40, co40, eo40⟩ := Kd.R_slice HO750.out; subst eo40; obtain ⟨Ao41, co41, eo41⟩ := Kd.R_slice HO753.out; subst eo41; obtain ⟨Ao42, co42, eo42⟩ := Kd.R_slice HO756.out; subst eo42) | ((with_reducible refine gate_dst (N := 27) rfl ?_); refine Kd.N_lit (Kd.slice 3 (Kd.int .i64)) _ 36 ?hg (N' := 27) ?hd (xs := ([y748, y751, y754] : List (List Int))) (inner := [.slice Ao40 y748.length co40, .slice Ao41 y751.length co41, .slice Ao42 y754.length co42]) (ok := (fun k_ => (w.heap.size ≤ k_) ∧ k_ ≠ gb726 ∧ k_ ≠ g)) (okp := (fun k_ => (w.heap.size ≤ k_) ∧ k_ ≠ gb726 ∧ k_ ≠ g)) ?hr ?hp (fun _ hk => hk) ((show ∀ k_, w38.heap.size ≤ k_ → (fun k_ => (w.heap.size ≤ k_) ∧ k_ ≠ gb726 ∧ k_ ≠ g) k_ from fun k_ hk => ⟨(Nat.le_trans (keep_size (w := w) (g := g) (row := none) (by exact rK HK)) hk), Kd.freshB (g := gb726) (o := .cells #[.slice none 0 0] 28 (0, 0)) (by exact rX BK726) k_ hk, IsS114.fresh (by exact IsS114.m HI0) k_ hk⟩) _ (Nat.le_refl _)) (Below.refl _ _) (Nat.le_refl _) (by simp) ?_; (case hd | hg => rfl); (case hr => go_simp <;> rfl); (case hp => exact (Reps.one (show Kd.FK (Kd.slice 3 (Kd.int .i64)) _ _ y748 [.slice Ao40 y748.length co40] from (Kd.FK_slice_mk (Kd.R_reads' (Kd.R_mono (ok' := (fun k_ => (w.heap.size ≤ k_) ∧ k_ ≠ gb726 ∧ k_ ≠ g)) (IsS114.apart HI0.out (Kd.R_types (HO750.out) BK726.out (by decide)) (by decide)) (fun k_ hk => ⟨hk.1.1.1.1.1, ⟨hk.1.2, hk.2⟩⟩))).2.1 (Kd.R_F (Kd.R_mono (ok' := (fun k_ => (w.heap.size ≤ k_) ∧ k_ ≠ gb726 ∧ k_ ≠ g)) (IsS114.apart HI0.out (Kd.R_types (HO750.out) BK726.out (by decide)) (by decide)) (fun k_ hk => ⟨hk.1.1.1.1.1, ⟨hk.1.2, hk.2⟩⟩))))) (Reps.one (show Kd.FK (Kd.slice 3 (Kd.int .i64)) _ _ y751 [.slice Ao41 y751.length co41] from (Kd.FK_slice_mk (Kd.R_reads' (Kd.R_mono (ok' := (fun k_ => (w.heap.size ≤ k_) ∧ k_ ≠ gb726 ∧ k_ ≠ g)) (IsS114.apart HI0.out (Kd.R_types (HO753.out) BK726.out (by decide)) (by decide)) (fun k_ hk => ⟨hk.1.1.1.1.1, ⟨hk.1.2, hk.2⟩⟩))).2.1 (Kd.R_F (Kd.R_mono (ok' := (fun k_ => (w.heap.size ≤ k_) ∧ k_ ≠ gb726 ∧ k_ ≠ g)) (IsS114.apart HI0.out (Kd.R_types (HO753.out) BK726.out (by decide)) (by decide)) (fun k_ hk => ⟨hk.1.1.1.1.1, ⟨hk.1.2, hk.2⟩⟩))))) (Reps.one (show Kd.FK (Kd.slice 3 (Kd.int .i64)) _ _ y754 [.slice Ao42 y754.length co42] from (Kd.FK_slice_mk (Kd.R_reads' (Kd.R_mono (ok' := (fun k_ => (w.heap.size ≤ k_) ∧ k_ ≠ gb726 ∧ k_ ≠ g)) (IsS114.apart HI0.out (Kd.R_types (HO756.out) BK726.out (by decide)) (by decide)) (fun k_ hk => ⟨hk.1.1.1.1.1, ⟨hk.1.2, hk.2⟩⟩))).2.1 (Kd.R_F (Kd.R_mono (ok' := (fun k_ => (w.heap.size ≤ k_) ∧ k_ ≠ gb726 ∧ k_ ≠ g)) (IsS114.apart HI0.out (Kd.R_types (HO756.out) BK726.out (by decide)) (by decide)) (fun k_ hk => ⟨hk.1.1.1.1.1, ⟨hk.1.2, hk.2⟩⟩))))) (Reps.none _ _))))); intro v758 w43 ho44 hb hg_ hnew_; clear hg_ hnew_; (first | rw [← Ny757.out] at ho44 | (simp only [Int.reduceToNat] at ho44; rw [← Ny757.out] at ho44)); have HO759 := am (Kd.N_lower ho44 (keep_size (w := w) (g := g) (row := none) (by exact rK HK))); replace HI0 := am (IsS114.below (by exact IsS114.m HI0) hb); replace BK726 := bK BK726 hb; replace HK := kU HK hb; replace HB := bS HB hb; clear HO750 HO753 HO756; clear hb ho44; obtain ⟨Ao45, co45, eo45⟩ := Kd.N_slice HO759.out; subst eo45; have hnb46 := NB726_0.out; have hnc46 := NB0_726.out; have hcz47_0 := z10 BK726; have hfz47_0 := blk_frozen BK726.out 0)); refine bodyPost_ret (results_cell_row rfl _ _ gb726 28 #[.slice Ao45 y757.length co45] (0, 0) _ rfl (by (with_reducible repeat (first | refine blk_drewN ?_ _ | refine blk_drew ?_ | refine blk_alloc ?_ _)); refine blk_put (cs := #[.slice none 0 0]) ?_ 0 _ rfl; exact rX BK726) Try.underlying28 rfl (by kernel_rfl)) rfl ?_; exact ⟨_, by first | rfl | (simp [errW_none, errW_some] <;> rfl) | (simp [*, errW_none, errW_some] <;> rfl), by exact xN (Kd.N_mono (Kd.N_far (p := ⟨gb726, 0, none⟩) (Kd.N_mono HO759.out (fun k_ hk => (⟨hk, hk.2.1⟩ : _ ∧ k_ ≠ gb726))) (fun _ hk => hk.2) (.slice Ao45 y757.length co45)) (fun _ hk => hk.1.1)), by exact IsS114.m HI0, by exact rB HB, by exact rK HK⟩
   ·rw [if_neg c31] at H; have c31b0 : (t727 == 2) = false := beq_eq_false_iff_ne.mpr c31; have c31b1 : (t727 != 2) = true := bne_iff_ne.mpr c31; replace H := bE H; obtain ⟨⟨t760, t761, t762⟩, A480, H⟩ := H; replace H : (spec_l7Morphism.l0 k (wrap64 (1 + t760)) 0 s0_0 t761 t762 ([] : List (List Int))) = some (r1, r2, r3) := H; have A48 := am A480; clear A480; have H' := am H; clear H; go_enter Try.func128, Try.ntmps128; go_wp2_with (first | ((with_reducible refine gate_dst (N := 2) rfl ?_); refine box_event ?hg (N := 2) ?hd (cs := #[.slice none 0 0]) (t := 28) ?hr ?_; (case hd | hg => rfl); (case hr => go_simp <;> rfl); intro gb726 hg w49 hbox hb; replace HB := bS HB hb; have BK726 := am (hbox); have GW726 := am ((by rw [hg]; exact (keep_size (w := w) (g := g) (row := none) (by exact rK HK)) : w.heap.size ≤ gb726)); have GE726 := am ((Nat.le_trans HW0.out (by rw [hg]; exact (keep_size (w := w) (g := g) (row := none) (by exact rK HK)) : w.heap.size ≤ gb726) : w0.heap.size ≤ gb726)); replace HK := kU HK hb; have NB0_726 := am ((by rw [hg]; exact Nat.ne_of_lt (IsS114.lt (show IsS114 w0 _ g s0_0 s0_1 s0_2 from by exact IsS114.m HI0)) : g ≠ gb726)); have NB726_0 := am ((by rw [hg]; exact Nat.ne_of_gt (IsS114.lt (show IsS114 w0 _ g s0_0 s0_1 s0_2 from by exact IsS114.m HI0)) : gb726 ≠ g)); replace HI0 := am (IsS114.below (by exact IsS114.m HI0) hb); have qW726 := Ge.mk GW726.out; have qE726 := Ge.mk GE726.out; have qN726 := Nq.mk NB0_726.out; clear hb hbox hg) | ((with_reducible refine gate_callee (f := 127) rfl ?_); refine goesL_ (some 9) rfl rfl Try.func127 (by kernel_rfl) rfl #[.pointer (some ⟨g, 0, none⟩), .int .i64 5] rfl (by (try simp only [mT, mC, mN]); first | done | rfl) ?_; (with_reducible refine (spec_l1Below.calls g s0_0 s0_1 s0_2 5 t727 t728 t729 w0 _ ?side1 ?side2 A2.out).mono ?_); (case side1 => exact IsS114.m HI0); (case side2 => exact rB HB); rintro e w50 ⟨rfl, hi, hb, hk⟩; refine ⟨_, rfl, ?_⟩; replace BK726 := am (KeepBut.blk hk (g' := gb726) (o := .cells #[.slice none 0 0] 28 (0, 0)) (by exact rX BK726) NB726_0.out (by simp)); replace HK := kV HK hk; replace HB := am (hb); replace HI0 := am (hi); clear hb hk hi) | ((with_reducible refine gate_callee (f := 127) rfl ?_); refine goesL_ (some 30) rfl rfl Try.func127 (by kernel_rfl) rfl #[.pointer (some ⟨g, 0, none⟩), .int .i64 3] rfl (by (try simp only [mT, mC, mN]); first | done | rfl) ?_; (with_reducible refine (spec_l1Below.calls g s0_0 t728 t729 3 t760 t761 t762 w0 _ ?side1 ?side2 A48.out).mono ?_); (case side1 => exact IsS114.m HI0); (case side2 => exact rB HB); rintro e w51 ⟨rfl, hi, hb, hk⟩; refine ⟨_, rfl, ?_⟩; replace BK726 := am (KeepBut.blk hk (g' := gb726) (o := .cells #[.slice none 0 0] 28 (0, 0)) (by exact rX BK726) NB726_0.out (by simp)); replace HK := kV HK hk; replace HB := am (hb); replace HI0 := am (hi); clear hb hk hi) | ((with_reducible refine gate_dst (N := 4) rfl ?_); refine box_event ?hg (N := 4) ?hd (cs := #[.slice none 0 0]) (t := 28) ?hr ?_; (case hd | hg => rfl); (case hr => go_simp <;> rfl); intro gb763 hg w52 hbox hb; replace HB := bS HB hb; have BK763 := am (hbox); have GW763 := am ((by rw [hg]; exact (keep_size (w := w) (g := g) (row := none) (by exact rK HK)) : w.heap.size ≤ gb763)); have GE763 := am ((Nat.le_trans HW0.out (by rw [hg]; exact (keep_size (w := w) (g := g) (row := none) (by exact rK HK)) : w.heap.size ≤ gb763) : w0.heap.size ≤ gb763)); replace HK := kU HK hb; have NB726_763 := am ((by rw [hg]; exact Nat.ne_of_lt (blk_lt (g := gb726) (o := .cells #[.slice none 0 0] 28 (0, 0)) (by exact rX BK726)) : gb726 ≠ gb763)); have NB763_726 := am ((by rw [hg]; exact Nat.ne_of_gt (blk_lt (g := gb726) (o := .cells #[.slice none 0 0] 28 (0, 0)) (by exact rX BK726)) : gb763 ≠ gb726)); replace BK726 := bK BK726 hb; have NB0_763 := am ((by rw [hg]; exact Nat.ne_of_lt (IsS114.lt (show IsS114 w0 _ g s0_0 t761 t762 from by exact IsS114.m HI0)) : g ≠ gb763)); have NB763_0 := am ((by rw [hg]; exact Nat.ne_of_gt (IsS114.lt (show IsS114 w0 _ g s0_0 t761 t762 from by exact IsS114.m HI0)) : gb763 ≠ g)); replace HI0 := am (IsS114.below (by exact IsS114.m HI0) hb); have qW763 := Ge.mk GW763.out; have qE763 := Ge.mk GE763.out; have qN763 := Nq.mk NB0_763.out; clear hb hbox hg; have hnb53 := NB763_726.out; have hnc53 := NB726_763.out; have hnb54 := NB763_0.out; have hnc54 := NB0_763.out; have hcz55_0 := z10 BK763; have hfz55_0 := blk_frozen BK763.out 0)); go_loopg [5] k (fun kq v5 w' => ∃ (x5_1 : Int) (x1001_1 : Int) (x1002_1 : Int) (x764000_1 : List (List Int)) (u764000 : Value), v5 = .int .i64 x5_1 ∧ Aside0 (spec_l7Morphism.l0 kq (wrap64 (1 + t760)) x5_1 s0_0 x1001_1 x1002_1 x764000_1 = some (r1, r2, r3)) ∧ Aside0 (kq ≤ k) ∧ Aside0 (Kd.S (Kd.slice 3 (Kd.int .i64)) 36 w' w.heap.size (fun k_ => (w.heap.size ≤ k_) ∧ k_ ≠ gb726 ∧ k_ ≠ gb763 ∧ k_ ≠ g) u764000 x764000_1) ∧ Aside0 (w'.heap[gb726]? = some (.cells #[(.slice none 0 0)] 28 (0, 0))) ∧ Aside0 (w'.heap[gb763]? = some (.cells #[u764000] 28 (0, 0))) ∧ Aside0 (IsS114 w0 w' g s0_0 x1001_1 x1002_1) ∧ Aside0 (KeepBut w w' g none) ∧ Aside0 (Below w0.heap.size w0 w'))
    case atStart => exact ⟨(0), (t761), (t762), (([] : List (List Int))), (.slice none 0 0), (by first | rfl | (simp; done) | (simp [*]; done)), H', ⟨Nat.le_refl _⟩, ⟨by first | exact Kd.S_nil _ _ _ _ _ | exact Kd.S_nil _ _ _ _ _ | exact Kd.V_nil _ _ _ _ _ | exact Kd.Q_nil _ _ _ _ _ | exact Kd.R_nil _ _ _ _ _⟩, ⟨by (with_reducible repeat (first | refine blk_drewN ?_ _ | refine blk_drew ?_ | refine blk_alloc ?_ _)); refine blk_far ?_ NB726_763.out _; exact rX BK726⟩, ⟨by (with_reducible repeat (first | refine blk_drewN ?_ _ | refine blk_drew ?_ | refine blk_alloc ?_ _)); refine blk_put (cs := #[.slice none 0 0]) ?_ 0 _ rfl; exact rX BK763⟩, ⟨by exact IsS114.m HI0⟩, ⟨by exact rK HK⟩, ⟨by exact rB HB⟩⟩
    case round =>
     clear H'
     try clear c1
     try clear c2
     try clear p2
     try clear c3
     try clear c3b0
     try clear c3b1
     try clear c4
     try clear c5
     try clear p6
     try clear c12
     try clear c15
     try clear c17
     try clear c17b0
     try clear c17b1
     try clear c29
     try clear c31
     try clear c31b0
     try clear c31b1
     try clear c46
     try clear c53
     try clear c54
     try clear hcz16_0
     try clear hcz30_0
     try clear hcz47_0
     try clear hcz55_0
     try clear hfz16_0
     try clear hfz30_0
     try clear hfz47_0
     try clear hfz55_0
     obtain ⟨x5_1, x1001_1, x1002_1, x764000_1, u764000, rfl, HA, HK1, HO_764000, BK726, BK763, HI0, HK, HB⟩ := hrel; cases gk with
     | zero => exact absurd HA.out (by simp [spec_l7Morphism.l0])
     | succ k1 =>
      have H := HA.out; clear HA; simp only [spec_l7Morphism.l0] at H; by_cases c56 : x5_1 < (wrap64 (1 + t760))
      ·rw [if_pos c56] at H; have c56b0 : decide (x5_1 < (wrap64 (1 + t760))) = true := decide_eq_true c56; clear c56; obtain ⟨y767, hy767⟩ : ∃ y_ : List Int, y_ = (([] : List Int)) := ⟨_, rfl⟩; replace H : ((spec_l1Below.f s0_0 x1001_1 x1002_1 4).bind fun bt770 => (spec_l7Morphism.l1 k1 (wrap64 (1 + t760)) x5_1 y767 bt770.1 s0_0 bt770.2.1 bt770.2.2 x764000_1)) = some (r1, r2, r3) := by rw [hy767]; first | exact H | exact (Option.bind_some _ _).symm.trans H
       have Ny767 := am hy767; clear hy767; replace H := bE H; obtain ⟨⟨t770, t771, t772⟩, A570, H⟩ := H; replace H : (spec_l7Morphism.l1 k1 (wrap64 (1 + t760)) x5_1 y767 t770 s0_0 t771 t772 x764000_1) = some (r1, r2, r3) := H; have A57 := am A570; clear A570; have H' := am H; clear H; go_wp2_with (first | ((with_reducible refine gate_dst (N := 38) rfl ?_); refine Kd.R_lit (Kd.int .i64) _ 3 ?hg (N := 38) ?hd (xs := ([] : List Int)) (inner := []) (ok := fun _ => True) (okp := fun _ => True) ?hr ?hp (fun _ hk => hk) trivial (Below.refl _ _) (Nat.le_refl _) (by simp) ?_; (case hd | hg => rfl); (case hr => go_simp <;> rfl); (case hp => exact (Reps.none _ _)); intro v768 w58 ho59 hb hg_ hnew_; clear hg_ hnew_; (first | rw [← Ny767.out] at ho59 | (simp only [Int.reduceToNat] at ho59; rw [← Ny767.out] at ho59)); replace HO_764000 := am (Kd.S_elder' (by exact rS HO_764000) (Kd.R_base ho59) hb); have HO769 := am (Kd.R_lower (Kd.R_newM (M := fun k_ => (w.heap.size ≤ k_)) ho59 (keep_size (w := w) (g := g) (row := none) (by exact rK HK)) (fun k_ h_ => h_)) (keep_size (w := w) (g := g) (row := none) (by exact rK HK))); replace BK726 := bK BK726 hb; replace BK763 := bK BK763 hb; replace HI0 := am (IsS114.below (by exact IsS114.m HI0) hb); replace HK := kU HK hb; replace HB := bS HB hb; clear hb ho59) | ((with_reducible refine gate_callee (f := 127) rfl ?_); refine goesL_ (some 40) rfl rfl Try.func127 (by kernel_rfl) rfl #[.pointer (some ⟨g, 0, none⟩), .int .i64 4] rfl (by (try simp only [mT, mC, mN]); first | done | rfl) ?_; (with_reducible refine (spec_l1Below.calls g s0_0 x1001_1 x1002_1 4 t770 t771 t772 w0 _ ?side1 ?side2 A57.out).mono ?_); (case side1 => exact IsS114.m HI0); (case side2 => exact rB HB); rintro e w60 ⟨rfl, hi, hb, hk⟩; refine ⟨_, rfl, ?_⟩; replace HO_764000 := am (Kd.S_mono (Kd.S_keep (Kd.S_mono (ok := fun k_ => ((((w.heap.size ≤ k_)) ∧ (k_ ≠ gb726 ∧ (k_ ≠ gb763 ∧ k_ ≠ g))) ∧ some k_ ≠ (v768 : Value).ownBlock)) (by exact rS HO_764000) (fun k_ hk_ => (⟨hk_, hk_.1.2.2.2⟩ : _ ∧ k_ ≠ g))) hk (fun _ h => h.2)) (fun _ h => h.1)); replace BK726 := am (KeepBut.blk hk (g' := gb726) (o := .cells #[.slice none 0 0] 28 (0, 0)) (by exact rX BK726) NB726_0.out (by simp)); replace BK763 := am (KeepBut.blk hk (g' := gb763) (o := .cells #[u764000] 28 (0, 0)) (by exact rX BK763) NB763_0.out (by simp)); replace HO769 := am (Kd.R_mono (Kd.R_keep (IsS114.apart (show IsS114 w0 _ g s0_0 x1001_1 x1002_1 from by exact IsS114.m HI0) (by exact rR HO769) (by decide)) hk (fun _ h => h.2)) (fun _ h => h.1)); replace HK := kV HK hk; replace HB := am (hb); replace HI0 := am (hi); clear hb hk hi)); go_loopg [6, 7] k1 (fun kq v6 v7 w' => ∃ (x6_2 : List Int) (x7_2 : Int) (x1001_2 : Int) (x1002_2 : Int), v7 = .int .i64 x7_2 ∧ Aside0 (spec_l7Morphism.l1 kq (wrap64 (1 + t760)) x5_1 x6_2 x7_2 s0_0 x1001_2 x1002_2 x764000_1 = some (r1, r2, r3)) ∧ Aside0 (kq ≤ k1) ∧ Aside0 (Kd.R (Kd.int .i64) 3 w' w.heap.size (fun k_ => (w.heap.size ≤ k_)) v6 x6_2) ∧ Aside0 (Kd.S (Kd.slice 3 (Kd.int .i64)) 36 w' w.heap.size (fun k_ => (w.heap.size ≤ k_) ∧ some k_ ≠ (v6 : Value).ownBlock ∧ k_ ≠ gb726 ∧ k_ ≠ gb763 ∧ k_ ≠ g) u764000 x764000_1) ∧ Aside0 (w'.heap[gb726]? = some (.cells #[(.slice none 0 0)] 28 (0, 0))) ∧ Aside0 (w'.heap[gb763]? = some (.cells #[u764000] 28 (0, 0))) ∧ Aside0 (IsS114 w0 w' g s0_0 x1001_2 x1002_2) ∧ Aside0 (KeepBut w w' g none) ∧ Aside0 (Below w0.heap.size w0 w'))
       case atStart => exact ⟨(y767), (t770), (t771), (t772), (by first | rfl | (simp; done) | (simp [*]; done)), H', ⟨Nat.le_refl _⟩, ⟨by exact xR (Kd.R_mono HO769.out (fun _ hk => hk.1))⟩, ⟨by exact xS (Kd.S_mono HO_764000.out (fun _ hk => ⟨hk.1.1, ⟨hk.2, ⟨hk.1.2.1, ⟨hk.1.2.2.1, hk.1.2.2.2⟩⟩⟩⟩))⟩, ⟨by exact rX BK726⟩, ⟨by exact rX BK763⟩, ⟨by exact IsS114.m HI0⟩, ⟨by exact rK HK⟩, ⟨by exact rB HB⟩⟩
       case round =>
        clear H'
        try clear c1
        try clear c2
        try clear p2
        try clear c3
        try clear c3b0
        try clear c3b1
        try clear c4
        try clear c5
        try clear p6
        try clear c12
        try clear c15
        try clear c17
        try clear c17b0
        try clear c17b1
        try clear c29
        try clear c31
        try clear c31b0
        try clear c31b1
        try clear c46
        try clear c53
        try clear c54
        try clear c56
        try clear c56b0
        try clear hcz16_0
        try clear hcz30_0
        try clear hcz47_0
        try clear hcz55_0
        try clear hfz16_0
        try clear hfz30_0
        try clear hfz47_0
        try clear hfz55_0
        try clear p2
        try clear p6
        obtain ⟨x6_2, x7_2, x1001_2, x1002_2, rfl, HA, HK2, HO_6, HO_764000, BK726, BK763, HI0, HK, HB⟩ := hrel; cases gk with
        | zero => exact absurd HA.out (by simp [spec_l7Morphism.l1])
        | succ k2 =>
         have H := HA.out; clear HA; simp only [spec_l7Morphism.l1] at H; by_cases c61 : x7_2 > 0
         ·rw [if_pos c61] at H; have c61b0 : decide (0 < x7_2) = true := decide_eq_true c61; clear c61; replace H := bE H; obtain ⟨⟨t773, t774, t775⟩, A620, H⟩ := H; replace H : (if x6_2.length < 17592186044416 then (spec_l7Morphism.l1 k2 (wrap64 (1 + t760)) x5_1 (x6_2 ++ [t773]) (wrap64 (x7_2 - 1)) s0_0 t774 t775 x764000_1) else (none)) = some (r1, r2, r3) := H; have A62 := am A620; clear A620; by_cases c63 : x6_2.length < 17592186044416
          ·rw [if_pos c63] at H; have LMc63 := am c63; clear c63; obtain ⟨y776, hy776⟩ : ∃ y_ : List Int, y_ = (x6_2 ++ [t773]) := ⟨_, rfl⟩; replace H : (spec_l7Morphism.l1 k2 (wrap64 (1 + t760)) x5_1 y776 (wrap64 (x7_2 - 1)) s0_0 t774 t775 x764000_1) = some (r1, r2, r3) := by rw [hy776]; first | exact H | exact (Option.bind_some _ _).symm.trans H
           have Ny776 := am hy776; clear hy776; have H' := am H; clear H; go_wp2_with (first | ((with_reducible refine gate_callee (f := 127) rfl ?_); refine goesL_ (some 48) rfl rfl Try.func127 (by kernel_rfl) rfl #[.pointer (some ⟨g, 0, none⟩), .int .i64 (wrap64 (1 + t760))] rfl (by (try simp only [mT, mC, mN]); first | done | rfl) ?_; (with_reducible refine (spec_l1Below.calls g s0_0 x1001_2 x1002_2 (wrap64 (1 + t760)) t773 t774 t775 w0 _ ?side1 ?side2 A62.out).mono ?_); (case side1 => exact IsS114.m HI0); (case side2 => exact rB HB); rintro e w64 ⟨rfl, hi, hb, hk⟩; refine ⟨_, rfl, ?_⟩; replace HO_6 := am (Kd.R_mono (Kd.R_keep (IsS114.apart (show IsS114 w0 _ g s0_0 x1001_2 x1002_2 from by exact IsS114.m HI0) (by exact rR HO_6) (by decide)) hk (fun _ h => h.2)) (fun _ h => h.1)); replace HO_764000 := am (Kd.S_mono (Kd.S_keep (Kd.S_mono (ok := fun k_ => (((w.heap.size ≤ k_)) ∧ (some k_ ≠ (u6 : Value).ownBlock ∧ (k_ ≠ gb726 ∧ (k_ ≠ gb763 ∧ k_ ≠ g))))) (by exact rS HO_764000) (fun k_ hk_ => (⟨hk_, hk_.2.2.2.2⟩ : _ ∧ k_ ≠ g))) hk (fun _ h => h.2)) (fun _ h => h.1)); replace BK726 := am (KeepBut.blk hk (g' := gb726) (o := .cells #[.slice none 0 0] 28 (0, 0)) (by exact rX BK726) NB726_0.out (by simp)); replace BK763 := am (KeepBut.blk hk (g' := gb763) (o := .cells #[u764000] 28 (0, 0)) (by exact rX BK763) NB763_0.out (by simp)); replace HK := kV HK hk; replace HB := am (hb); replace HI0 := am (hi); clear hb hk hi) | ((with_reducible refine gate_builtin (b := .append) (xs := #[.tmp 45, .tmp 49]) rfl ?_); at_builtin; refine Kd.R_append (Kd.int .i64) w.heap.size rfl (.tmp 45) (.tmp 49) 36 3 (.int .i64 0) 8 rfl Try.underlying36 info3 rfl (by decide) (by omega) u6 x6_2 t773 [.int .i64 t773] (fun k_ => (w.heap.size ≤ k_)) (fun _ => False) rfl rfl ?aP (fun _ hk => hk.elim) ?aF ?aO (Below.refl _ _) ?aS ?aL ?_; (case aP => exact rfl); (case aF => exact (fun k_ hk => (Nat.le_trans (keep_size (w := w) (g := g) (row := none) (by exact rK HK)) hk))); (case aO => exact (by exact rR HO_6)); (case aS => exact (keep_size (w := w) (g := g) (row := none) (by exact rK HK))); (case aL => have := LMc63.out; omega); intro v777 w65 ho hb hg hat; rw [← Ny776.out] at ho; replace HO_764000 := am (Kd.S_after (ok := (fun k_ => (w.heap.size ≤ k_) ∧ k_ ≠ gb726 ∧ k_ ≠ gb763 ∧ k_ ≠ g)) (by exact xS (Kd.S_mono HO_764000.out (fun _ hk => ⟨⟨hk.1, ⟨hk.2.2.1, ⟨hk.2.2.2.1, hk.2.2.2.2⟩⟩⟩, hk.2.1⟩))) hg hat); replace BK726 := am (blk_grown (g := gb726) (o := .cells #[.slice none 0 0] 28 (0, 0)) (by exact rX BK726) hg (Kd.R_ne HO_6.out BK726.out (by decide))); replace BK763 := am (blk_grown (g := gb763) (o := .cells #[u764000] 28 (0, 0)) (by exact rX BK763) hg (Kd.R_ne HO_6.out BK763.out (by decide))); replace HI0 := am (IsS114.grown (by exact IsS114.m HI0) hg (IsS114.own_ne HI0.out HO_6.out (by decide))); replace HB := am (below_weaken (by exact rB HB) HL.out hb); replace HK := am (KeepBut.trans (by exact rK HK) (KeepBut.of_grown hg g) (Kd.R_base2 HO_6.out)); have HO778 := am (ho); clear HO_6; clear ho hb hg hat)); go_roundg k2
           case measure => have := HK1.out; have := HK2.out; omega
           case rel => exact ⟨(y776), (wrap64 (x7_2 - 1)), (t774), (t775), (by first | rfl | (simp; done) | (simp [*]; done)), H', ⟨by have := HK1.out; have := HK2.out; omega⟩, ⟨by exact rR HO778⟩, ⟨by exact xS (Kd.S_mono HO_764000.out (fun _ hk => ⟨hk.1.1, ⟨hk.2, ⟨hk.1.2.1, ⟨hk.1.2.2.1, hk.1.2.2.2⟩⟩⟩⟩))⟩, ⟨by exact rX BK726⟩, ⟨by exact rX BK763⟩, ⟨by exact IsS114.m HI0⟩, ⟨by exact rK HK⟩, ⟨by exact rB HB⟩⟩
          ·rw [if_neg c63] at H; exact absurd H (by simp)
         ·rw [if_neg c61] at H; have c61b0 : decide (0 < x7_2) = false := decide_eq_false c61; clear c61; by_cases c66 : x764000_1.length < 5864062014805
          ·rw [if_pos c66] at H; have LMc66 := am c66; clear c66; obtain ⟨y779, hy779⟩ : ∃ y_ : List (List Int), y_ = (x764000_1 ++ [x6_2]) := ⟨_, rfl⟩; replace H : (spec_l7Morphism.l0 k2 (wrap64 (1 + t760)) (wrap64 (x5_1 + 1)) s0_0 x1001_2 x1002_2 y779) = some (r1, r2, r3) := by rw [hy779]; first | exact H | exact (Option.bind_some _ _).symm.trans H
           have Ny779 := am hy779; clear hy779; have H' := am H; clear H; have hnb67 := NB763_726.out; have hnc67 := NB726_763.out; have hnb68 := NB763_0.out; have hnc68 := NB0_763.out; have hcz69_0 := z10 BK763; have hfz69_0 := blk_frozen BK763.out 0; obtain ⟨Ao71, co71, eo71⟩ := Kd.R_slice HO_6.out; subst eo71; go_wp2_with (first | ((with_reducible refine gate_builtin (b := .append) (xs := #[.tmp 52, .tmp 54]) rfl ?_); at_builtin; refine Kd.S_append (Kd.slice 3 (Kd.int .i64)) w.heap.size rfl (.tmp 52) (.tmp 54) 22 36 (.slice none 0 0) 24 rfl Try.underlying22 info36 rfl (by decide) (by omega) u764000 x764000_1 x6_2 [.slice Ao71 x6_2.length co71] (fun k_ => (w.heap.size ≤ k_) ∧ k_ ≠ gb726 ∧ k_ ≠ gb763 ∧ k_ ≠ g) (fun k_ => some k_ = (Value.slice Ao71 x6_2.length co71).ownBlock) rfl rfl ?aP ?aK ?aF ?aO (Below.refl _ _) ?aS ?aL ?_; (case aP => exact ⟨_, rfl, Kd.R_tight rfl (Kd.R_mono (ok' := (fun k_ => ((fun k_ => (w.heap.size ≤ k_) ∧ k_ ≠ gb726 ∧ k_ ≠ gb763 ∧ k_ ≠ g)) k_ ∧ some k_ ≠ (u764000 : Value).ownBlock)) (IsS114.apart HI0.out (Kd.R_types (Kd.R_types (Kd.R_apart' (HO_6.out) (Kd.S_typed HO_764000.out) (by decide)) BK726.out (by decide)) BK763.out (by decide)) (by decide)) (fun k_ hk => ⟨⟨hk.1.1.1.1, ⟨hk.1.1.2, ⟨hk.1.2, hk.2⟩⟩⟩, hk.1.1.1.2⟩))⟩); (case aK => exact fun k_ hk => ((Kd.R_mono (ok' := (fun k_ => ((fun k_ => (w.heap.size ≤ k_) ∧ k_ ≠ gb726 ∧ k_ ≠ gb763 ∧ k_ ≠ g)) k_ ∧ some k_ ≠ (u764000 : Value).ownBlock)) (IsS114.apart HI0.out (Kd.R_types (Kd.R_types (Kd.R_apart' (HO_6.out) (Kd.S_typed HO_764000.out) (by decide)) BK726.out (by decide)) BK763.out (by decide)) (by decide)) (fun k_ hk => ⟨⟨hk.1.1.1.1, ⟨hk.1.1.2, ⟨hk.1.2, hk.2⟩⟩⟩, hk.1.1.1.2⟩))).1 k_ hk.symm); (case aF => exact (fun k_ hk => ⟨(Nat.le_trans (keep_size (w := w) (g := g) (row := none) (by exact rK HK)) hk), Kd.freshB (g := gb726) (o := .cells #[.slice none 0 0] 28 (0, 0)) (by exact rX BK726) k_ hk, Kd.freshB (g := gb763) (o := .cells #[u764000] 28 (0, 0)) (by exact rX BK763) k_ hk, IsS114.fresh (by exact IsS114.m HI0) k_ hk⟩)); (case aO => exact (by exact xS (Kd.S_mono HO_764000.out (fun _ hk => ⟨⟨hk.1, ⟨hk.2.2.1, ⟨hk.2.2.2.1, hk.2.2.2.2⟩⟩⟩, hk.2.1⟩)))); (case aS => exact (keep_size (w := w) (g := g) (row := none) (by exact rK HK))); (case aL => have := LMc66.out; omega); intro v780 w70 ho hb hg hat; rw [← Ny779.out] at ho; replace BK726 := am (blk_grown (g := gb726) (o := .cells #[.slice none 0 0] 28 (0, 0)) (by exact rX BK726) hg (Kd.S_ne HO_764000.out BK726.out (by decide))); replace BK763 := am (blk_grown (g := gb763) (o := .cells #[u764000] 28 (0, 0)) (by exact rX BK763) hg (Kd.S_ne HO_764000.out BK763.out (by decide))); replace HI0 := am (IsS114.grown (by exact IsS114.m HI0) hg (IsS114.own_neS HI0.out HO_764000.out (by decide))); replace HB := am (below_weaken (by exact rB HB) HL.out hb); replace HK := am (KeepBut.trans (by exact rK HK) (KeepBut.of_grown hg g) (Kd.S_base2 HO_764000.out)); have HO781 := am (ho); clear HO_764000 HO_6; clear ho hb hg hat; obtain ⟨Ao72, co72, eo72⟩ := Kd.S_slice HO781.out; subst eo72; have hcz73_0 := z10 BK763; have hfz73_0 := blk_frozen BK763.out 0)); go_roundg k2
           case measure => have := HK1.out; have := HK2.out; omega
           case rel => exact ⟨(wrap64 (x5_1 + 1)), (x1001_2), (x1002_2), (y779), (.slice Ao72 y779.length co72), (by first | rfl | (simp; done) | (simp [*]; done)), H', ⟨by have := HK1.out; have := HK2.out; omega⟩, ⟨by exact xS (Kd.S_mono (Kd.S_far (p := ⟨gb763, 0, none⟩) (Kd.S_mono HO781.out (fun k_ hk => (⟨hk, hk.2.2.1⟩ : _ ∧ k_ ≠ gb763))) (fun _ hk => hk.2) (.slice Ao72 y779.length co72)) (fun _ hk => ⟨hk.1.1, ⟨hk.1.2.1, ⟨hk.1.2.2.1, hk.1.2.2.2⟩⟩⟩))⟩, ⟨by (with_reducible repeat (first | refine blk_drewN ?_ _ | refine blk_drew ?_ | refine blk_alloc ?_ _)); refine blk_far ?_ NB726_763.out _; exact rX BK726⟩, ⟨by (with_reducible repeat (first | refine blk_drewN ?_ _ | refine blk_drew ?_ | refine blk_alloc ?_ _)); refine blk_put (cs := #[u764000]) ?_ 0 _ rfl; exact rX BK763⟩, ⟨by exact IsS114.m HI0⟩, ⟨by exact rK HK⟩, ⟨by exact rB HB⟩⟩
          ·rw [if_neg c66] at H; exact absurd H (by simp)
      ·rw [if_neg c56] at H; have c56b0 : decide (x5_1 < (wrap64 (1 + t760))) = false := decide_eq_false c56; clear c56; replace H := bE H; obtain ⟨⟨t764, t765, t766⟩, A740, H⟩ := H; replace H : (if t764 = true then ((spec_l1PickInt.f s0_0 t765 t766 [-1, 4, 0]).bind fun bq => (if 0 < x764000_1.length then (if (rd_L1 x764000_1 0).length < 17592186044416 then (some (x764000_1.set 0 (rd_L1 x764000_1 0 ++ [bq.1]), bq.2.1, bq.2.2)) else (none)) else (none))) else (some (x764000_1, t765, t766))) = some (r1, r2, r3) := H; have A74 := am A740; clear A740; by_cases c75 : t764 = true
       ·subst c75; rw [if_pos rfl] at H; have h_ := Option.bind_eq_some_iff.mp H; clear H; obtain ⟨⟨tp, ti, th⟩, hAp, H⟩ := h_; have AP := am hAp; clear hAp; by_cases hx0 : 0 < x764000_1.length
        case neg => rw [if_neg hx0] at H; cases H
        rw [if_pos hx0] at H; by_cases hrl : (rd_L1 x764000_1 0).length < 17592186044416
        case neg => rw [if_neg hrl] at H; cases H
        rw [if_pos hrl] at H; simp only [Option.some.injEq, Prod.mk.injEq] at H; obtain ⟨rfl, rfl, rfl⟩ := H; have HX0 := am hx0; have HRL := am hrl; clear hx0 hrl; go_wp2_with (((with_reducible refine gate_callee (f := 154) rfl ?_); refine goesL_ (some 58) rfl rfl Try.func154 (by kernel_rfl) rfl #[.pointer (some ⟨g, 0, none⟩), .int .i64 12] rfl (by (try simp only [mT, mC, mN]); first | done | rfl) ?_; (with_reducible refine (spec_l1Once.calls g s0_0 x1001_1 x1002_1 12 true t765 t766 w0 _ ?side1 ?side2 A74.out).mono ?_); (case side1 => exact IsS114.m HI0); (case side2 => exact rB HB); rintro e w76 ⟨rfl, hi, hb, hk⟩; refine ⟨_, rfl, ?_⟩; replace HO_764000 := am (Kd.S_mono (Kd.S_keep (Kd.S_mono (ok := fun k_ => (((w.heap.size ≤ k_)) ∧ (k_ ≠ gb726 ∧ (k_ ≠ gb763 ∧ k_ ≠ g)))) (by exact rS HO_764000) (fun k_ hk_ => (⟨hk_, hk_.2.2.2⟩ : _ ∧ k_ ≠ g))) hk (fun _ h => h.2)) (fun _ h => h.1)); replace BK726 := am (KeepBut.blk hk (g' := gb726) (o := .cells #[.slice none 0 0] 28 (0, 0)) (by exact rX BK726) NB726_0.out (by simp)); replace BK763 := am (KeepBut.blk hk (g' := gb763) (o := .cells #[u764000] 28 (0, 0)) (by exact rX BK763) NB763_0.out (by simp)); replace HK := kV HK hk; replace HB := am (hb); replace HI0 := am (hi); clear hb hk hi)); have HO2 := am (Kd.S_drew HO_764000.out); have BA2 := am (blk_drew BK726.out); have BB2 := am (blk_drew BK763.out); have HI2 := am (IsS114.drew HI0.out); have HK2_ := am (keep_drew HK.out); have HB2 := am (below_drew1 HB.out); clear HO_764000 BK726 BK763 HI0 HK HB; obtain ⟨gu, cu, rfl, hgb, hgl, cellsu, hgu⟩ := Kd.S_form HO2.out HX0.out; obtain ⟨oki, cv, hcl, hM, hcc, hfr, hoki, hH⟩ := Kd.S_elem HO2.out [] 0 (by omega) (by have := HX0.out; omega); obtain ⟨v0, rfl, hR0⟩ := hM; have hrw : x764000_1.getD (0 : Int).toNat [] = rd_L1 x764000_1 0 := rfl; rw [hrw] at hR0; clear hrw; obtain ⟨row, hrow⟩ : ∃ row, rd_L1 x764000_1 0 = row := ⟨_, rfl⟩; rw [hrow] at hR0; have HROW := am hrow; clear hrow; obtain ⟨A0, c0, rfl⟩ := Kd.R_slice hR0; have hc0 : w76.drew.cell? ⟨gu, 0, none⟩ = some (.slice A0 row.length c0) := by simpa using hcc 0 _ rfl
        have hgu1 := (Kd.S_R HO2.out).1 gu (by simp [Value.ownBlock]); have hgug : gu ≠ g := hgu1.2.2.2; have hBu : gu ≠ gb763 := hgu1.2.2.1; have hAu : gu ≠ gb726 := hgu1.2.1; have BKU := am hgu; have HU0 := am (show cellsu[0]? = some (.slice A0 row.length c0) from (blk_cell hgu 0).symm.trans hc0); have HH := am hH; have HR := am hR0; have HOK := am hoki; clear hH hR0 hoki hcc hcl hgu hgu1 hfr HO2; have hx0 : 0 < x764000_1.length := HX0.out; refine start_ (n := 13) (S := fun w' => w'.cell? ⟨gb763, 0, none⟩ = some (.slice (some ⟨gu, 0, none⟩) x764000_1.length cu) ∧ w'.cell? ⟨gu, 0, none⟩ = some (.slice A0 row.length c0)) (ds := [12]) #[false, false, false, false, false, false, false, false, false, false, false, false, false] (by kernel_rfl) rfl rfl ⟨(blk_cell BB2.out 0).trans rfl, hc0⟩ (fun hHeld => ?_); refine with_tabW spec_l7Morphism.tab20 spec_l7Morphism.bits20 (fun HT_ HW_ => ?_); clear hc0; generalize w76.drew = w77 at *; refine pure_ (i := 0) (N := some 59) (v := ?_) (a' := ?_) (bA 13 1) rfl rfl (any_of HT_.out (by kernel_rfl)) (fun _ _ _ h => h) (Or.inl ⟨by rfl, ?_⟩) ?_ ?_; rotate_left; (intro w'; go_simp; (with_reducible rfl)); rotate_left; (simp only [Act.put, qa, qz, qs, i64_w, i32_w]; rfl); refine pure_ (i := 2) (N := some 61) (v := ?_) (a' := ?_) (bA 13 5) rfl rfl (any_of HT_.out (by kernel_rfl)) (fun _ _ _ h => h) (Or.inl ⟨by rfl, ?_⟩) ?_ ?_; rotate_left
        ·intro w'; go_simp; (with_reducible rfl)
        rotate_left; (simp only [Act.put, qa, qz, qs, i64_w, i32_w]; rfl); refine pure_ (i := 6) (N := some 65) (v := ?_) (a' := ?_) (bA 13 69) rfl rfl (any_of HT_.out (by kernel_rfl)) (fun _ _ _ h => h) (Or.inl ⟨by rfl, ?_⟩) ?_ ?_; rotate_left
        ·intro w'; go_simp; (with_reducible rfl)
        rotate_left; (simp only [Act.put, qa, qz, qs, i64_w, i32_w]; rfl); refine take_ (i := 1) (N := some 60) (v := ?_) (a' := ?_) (bA 13 71) rfl rfl (take_ofW HT_.out HW_.out (by kernel_rfl)) (fun _ _ _ h => h) (Or.inl ⟨by rfl, ?_⟩) hHeld ?_ ?_; rotate_left
        ·rintro w' ⟨s0, s1⟩; go_simp; (with_reducible rfl)
        rotate_left; (simp only [Act.put, qa, qz, qs, i64_w, i32_w]; rfl); refine take_ (i := 3) (N := some 62) (v := ?_) (a' := ?_) (bA 13 79) rfl rfl (take_ofW HT_.out HW_.out (by kernel_rfl)) (fun _ _ _ h => h) (Or.inl ⟨by rfl, ?_⟩) hHeld ?_ ?_; rotate_left
        ·rintro w' ⟨s0, s1⟩; go_simp; (with_reducible rfl)
        rotate_left; (simp only [Act.put, qa, qz, qs, i64_w, i32_w]; rfl); refine pure_ (i := 4) (N := some 63) (v := ?_) (a' := ?_) (bA 13 95) rfl rfl (any_of HT_.out (by kernel_rfl)) (fun _ _ _ h => h) (Or.inl ⟨by rfl, ?_⟩) ?_ ?_; rotate_left
        ·intro w'; go_simp; (with_reducible rfl)
        rotate_left; (simp only [Act.put, qa, qz, qs, i64_w, i32_w]; rfl); refine take_ (i := 5) (N := some 64) (v := ?_) (a' := ?_) (bA 13 127) rfl rfl (take_ofW HT_.out HW_.out (by kernel_rfl)) (fun _ _ _ h => h) (Or.inl ⟨by rfl, ?_⟩) hHeld ?_ ?_; rotate_left
        ·rintro w' ⟨s0, s1⟩; go_simp; (with_reducible rfl)
        rotate_left; (simp only [Act.put, qa, qz, qs, i64_w, i32_w]; rfl); refine one_ (i := 7) (N := some 66) (bA 13 255) rfl rfl (one_of HT_.out (by kernel_rfl)) (by decide) (fun K hK => ?_); refine value_ (w1 := ?_) (v := ?_) (by rfl) rfl ?_ ?_; rotate_left 2
        ·go_simp; constructor
         ·rfl
         ·rfl
        refine hK.out _ _ ⟨(blk_cell (blk_alloc BB2.out _) 0).trans rfl, (blk_cell (blk_alloc BKU.out _) 0).trans HU0.out⟩ (fun hHeld => ?_); clear hK K; refine norm_ (a' := ?_) ?_ ?_; rotate_left; (show Act.put _ (some 66) _ = _; simp only [Act.put, qa, qz, qs, i64_w, i32_w]; rfl); refine one_ (i := 8) (N := some 67) (bA 13 511) rfl rfl (one_of HT_.out (by kernel_rfl)) (by decide) (fun K hK => ?_); refine goes_ Try.func138 (by kernel_rfl) rfl #[.pointer (some ⟨g, 0, none⟩), .slice (some ⟨w77.heap.size, 0, none⟩) 3 3] (by rfl) rfl rfl (by (try simp only [mT, mC, mN]); first | done | rfl) ?_; refine (spec_l1PickInt.calls g s0_0 t765 t766 (some ⟨w77.heap.size, 0, none⟩) 3 [-1, 4, 0] tp ti th w0 _ (IsS114.alloc HI2.out _) (below_alloc HB2.out _) (l7m_three _ _ _ _ _ (blk_new _ _)) (Nat.le_refl _) (fun ad e _ => by cases e; exact Nat.ne_of_gt (IsS114.lt HI2.out)) AP.out).mono ?_; rintro e wp ⟨rfl, hip, hbp, hkp⟩; refine ⟨_, rfl, ?_⟩; have BAp := am (KeepBut.blk hkp (blk_alloc BA2.out _) NB726_0.out (by simp)); have BBp := am (KeepBut.blk hkp (blk_alloc BB2.out _) NB763_0.out (by simp)); have BUp := am (KeepBut.blk hkp (blk_alloc BKU.out _) hgug (by simp)); have HHp := am (Kd.H_widen (Kd.H_keep (Kd.H_alloc HH.out (.cells #[.int .i64 (-1), .int .i64 4, .int .i64 0] 3)) hkp (fun k hk => hk.2.2.2))); have HRp := am (Kd.R_keep (Kd.R_alloc HR.out (.cells #[.int .i64 (-1), .int .i64 4, .int .i64 0] 3)) hkp (fun k hk => (HOK.out k hk).1.2.2.2)); have HIp := am hip; have HBp := am hbp; have HKp := am (KeepBut.trans (keep_alloc HK2_.out _) hkp (.inl rfl)); clear hip hbp hkp BA2 BB2 BKU HH HR HI2 HB2 HK2_; refine hK.out _ _ ⟨(blk_cell BBp.out 0).trans rfl, (blk_cell BUp.out 0).trans HU0.out⟩ (fun hHeld => ?_); clear hK K; refine norm_ (a' := ?_) ?_ ?_; rotate_left
        ·show Act.put _ (some 67) _ = _; simp only [Act.put, qa, qz, qs, i64_w, i32_w]; rfl
        refine one_ (i := 9) (N := some 68) (bA 13 1023) rfl rfl (one_of HT_.out (by kernel_rfl)) (by decide) (fun K hK => ?_); refine value_ (w1 := ?_) (v := ?_) (by rfl) rfl ?_ ?_; rotate_left 2
        ·go_simp; constructor
         ·rfl
         ·rfl
        refine hK.out _ _ ⟨(blk_cell (blk_alloc BBp.out _) 0).trans rfl, (blk_cell (blk_alloc BUp.out _) 0).trans HU0.out⟩ (fun hHeld => ?_); clear hK K; refine norm_ (a' := ?_) ?_ ?_; rotate_left; (show Act.put _ (some 68) _ = _; simp only [Act.put, qa, qz, qs, i64_w, i32_w]; rfl); refine one_ (i := 10) (N := some 69) (bA 13 2047) rfl rfl (one_of HT_.out (by kernel_rfl)) (by decide) (fun K hK => ?_); refine Kd.R_append_step (Kd.int .i64) w.heap.size (by rfl) (.tmp 64) (.tmp 68) 36 3 (.int .i64 0) 8 rfl Try.underlying36 info3 rfl (by decide) (by omega) (.slice A0 row.length c0) row tp [.int .i64 tp] (fun k_ => oki k_ ∨ (w.heap.size ≤ k_ ∧ k_ ≠ gb726 ∧ k_ ≠ gb763 ∧ k_ ≠ g) ∧ wp.heap.size ≤ k_) (fun _ => False) rfl rfl rfl (fun _ hk => hk.elim) ?aF ?aO (Below.refl _ _) ?aS ?aL ?_; (case aF => exact fun k_ hk => .inr ⟨⟨Nat.le_trans (keep_size HKp.out) hk, Kd.freshB BAp.out k_ hk, Kd.freshB BBp.out k_ hk, IsS114.fresh HIp.out k_ hk⟩, hk⟩); (case aO => exact Kd.R_mono HRp.out (fun k_ hk => .inl hk)); (case aS => exact keep_size HKp.out); (case aL => have := HRL.out; rw [HROW.out] at this; omega); intro v69 w69 ho hb hg hat; have hown : ∀ k, (Value.slice A0 row.length c0).ownBlock = some k → oki k := HRp.out.1; have BA9 := am (blk_grown BAp.out hg (fun he => (HOK.out _ (hown _ he.symm)).1.2.1 rfl)); have BB9 := am (blk_grown BBp.out hg (fun he => (HOK.out _ (hown _ he.symm)).1.2.2.1 rfl)); have BU9 := am (blk_grown BUp.out hg (fun he => (HOK.out _ (hown _ he.symm)).2 rfl)); have HI9 := am (IsS114.grown HIp.out hg (IsS114.own_ne HIp.out HRp.out (by decide))); have HH9 := am (Kd.H_grown HHp.out hg (fun k hk => .inl (hown k hk))); have HB9 := am (below_weaken HBp.out HL.out hb); have HK9 := am (KeepBut.trans HKp.out (KeepBut.of_grown hg g) (Kd.R_base2 HRp.out)); have HGN := am (show ∀ k, (oki k ∨ (w.heap.size ≤ k ∧ k ≠ gb726 ∧ k ≠ gb763 ∧ k ≠ g) ∧ wp.heap.size ≤ k) → k ≠ gu from fun k hk => hk.elim (fun h => (HOK.out k h).2) (fun h he => by have := blk_lt BUp.out; omega)); obtain ⟨nrow, hnr⟩ : ∃ nrow, row ++ [tp] = nrow := ⟨_, rfl⟩; rw [hnr] at ho; have HNR := am hnr; obtain ⟨A69, c69, rfl⟩ := Kd.R_slice ho; have HR9 := am ho; clear ho hb hg hat hown hnr BAp BBp BUp HIp HHp HBp HKp HRp; refine hK.out _ _ ⟨(blk_cell BB9.out 0).trans rfl, (blk_cell BU9.out 0).trans HU0.out⟩ (fun hHeld => ?_); clear hK K; refine norm_ (a' := ?_) ?_ ?_; rotate_left
        ·show Act.put _ (some 69) _ = _; simp only [Act.put, qa, qz, qs, i64_w, i32_w]; rfl
        refine pure_ (i := 11) (N := some 70) (v := ?_) (a' := ?_) (bA 13 4095) rfl rfl (any_of HT_.out (by kernel_rfl)) (fun _ _ _ h => h) (Or.inl ⟨by rfl, ?_⟩) ?_ ?_; rotate_left; (intro w'; go_simp; (with_reducible rfl)); rotate_left; (simp only [Act.put, qa, qz, qs, i64_w, i32_w]; rfl); refine last_ (i := 12) (N := none) (bA 13 8191) rfl rfl (one_of HT_.out (by kernel_rfl)) (by decide) (fun K hK => ?_); have hs34 : w69.cell? ⟨gu, 0, none⟩ = some (.slice A0 row.length c0) := (blk_cell BU9.out 0).trans HU0.out; have hfs34 := blk_frozen BU9.out 0; refine skip_ (w1 := ?_) (by rfl) rfl ?_ ?_; rotate_left
        ·go_simp; rfl
        refine hK.out _ _ ?_; clear hK K; refine done_ (done_of HT_.out (by kernel_rfl)) ?_; have hseg := (Kd.H_seg HH9.out (Int.le_refl 0) (by have := HX0.out; omega) (seg := [.slice A69 nrow.length c69]) (j := 0) (Nat.le_refl 1) (fun q hq => by rw [List.mem_singleton.1 hq]; rfl)).1; have HSE := am (show Kd.S (Kd.slice 3 (Kd.int .i64)) 36 (w69.setCell ⟨gu, 0, none⟩ (.slice A69 nrow.length c69)) w.heap.size (fun k_ => w.heap.size ≤ k_ ∧ k_ ≠ gb726 ∧ k_ ≠ gb763 ∧ k_ ≠ g) (.slice (some ⟨gu, 0, none⟩) x764000_1.length cu) (x764000_1.set 0 nrow) from Kd.H_back hseg ⟨_, rfl, Kd.R_far (p := ⟨gu, 0, none⟩) HR9.out HGN.out _⟩ (fun _ h => h)); have BAE := am (blk_far (p := ⟨gu, 0, none⟩) BA9.out (Ne.symm hAu) (.slice A69 nrow.length c69)); have BBE := am (blk_far (p := ⟨gu, 0, none⟩) BB9.out (Ne.symm hBu) (.slice A69 nrow.length c69)); have HIE := am (IsS114.far (p := ⟨gu, 0, none⟩) HI9.out (Ne.symm hgug) (.slice A69 nrow.length c69)); have HKE := am (keep_far (p := ⟨gu, 0, none⟩) HK9.out hgb (.slice A69 nrow.length c69)); have HBE := am (show Below w0.heap.size w0 (w69.setCell ⟨gu, 0, none⟩ (.slice A69 nrow.length c69)) from below_set HB9.out (Nat.le_trans HL.out hgb)); clear hseg HR9 HH9 BA9 BB9 BU9 HI9 HK9 HB9 hs34 hfs34 hHeld; generalize w69.setCell ⟨gu, 0, none⟩ (.slice A69 nrow.length c69) = w80 at *; have hnb1 := NB763_726.out; have hnc1 := NB726_763.out; have hnb2 := NB763_0.out; have hnc2 := NB0_763.out; have hnb3 := NB726_0.out; have hnc3 := NB0_726.out; have hczB : w80.cell? ⟨gb763, 0, none⟩ = some (.slice (some ⟨gu, 0, none⟩) x764000_1.length cu) := (blk_cell BBE.out 0).trans rfl; have hfzB := blk_frozen BBE.out 0; have hczA : w80.cell? ⟨gb726, 0, none⟩ = some (.slice none 0 0) := (blk_cell BAE.out 0).trans rfl; have hfzA := blk_frozen BAE.out 0; go_wp2_with fail; refine bodyPost_ret (results_cell_row rfl _ _ gb726 28 #[.slice (some ⟨gu, 0, none⟩) x764000_1.length cu] (0, 0) _ rfl (by (with_reducible repeat (first | refine blk_drewN ?_ _ | refine blk_drew ?_ | refine blk_alloc ?_ _)); refine blk_put (cs := #[.slice none 0 0]) ?_ 0 _ rfl; exact rX BAE) Try.underlying28 rfl (by kernel_rfl)) rfl ?_; exact ⟨_, rfl, by refine Kd.S_N ?_; rw [HROW.out, HNR.out]; (with_reducible repeat (first | apply Kd.S_alloc | apply Kd.S_drewN | apply Kd.S_drew)); exact Kd.S_mono (Kd.S_far (p := ⟨gb726, 0, none⟩) (Kd.S_mono HSE.out (fun k_ hk => (⟨hk, hk.2.1⟩ : _ ∧ k_ ≠ gb726))) (fun _ hk => hk.2) _) (fun _ hk => hk.1.1), by repeat (first | exact HIE.out | apply IsS114.alloc | apply IsS114.drewN | apply IsS114.drew | refine IsS114.far ?_ hnc3 _), by repeat (first | exact HBE.out | apply below_alloc | apply pw_below_drewN | apply below_drew1 | refine below_set ?_ (Nat.le_trans HL.out GW726.out)), by repeat (first | exact HKE.out | apply keep_drewN | apply keep_drew | apply keep_alloc | refine keep_far ?_ GW726.out _)⟩
       ·replace c75 := Bool.eq_false_iff.mpr c75; subst c75; have H1 : (some (x764000_1, t765, t766)) = some (r1, r2, r3) := by rw [if_neg (show ¬ (false = true) by decide)] at H; exact H
        clear H; have H := H1; clear H1; simp only [Option.some.injEq, Prod.mk.injEq] at H; obtain ⟨rfl, rfl, rfl⟩ := H; go_wp2_with (first | ((with_reducible refine gate_callee (f := 154) rfl ?_); refine goesL_ (some 58) rfl rfl Try.func154 (by kernel_rfl) rfl #[.pointer (some ⟨g, 0, none⟩), .int .i64 12] rfl (by (try simp only [mT, mC, mN]); first | done | rfl) ?_; (with_reducible refine (spec_l1Once.calls g s0_0 x1001_1 x1002_1 12 false t765 t766 w0 _ ?side1 ?side2 A74.out).mono ?_); (case side1 => exact IsS114.m HI0); (case side2 => exact rB HB); rintro e w83 ⟨rfl, hi, hb, hk⟩; refine ⟨_, rfl, ?_⟩; replace HO_764000 := am (Kd.S_mono (Kd.S_keep (Kd.S_mono (ok := fun k_ => (((w.heap.size ≤ k_)) ∧ (k_ ≠ gb726 ∧ (k_ ≠ gb763 ∧ k_ ≠ g)))) (by exact rS HO_764000) (fun k_ hk_ => (⟨hk_, hk_.2.2.2⟩ : _ ∧ k_ ≠ g))) hk (fun _ h => h.2)) (fun _ h => h.1)); replace BK726 := am (KeepBut.blk hk (g' := gb726) (o := .cells #[.slice none 0 0] 28 (0, 0)) (by exact rX BK726) NB726_0.out (by simp)); replace BK763 := am (KeepBut.blk hk (g' := gb763) (o := .cells #[u764000] 28 (0, 0)) (by exact rX BK763) NB763_0.out (by simp)); replace HK := kV HK hk; replace HB := am (hb); replace HI0 := am (hi); clear hb hk hi; have hnb84 := NB763_726.out; have hnc84 := NB726_763.out; have hnb85 := NB763_0.out; have hnc85 := NB0_763.out; have hcz86_0 := z10 BK763; have hfz86_0 := blk_frozen BK763.out 0; obtain ⟨Ao87, co87, eo87⟩ := Kd.S_slice HO_764000.out; subst eo87; have hnb88 := NB726_0.out; have hnc88 := NB0_726.out; have hcz89_0 := z10 BK726; have hfz89_0 := blk_frozen BK726.out 0)); refine bodyPost_ret (results_cell_row rfl _ _ gb726 28 #[.slice Ao87 x764000_1.length co87] (0, 0) _ rfl (by (with_reducible repeat (first | refine blk_drewN ?_ _ | refine blk_drew ?_ | refine blk_alloc ?_ _)); refine blk_put (cs := #[.slice none 0 0]) ?_ 0 _ rfl; exact rX BK726) Try.underlying28 rfl (by kernel_rfl)) rfl ?_; exact ⟨_, by first | rfl | (simp [errW_none, errW_some] <;> rfl) | (simp [*, errW_none, errW_some] <;> rfl), by refine Kd.S_N ?_; exact xS (Kd.S_mono (Kd.S_far (p := ⟨gb726, 0, none⟩) (Kd.S_mono HO_764000.out (fun k_ hk => (⟨hk, hk.2.1⟩ : _ ∧ k_ ≠ gb726))) (fun _ hk => hk.2) (.slice Ao87 x764000_1.length co87)) (fun _ hk => hk.1.1)), by exact IsS114.m HI0, by exact rB HB, by exact rK HK⟩
def spec_DrawImageLengths.f (k : Nat) (l0 : List Int) : Option ((List (List Int)) × Int) := (spec_l1New.f k l0).bind fun bt1028 => ((spec_l7Morphism.f k bt1028.1 bt1028.2.1 bt1028.2.2).bind fun bt1032 => ((spec_l1Below.f bt1028.1 bt1032.2.1 bt1032.2.2 15).bind fun bt1038 => (some (bt1032.1, wrap64 (bt1038.1 - 1)))))
set_option maxHeartbeats 8000000 in
set_option maxRecDepth 100000 in
theorem spec_DrawImageLengths.calls (k : Nat) (A0 : Option Addr) (c0 : Nat) (l0 : List Int) (r1 : List (List Int)) (r2 : Int) (w : World) (hr0 : Kd.C (Kd.int .u8) w A0 l0.length l0) (hc0 : l0.length ≤ c0) (h : spec_DrawImageLengths.f k l0 = some (r1, r2)) :
  Calls Try.prog 59 #[.slice A0 l0.length c0] w fun e w' => ∃ v0_ : Value, e = .returned (.tuple #[.agg #[v0_], .int .i64 r2]) ∧ Kd.N (Kd.slice 3 (Kd.int .i64)) 36 w' w.heap.size (fun k_ => (w.heap.size ≤ k_)) v0_ r1 ∧ Below w.heap.size w w' := by
 have hu28 := Try.underlying28; have HR0 := am hr0; have HC0 := am hc0; clear hr0 hc0; have HB := am (Below.refl w.heap.size w); have H : ((spec_l1New.f k l0).bind fun bt1028 => ((spec_l7Morphism.f k bt1028.1 bt1028.2.1 bt1028.2.2).bind fun bt1032 => ((spec_l1Below.f bt1028.1 bt1032.2.1 bt1032.2.2 15).bind fun bt1038 => (some (bt1032.1, wrap64 (bt1038.1 - 1)))))) = some (r1, r2) := h; clear h; replace H := bE H; obtain ⟨⟨t1028, t1029, t1030⟩, A20, H⟩ := H; replace H : ((spec_l7Morphism.f k t1028 t1029 t1030).bind fun bt1032 => ((spec_l1Below.f t1028 bt1032.2.1 bt1032.2.2 15).bind fun bt1038 => (some (bt1032.1, wrap64 (bt1038.1 - 1))))) = some (r1, r2) := H; have A2 := am A20; clear A20; replace H := bE H; obtain ⟨⟨t1032, t1035, t1036⟩, A30, H⟩ := H; replace H : ((spec_l1Below.f t1028 t1035 t1036 15).bind fun bt1038 => (some (t1032, wrap64 (bt1038.1 - 1)))) = some (r1, r2) := H; have A3 := am A30; clear A30; replace H := bE H; obtain ⟨⟨t1038, t1039, t1040⟩, A40, H⟩ := H; replace H : (some (t1032, wrap64 (t1038 - 1))) = some (r1, r2) := H; have A4 := am A40; clear A40; simp only [Option.some.injEq, Prod.mk.injEq] at H; obtain ⟨rfl, rfl⟩ := H; go_enter Try.func59, Try.ntmps59
 try go_wp2_with (first | ((with_reducible refine gate_dst (N := 2) rfl ?_); refine box_event ?hg (N := 2) ?hd (cs := #[.slice none 0 0]) (t := 28) ?hr ?_; (case hd | hg => rfl); (case hr => go_simp <;> rfl); intro gb1027 hg w5 hbox hb; have BK1027 := am (hbox); have GW1027 := am ((by rw [hg]; exact (bZ HB) : w.heap.size ≤ gb1027)); have GE1027 := am ((by rw [hg]; exact (bZ HB) : w.heap.size ≤ gb1027)); replace HB := bS HB hb; have qW1027 := Ge.mk GW1027.out; have qE1027 := Ge.mk GE1027.out; clear hb hbox hg) | ((with_reducible refine gate_callee (f := 126) rfl ?_); refine goesL_ (some 7) rfl rfl Try.func126 (by kernel_rfl) rfl #[.slice A0 l0.length c0] rfl (by (try simp only [mT, mC, mN]); first | done | rfl) ?_; (with_reducible refine (spec_l1New.calls k _ _ l0 t1028 t1029 t1030 w _ ?side1 ?side2 ?side3 A2.out).mono ?_); (case side1 => exact rB HB); (case side2 => exact HR0.out); (case side3 => exact HC0.out); rintro e w6 ⟨g1031, rfl, hi, hb, hb2⟩; refine ⟨_, rfl, ?_⟩; replace HB := am (hb); have HI1031 := am (hi); have NB1031_1027 := am (IsS114.ne_blk hi (blk_below (g := gb1027) (o := .cells #[.slice none 0 0] 28 (0, 0)) (by exact rX BK1027) hb2) (by decide)); have NB1027_1031 := am (Ne.symm (IsS114.ne_blk hi (blk_below (g := gb1027) (o := .cells #[.slice none 0 0] 28 (0, 0)) (by exact rX BK1027) hb2) (by decide))); replace BK1027 := am (blk_below (g := gb1027) (o := .cells #[.slice none 0 0] 28 (0, 0)) (by exact rX BK1027) hb2); clear hb hb2 hi) | ((with_reducible refine gate_callee (f := 128) rfl ?_); refine goesL_ (some 9) rfl rfl Try.func128 (by kernel_rfl) rfl #[.pointer (some ⟨g1031, 0, none⟩)] rfl (by (try simp only [mT, mC, mN]); first | done | rfl) ?_; (with_reducible refine (spec_l7Morphism.calls k g1031 t1028 t1029 t1030 t1032 t1035 t1036 w _ ?side1 ?side2 A3.out).mono ?_); (case side1 => exact IsS114.m HI1031); (case side2 => exact rB HB); rintro e w7 ⟨v1033, rfl, ho0, hi, hb, hk⟩; refine ⟨_, rfl, ?_⟩; have HO1034 := am (Kd.N_lower (Kd.N_mono (ok' := fun k_ => (w.heap.size ≤ k_) ∧ k_ ≠ gb1027 ∧ k_ ≠ g1031) ho0 (fun k_ hk_ => ⟨(Nat.le_trans (bZ HB) hk_), (Kd.freshB (g := gb1027) (o := .cells #[.slice none 0 0] 28 (0, 0)) (by exact rX BK1027) k_ hk_), (IsS114.fresh (by exact IsS114.m HI1031) k_ hk_)⟩)) (bZ HB)); replace BK1027 := am (KeepBut.blk hk (g' := gb1027) (o := .cells #[.slice none 0 0] 28 (0, 0)) (by exact rX BK1027) NB1027_1031.out (by simp)); replace HB := am (hb); replace HI1031 := am (hi); clear hb hk hi ho0) | ((with_reducible refine gate_dst (N := 5) rfl ?_); refine box_event ?hg (N := 5) ?hd (cs := #[.slice none 0 0]) (t := 28) ?hr ?_; (case hd | hg => rfl); (case hr => go_simp <;> rfl); intro gb1037 hg w8 hbox hb; replace HO1034 := am (Kd.N_below (Kd.N_elderB (by exact rN HO1034) gb1037 (Nat.le_of_eq hg.symm)) hb); have BK1037 := am (hbox); have GW1037 := am ((by rw [hg]; exact (bZ HB) : w.heap.size ≤ gb1037)); have GE1037 := am ((by rw [hg]; exact (bZ HB) : w.heap.size ≤ gb1037)); replace HB := bS HB hb; have NB1027_1037 := am ((by rw [hg]; exact Nat.ne_of_lt (blk_lt (g := gb1027) (o := .cells #[.slice none 0 0] 28 (0, 0)) (by exact rX BK1027)) : gb1027 ≠ gb1037)); have NB1037_1027 := am ((by rw [hg]; exact Nat.ne_of_gt (blk_lt (g := gb1027) (o := .cells #[.slice none 0 0] 28 (0, 0)) (by exact rX BK1027)) : gb1037 ≠ gb1027)); replace BK1027 := bK BK1027 hb; have NB1031_1037 := am ((by rw [hg]; exact Nat.ne_of_lt (IsS114.lt (show IsS114 w _ g1031 t1028 t1035 t1036 from by exact IsS114.m HI1031)) : g1031 ≠ gb1037)); have NB1037_1031 := am ((by rw [hg]; exact Nat.ne_of_gt (IsS114.lt (show IsS114 w _ g1031 t1028 t1035 t1036 from by exact IsS114.m HI1031)) : gb1037 ≠ g1031)); replace HI1031 := am (IsS114.below (by exact IsS114.m HI1031) hb); have qW1037 := Ge.mk GW1037.out; have qE1037 := Ge.mk GE1037.out; clear hb hbox hg; obtain ⟨Ao9, co9, eo9⟩ := Kd.N_slice HO1034.out; subst eo9; have hnb10 := NB1037_1027.out; have hnc10 := NB1027_1037.out; have hnb11 := NB1037_1031.out; have hnc11 := NB1031_1037.out; have hcz12_0 := z10 BK1037; have hfz12_0 := blk_frozen BK1037.out 0))
 have n0_ : Aside0 (Kd.N (Kd.slice 3 (Kd.int .i64)) 36 (w8.setCell ⟨gb1037, 0, none⟩ (.slice Ao9 t1032.length co9)) w.heap.size (fun k_ => (w.heap.size ≤ k_) ∧ k_ ≠ gb1027 ∧ k_ ≠ g1031 ∧ k_ ≠ gb1037) (.slice Ao9 t1032.length co9) t1032) := ⟨by exact xN (Kd.N_mono (Kd.N_far (p := ⟨gb1037, 0, none⟩) (Kd.N_mono HO1034.out (fun k_ hk => (⟨hk, hk.2⟩ : _ ∧ k_ ≠ gb1037))) (fun _ hk => hk.2) (.slice Ao9 t1032.length co9)) (fun _ hk => ⟨hk.1.1.1, ⟨hk.1.1.2.1, ⟨hk.1.1.2.2, hk.1.2⟩⟩⟩))⟩; have n1_ : Aside0 ((w8.setCell ⟨gb1037, 0, none⟩ (.slice Ao9 t1032.length co9)).heap[gb1027]? = some (.cells #[.slice none 0 0] 28 (0, 0))) := ⟨by (with_reducible repeat (first | refine blk_drewN ?_ _ | refine blk_drew ?_ | refine blk_alloc ?_ _)); refine blk_far ?_ NB1027_1037.out _; exact rX BK1027⟩; have n2_ : Aside0 ((w8.setCell ⟨gb1037, 0, none⟩ (.slice Ao9 t1032.length co9)).heap[gb1037]? = some (.cells #[.slice Ao9 t1032.length co9] 28 (0, 0))) := ⟨by (with_reducible repeat (first | refine blk_drewN ?_ _ | refine blk_drew ?_ | refine blk_alloc ?_ _)); refine blk_put (cs := #[.slice none 0 0]) ?_ 0 _ rfl; exact rX BK1037⟩; have n3_ : Aside0 (IsS114 w (w8.setCell ⟨gb1037, 0, none⟩ (.slice Ao9 t1032.length co9)) g1031 t1028 t1035 t1036) := ⟨by repeat (first | (with_reducible first | exact HI1031.out | apply IsS114.alloc | apply IsS114.drewN | apply IsS114.drew | apply IsS114.set_1 | apply IsS114.set_2 | refine IsS114.far ?_ NB1031_1027.out _ | refine IsS114.far ?_ NB1031_1037.out _) | exact HI1031.out)⟩; have n4_ : Aside0 (Below w.heap.size w (w8.setCell ⟨gb1037, 0, none⟩ (.slice Ao9 t1032.length co9))) := ⟨by exact rB HB⟩; (try clear HO1034); (try clear BK1027); (try clear BK1037); (try clear HI1031); (try clear HB); generalize (w8.setCell ⟨gb1037, 0, none⟩ (.slice Ao9 t1032.length co9)) = w13 at n0_ n1_ n2_ n3_ n4_ ⊢; have HO1034 := n0_; have BK1027 := n1_; have BK1037 := n2_; have HI1031 := n3_; have HB := n4_; clear n0_ n1_ n2_ n3_ n4_; replace HO1034 := am (Kd.N_drew HO1034.out); replace BK1027 := am (blk_drew BK1027.out); replace BK1037 := am (blk_drew BK1037.out); replace HI1031 := am (IsS114.drew HI1031.out); replace HB := am (below_drew1 HB.out)
 refine start_ (n := 6) (S := fun w' => w'.cell? ⟨gb1037, 0, none⟩ = some (.slice Ao9 t1032.length co9)) (ds := []) #[false, false, false, false, false, false] (by kernel_rfl) rfl rfl ((blk_cell BK1037.out 0).trans rfl) (fun hHeld => ?_); generalize w13.drew = w14 at HO1034 BK1027 BK1037 HI1031 HB hHeld ⊢; refine pure_ (i := 1) (N := some 11) (v := ?_) (a' := ?_) (bA 6 2) rfl rfl (by kernel_rfl) (fun _ _ _ h => h) (Or.inl ⟨by rfl, ?_⟩) ?_ ?_; rotate_left; (intro w'; go_simp; (with_reducible rfl)); rotate_left; (simp only [Act.put, qa, qz, qs, i64_w, i32_w]; rfl); refine take_ (i := 0) (N := some 10) (v := ?_) (a' := ?_) (bA 6 3) rfl rfl (by kernel_rfl) (fun _ _ _ h => h) (Or.inl ⟨by rfl, ?_⟩) hHeld ?_ ?_; rotate_left
 ·intro w' s0; go_simp; (with_reducible rfl)
 rotate_left; (simp only [Act.put, qa, qz, qs, i64_w, i32_w]; rfl); refine one_ (i := 2) (N := some 12) (bA 6 7) rfl rfl (by kernel_rfl) (by decide) (fun K hK => ?_); refine goes_ Try.func127 (by kernel_rfl) rfl #[.pointer (some ⟨g1031, 0, none⟩), .int .i64 15] (by rfl) rfl rfl (by (try simp only [mT, mC, mN]); first | done | rfl) ?_; (with_reducible refine (spec_l1Below.calls g1031 t1028 t1035 t1036 15 t1038 t1039 t1040 w _ ?side1 ?side2 A4.out).mono ?_); (case side1 => exact IsS114.m HI1031); (case side2 => exact rB HB); rintro e w15 ⟨rfl, hi, hb, hk⟩; refine ⟨_, rfl, ?_⟩; replace BK1027 := am (KeepBut.blk hk (g' := gb1027) (o := .cells #[.slice none 0 0] 28 (0, 0)) (by exact rX BK1027) NB1027_1031.out (by simp)); replace HO1034 := am (Kd.N_mono (Kd.N_keep (Kd.N_mono (ok := fun k_ => (((w.heap.size ≤ k_)) ∧ (k_ ≠ gb1027 ∧ (k_ ≠ g1031 ∧ k_ ≠ gb1037)))) (by exact rN HO1034) (fun k_ hk_ => (⟨hk_, hk_.2.2.1⟩ : _ ∧ k_ ≠ g1031))) hk (fun _ h => h.2)) (fun _ h => h.1)); replace BK1037 := am (KeepBut.blk hk (g' := gb1037) (o := .cells #[.slice Ao9 t1032.length co9] 28 (0, 0)) (by exact rX BK1037) NB1037_1031.out (by simp)); replace HB := am (hb); replace HI1031 := am (hi)
 (try clear hb); (try clear hb2); (try clear hk); (try clear hi); refine hK.out _ _ ((blk_cell BK1037.out 0).trans rfl) (fun hHeld => ?_); clear hK K; refine norm_ (a' := ?_) ?_ ?_; rotate_left; (show Act.put _ (some 12) _ = _; simp only [Act.put, qa, qz, qs, i64_w, i32_w]; rfl); refine pure_ (i := 3) (N := some 13) (v := ?_) (a' := ?_) (bA 6 15) rfl rfl (by kernel_rfl) (fun _ _ _ h => h) (Or.inl ⟨by rfl, ?_⟩) ?_ ?_; rotate_left
 ·intro w'; go_simp; (with_reducible rfl)
 rotate_left; (simp only [Act.put, qa, qz, qs, i64_w, i32_w]; rfl); refine one_ (i := 4) (N := none) (bA 6 31) rfl rfl (by kernel_rfl) (by decide) (fun K hK => ?_); have hs16 : w15.cell? ⟨gb1027, 0, none⟩ = some (.slice none 0 0) := (blk_cell BK1027.out 0).trans rfl; have hfs16 := blk_frozen BK1027.out 0; have hns16_1 := NB1037_1027.out; have hms16_1 := NB1027_1037.out; refine skip_ (w1 := ?_) (by rfl) rfl ?_ ?_; rotate_left
 ·go_simp; rfl
 refine hK.out _ _ (((cell_far (p := ⟨gb1027, _, none⟩) NB1037_1027.out _).trans (hHeld))) (fun hHeld => ?_); clear hK K; refine pure_ (i := 5) (N := some 3) (v := ?_) (a' := ?_) (bA 6 63) rfl rfl (by kernel_rfl) (fun _ _ _ h => h) (Or.inl ⟨by rfl, ?_⟩) ?_ ?_; rotate_left; (intro w'; go_simp; (with_reducible rfl)); rotate_left; (simp only [Act.put, qa, qz, qs, i64_w, i32_w]; rfl); refine done_ (by kernel_rfl) ?_
 try go_wp2
 refine bodyPost_ret (results_ct rfl _ _ gb1027 28 #[.slice Ao9 t1032.length co9] (0, 0) _ rfl (by (with_reducible repeat (first | refine blk_drewN ?_ _ | refine blk_drew ?_ | refine blk_alloc ?_ _)); refine blk_put (cs := #[.slice none 0 0]) ?_ 0 _ rfl; exact rX BK1027) Try.underlying28 rfl (by kernel_rfl)) rfl ?_; exact ⟨_, by first | rfl | (simp [errW_none, errW_some] <;> rfl) | (simp [*, errW_none, errW_some] <;> rfl), by exact xN (Kd.N_mono (Kd.N_far (p := ⟨gb1027, 0, none⟩) (Kd.N_mono HO1034.out (fun k_ hk => (⟨hk, hk.2.1⟩ : _ ∧ k_ ≠ gb1027))) (fun _ hk => hk.2) (.slice Ao9 t1032.length co9)) (fun _ hk => hk.1.1)), by exact rB HB⟩
end Go.Proofs.Ytooamcjgejajeaa.M
