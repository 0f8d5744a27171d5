/- Texts of the claim on FnPatterns, joined (part 5 of 6): walks of the functions, what they come to, and in the last part the row. No condition of mine. -/
import Derived.Test.YthkkpdgadfhijaaBFnPatterns0
import Derived.Test.YthkkpdgadfhijaaBFnPatterns1
import Derived.Test.YthkkpdgadfhijaaBFnPatterns4
import Derived.Test.YthkkpdgadfhijaaBFnPatterns3
import Derived.Laws.BitsLemmas
import Derived.Test.YthkkpdgadfhijaaBFnPatterns2
namespace Go.Proofs.Ythkkpdgadfhijaa.M
open Go.RowKit Go.Proofs.Ythkkpdgadfhijaa.KW Go.Proofs.YthkkpdgadfhijaaW.PrintWords Go.Proofs.YthkkpdgadfhijaaW.PrintLast Go.Proofs.YthkkpdgadfhijaaW.PrintMore
attribute [local go_sem] max2_int min2_int max_two min_two max_three min_three max_four min_four
set_option linter.unusedVariables false
set_option linter.unusedSimpArgs false
mutual
def laws_FnPatterns.j0 : Nat → List Int → List Int → List Int → Bool → Bool → Option (Bool)
 | 0, _, _, _, _, _ => none
 | k + 1, x0, x3, x4, x6, x79 => if x79 = true then (some false) else ((impl_AvoidsPattern.f k x3 x4).bind fun t1868 => ((spec_AvoidsPattern.f k x3 x4).bind fun t1869 => (if (t1868 != t1869) = true then (laws_FnPatterns.j1 k x0 x3 x4 t1868 true) else (if t1868 = true then (laws_FnPatterns.j1 k x0 x3 x4 t1868 x6) else (laws_FnPatterns.j1 k x0 x3 x4 t1868 false)))))
def laws_FnPatterns.j1 : Nat → List Int → List Int → List Int → Bool → Bool → Option (Bool)
 | 0, _, _, _, _, _ => none
 | k + 1, x0, x3, x4, x9, x93 => if x93 = true then (some false) else (if (x3.length : Int) ≤ 24 then ((laws_sameInts.f k x4 (([0, 0] : List Int))).bind fun t1873 => (if t1873 = true then ((spec_HasSquare.f k x3).bind fun t1874 => (laws_FnPatterns.j2 k x0 x3 x4 x9 (x9 == t1874))) else (laws_FnPatterns.j2 k x0 x3 x4 x9 false))) else (laws_FnPatterns.j2 k x0 x3 x4 x9 false))
def laws_FnPatterns.j2 : Nat → List Int → List Int → List Int → Bool → Bool → Option (Bool)
 | 0, _, _, _, _, _ => none
 | k + 1, x0, x3, x4, x9, x107 => if x107 = true then (some false) else (if x9 = true then (if (x3.length : Int) > 1 then (if 1 ≤ (x3.length : Int) then ((impl_AvoidsPattern.f k (x3.drop 1) x4).bind fun t1879 => (laws_FnPatterns.j3 k x0 (!t1879))) else (none)) else (laws_FnPatterns.j3 k x0 false)) else (laws_FnPatterns.j3 k x0 false))
def laws_FnPatterns.j3 : Nat → List Int → Bool → Option (Bool)
 | 0, _, _ => none
 | k + 1, x0, x120 => if x120 = true then (some false) else ((spec_DrawMatchAt.f k x0).bind fun bt1880 => ((spec_DrawMatchLength.f k x0).bind fun bt1890 => ((impl_MatchAt.f k bt1880.1 bt1880.2.1 bt1880.2.2.1 bt1880.2.2.2).bind fun t1896 => ((spec_MatchAt.f k bt1880.1 bt1880.2.1 bt1880.2.2.1 bt1880.2.2.2).bind fun t1897 => (if (t1896 == t1897) = true then ((impl_MatchLength.f k bt1890.1 bt1890.2).bind fun t1898 => ((spec_MatchLength.f k bt1890.1 bt1890.2).bind fun t1899 => (some (t1898 == t1899)))) else (some false))))))
end
def laws_FnPatterns.f (k : Nat) (l0 : List Int) : Option (Bool) := (laws_big.f l0).bind fun t1843 => (if t1843 = true then (some true) else ((spec_DrawFindPattern.f k l0).bind fun bt1844 => ((impl_FindPattern.f k bt1844.1 bt1844.2).bind fun bt1850 => ((spec_FindPattern.f k bt1844.1 bt1844.2).bind fun bt1856 => (if (bt1850.2.2 != bt1856.2.2) = true then (laws_FnPatterns.j0 k l0 bt1844.1 bt1844.2 bt1850.2.2 true) else (if bt1850.1 = bt1856.1 then ((laws_sameInts.f k bt1850.2.1 bt1856.2.1).bind fun t1862 => (if t1862 = true then ((impl_IsPattern.f k bt1844.2).bind fun t1863 => ((spec_IsPattern.f k bt1844.2).bind fun t1864 => (if (t1863 != t1864) = true then (laws_FnPatterns.j0 k l0 bt1844.1 bt1844.2 bt1850.2.2 true) else ((impl_IsDoubled.f k bt1844.2).bind fun t1865 => ((spec_IsDoubled.f k bt1844.2).bind fun t1866 => (if (t1865 != t1866) = true then (laws_FnPatterns.j0 k l0 bt1844.1 bt1844.2 bt1850.2.2 true) else (if bt1850.2.2 = true then ((impl_MatchAt.f k bt1844.1 bt1844.2 bt1856.1 bt1856.2.1).bind fun t1867 => (laws_FnPatterns.j0 k l0 bt1844.1 bt1844.2 bt1850.2.2 (!t1867))) else (laws_FnPatterns.j0 k l0 bt1844.1 bt1844.2 bt1850.2.2 false)))))))) else (laws_FnPatterns.j0 k l0 bt1844.1 bt1844.2 bt1850.2.2 true))) else (laws_FnPatterns.j0 k l0 bt1844.1 bt1844.2 bt1850.2.2 true)))))))
theorem laws_FnPatterns.j0_no : ∀ {k : Nat} {y0} {y1} {y2} {y3} {r : Bool}, laws_FnPatterns.j0 k y0 y1 y2 y3 true = some r → r = true → False := by
 intro k y0 y1 y2 y3 r h hr; cases k with
 | zero => simp [laws_FnPatterns.j0] at h
 | succ k => simp only [laws_FnPatterns.j0] at h; rw [if_pos trivial, hr] at h; cases h
theorem laws_FnPatterns.j1_no : ∀ {k : Nat} {y0} {y1} {y2} {y3} {r : Bool}, laws_FnPatterns.j1 k y0 y1 y2 y3 true = some r → r = true → False := by
 intro k y0 y1 y2 y3 r h hr; cases k with
 | zero => simp [laws_FnPatterns.j1] at h
 | succ k => simp only [laws_FnPatterns.j1] at h; rw [if_pos trivial, hr] at h; cases h
theorem laws_FnPatterns.j2_no : ∀ {k : Nat} {y0} {y1} {y2} {y3} {r : Bool}, laws_FnPatterns.j2 k y0 y1 y2 y3 true = some r → r = true → False := by
 intro k y0 y1 y2 y3 r h hr; cases k with
 | zero => simp [laws_FnPatterns.j2] at h
 | succ k => simp only [laws_FnPatterns.j2] at h; rw [if_pos trivial, hr] at h; cases h
theorem laws_FnPatterns.j3_no : ∀ {k : Nat} {y0} {r : Bool}, laws_FnPatterns.j3 k y0 true = some r → r = true → False := by
 intro k y0 r h hr; cases k with
 | zero => simp [laws_FnPatterns.j3] at h
 | succ k => simp only [laws_FnPatterns.j3] at h; rw [if_pos trivial, hr] at h; cases h
set_option maxHeartbeats 8000000 in
set_option maxRecDepth 100000 in
theorem laws_FnPatterns.calls (k : Nat) (A0 : Option Addr) (c0 : Nat) (l0 : List Int) (r : Bool) (w : World) (hr0 : Kd.C (Kd.int .u8) w A0 l0.length l0) (hc0 : l0.length ≤ c0) (h : laws_FnPatterns.f k l0 = some r) (hRT : r = true) :
  Calls Try.prog 12 #[.slice A0 l0.length c0] w fun e w' => e = .returned (.bool r) ∧ Below w.heap.size w w' := by
 have HRT := am hRT; clear hRT; have hu75 := Try.underlying75; have HR0 := am hr0; have HC0 := am hc0; clear hr0 hc0; have HB := am (Below.refl w.heap.size w); have H : ((laws_big.f l0).bind fun t1843 => (if t1843 = true then (some true) else ((spec_DrawFindPattern.f k l0).bind fun bt1844 => ((impl_FindPattern.f k bt1844.1 bt1844.2).bind fun bt1850 => ((spec_FindPattern.f k bt1844.1 bt1844.2).bind fun bt1856 => (if (bt1850.2.2 != bt1856.2.2) = true then (laws_FnPatterns.j0 k l0 bt1844.1 bt1844.2 bt1850.2.2 true) else (if bt1850.1 = bt1856.1 then ((laws_sameInts.f k bt1850.2.1 bt1856.2.1).bind fun t1862 => (if t1862 = true then ((impl_IsPattern.f k bt1844.2).bind fun t1863 => ((spec_IsPattern.f k bt1844.2).bind fun t1864 => (if (t1863 != t1864) = true then (laws_FnPatterns.j0 k l0 bt1844.1 bt1844.2 bt1850.2.2 true) else ((impl_IsDoubled.f k bt1844.2).bind fun t1865 => ((spec_IsDoubled.f k bt1844.2).bind fun t1866 => (if (t1865 != t1866) = true then (laws_FnPatterns.j0 k l0 bt1844.1 bt1844.2 bt1850.2.2 true) else (if bt1850.2.2 = true then ((impl_MatchAt.f k bt1844.1 bt1844.2 bt1856.1 bt1856.2.1).bind fun t1867 => (laws_FnPatterns.j0 k l0 bt1844.1 bt1844.2 bt1850.2.2 (!t1867))) else (laws_FnPatterns.j0 k l0 bt1844.1 bt1844.2 bt1850.2.2 false)))))))) else (laws_FnPatterns.j0 k l0 bt1844.1 bt1844.2 bt1850.2.2 true))) else (laws_FnPatterns.j0 k l0 bt1844.1 bt1844.2 bt1850.2.2 true)))))))) = some r := h; clear h; replace H := bE H; obtain ⟨t1843, A20, H⟩ := H; replace H : (if t1843 = true then (some true) else ((spec_DrawFindPattern.f k l0).bind fun bt1844 => ((impl_FindPattern.f k bt1844.1 bt1844.2).bind fun bt1850 => ((spec_FindPattern.f k bt1844.1 bt1844.2).bind fun bt1856 => (if (bt1850.2.2 != bt1856.2.2) = true then (laws_FnPatterns.j0 k l0 bt1844.1 bt1844.2 bt1850.2.2 true) else (if bt1850.1 = bt1856.1 then ((laws_sameInts.f k bt1850.2.1 bt1856.2.1).bind fun t1862 => (if t1862 = true then ((impl_IsPattern.f k bt1844.2).bind fun t1863 => ((spec_IsPattern.f k bt1844.2).bind fun t1864 => (if (t1863 != t1864) = true then (laws_FnPatterns.j0 k l0 bt1844.1 bt1844.2 bt1850.2.2 true) else ((impl_IsDoubled.f k bt1844.2).bind fun t1865 => ((spec_IsDoubled.f k bt1844.2).bind fun t1866 => (if (t1865 != t1866) = true then (laws_FnPatterns.j0 k l0 bt1844.1 bt1844.2 bt1850.2.2 true) else (if bt1850.2.2 = true then ((impl_MatchAt.f k bt1844.1 bt1844.2 bt1856.1 bt1856.2.1).bind fun t1867 => (laws_FnPatterns.j0 k l0 bt1844.1 bt1844.2 bt1850.2.2 (!t1867))) else (laws_FnPatterns.j0 k l0 bt1844.1 bt1844.2 bt1850.2.2 false)))))))) else (laws_FnPatterns.j0 k l0 bt1844.1 bt1844.2 bt1850.2.2 true))) else (laws_FnPatterns.j0 k l0 bt1844.1 bt1844.2 bt1850.2.2 true))))))) = some r := H; have A2 := am A20; clear A20; by_cases c3 : t1843 = true
 ·subst c3; have H1 : (some true) = some r := by rw [if_pos rfl] at H; exact H
  clear H; have H := H1; clear H1; obtain rfl := Option.some.inj H; go_enter Try.func12, Try.ntmps12; go_wp2_with (first | ((with_reducible refine gate_callee (f := 19) rfl ?_); refine goesL_ (some 17) rfl rfl Try.func19 (by kernel_rfl) rfl #[.slice A0 l0.length c0] rfl (by (try simp only [mT, mC, mN]); first | done | rfl) ?_; (with_reducible refine (laws_big.calls _ _ l0 true _ ?side1 ?side2 A2.out).mono ?_); (case side1 => exact xC (HR0.out)); (case side2 => exact HC0.out); rintro e w' ⟨rfl, ⟨nd, rfl⟩⟩; refine ⟨_, rfl, ?_⟩)); go_ret; exact ⟨by first | rfl | (simp [errW_none, errW_some] <;> rfl) | (simp [*, errW_none, errW_some] <;> rfl), by exact rB HB⟩
 ·replace c3 := Bool.eq_false_iff.mpr c3; subst c3; have H1 : ((spec_DrawFindPattern.f k l0).bind fun bt1844 => ((impl_FindPattern.f k bt1844.1 bt1844.2).bind fun bt1850 => ((spec_FindPattern.f k bt1844.1 bt1844.2).bind fun bt1856 => (if (bt1850.2.2 != bt1856.2.2) = true then (laws_FnPatterns.j0 k l0 bt1844.1 bt1844.2 bt1850.2.2 true) else (if bt1850.1 = bt1856.1 then ((laws_sameInts.f k bt1850.2.1 bt1856.2.1).bind fun t1862 => (if t1862 = true then ((impl_IsPattern.f k bt1844.2).bind fun t1863 => ((spec_IsPattern.f k bt1844.2).bind fun t1864 => (if (t1863 != t1864) = true then (laws_FnPatterns.j0 k l0 bt1844.1 bt1844.2 bt1850.2.2 true) else ((impl_IsDoubled.f k bt1844.2).bind fun t1865 => ((spec_IsDoubled.f k bt1844.2).bind fun t1866 => (if (t1865 != t1866) = true then (laws_FnPatterns.j0 k l0 bt1844.1 bt1844.2 bt1850.2.2 true) else (if bt1850.2.2 = true then ((impl_MatchAt.f k bt1844.1 bt1844.2 bt1856.1 bt1856.2.1).bind fun t1867 => (laws_FnPatterns.j0 k l0 bt1844.1 bt1844.2 bt1850.2.2 (!t1867))) else (laws_FnPatterns.j0 k l0 bt1844.1 bt1844.2 bt1850.2.2 false)))))))) else (laws_FnPatterns.j0 k l0 bt1844.1 bt1844.2 bt1850.2.2 true))) else (laws_FnPatterns.j0 k l0 bt1844.1 bt1844.2 bt1850.2.2 true)))))) = some r := by rw [if_neg (show ¬ (false = true) by decide)] at H; exact H
  clear H; have H := H1; clear H1; replace H := bE H; obtain ⟨⟨t1844, t1845⟩, A40, H⟩ := H; replace H : ((impl_FindPattern.f k t1844 t1845).bind fun bt1850 => ((spec_FindPattern.f k t1844 t1845).bind fun bt1856 => (if (bt1850.2.2 != bt1856.2.2) = true then (laws_FnPatterns.j0 k l0 t1844 t1845 bt1850.2.2 true) else (if bt1850.1 = bt1856.1 then ((laws_sameInts.f k bt1850.2.1 bt1856.2.1).bind fun t1862 => (if t1862 = true then ((impl_IsPattern.f k t1845).bind fun t1863 => ((spec_IsPattern.f k t1845).bind fun t1864 => (if (t1863 != t1864) = true then (laws_FnPatterns.j0 k l0 t1844 t1845 bt1850.2.2 true) else ((impl_IsDoubled.f k t1845).bind fun t1865 => ((spec_IsDoubled.f k t1845).bind fun t1866 => (if (t1865 != t1866) = true then (laws_FnPatterns.j0 k l0 t1844 t1845 bt1850.2.2 true) else (if bt1850.2.2 = true then ((impl_MatchAt.f k t1844 t1845 bt1856.1 bt1856.2.1).bind fun t1867 => (laws_FnPatterns.j0 k l0 t1844 t1845 bt1850.2.2 (!t1867))) else (laws_FnPatterns.j0 k l0 t1844 t1845 bt1850.2.2 false)))))))) else (laws_FnPatterns.j0 k l0 t1844 t1845 bt1850.2.2 true))) else (laws_FnPatterns.j0 k l0 t1844 t1845 bt1850.2.2 true))))) = some r := H; have A4 := am A40; clear A40; replace H := bE H; obtain ⟨⟨t1850, t1851, t1854⟩, A50, H⟩ := H; replace H : ((spec_FindPattern.f k t1844 t1845).bind fun bt1856 => (if (t1854 != bt1856.2.2) = true then (laws_FnPatterns.j0 k l0 t1844 t1845 t1854 true) else (if t1850 = bt1856.1 then ((laws_sameInts.f k t1851 bt1856.2.1).bind fun t1862 => (if t1862 = true then ((impl_IsPattern.f k t1845).bind fun t1863 => ((spec_IsPattern.f k t1845).bind fun t1864 => (if (t1863 != t1864) = true then (laws_FnPatterns.j0 k l0 t1844 t1845 t1854 true) else ((impl_IsDoubled.f k t1845).bind fun t1865 => ((spec_IsDoubled.f k t1845).bind fun t1866 => (if (t1865 != t1866) = true then (laws_FnPatterns.j0 k l0 t1844 t1845 t1854 true) else (if t1854 = true then ((impl_MatchAt.f k t1844 t1845 bt1856.1 bt1856.2.1).bind fun t1867 => (laws_FnPatterns.j0 k l0 t1844 t1845 t1854 (!t1867))) else (laws_FnPatterns.j0 k l0 t1844 t1845 t1854 false)))))))) else (laws_FnPatterns.j0 k l0 t1844 t1845 t1854 true))) else (laws_FnPatterns.j0 k l0 t1844 t1845 t1854 true)))) = some r := H; have A5 := am A50; clear A50; replace H := bE H; obtain ⟨⟨t1856, t1857, t1860⟩, A60, H⟩ := H; replace H : (if (t1854 != t1860) = true then (laws_FnPatterns.j0 k l0 t1844 t1845 t1854 true) else (if t1850 = t1856 then ((laws_sameInts.f k t1851 t1857).bind fun t1862 => (if t1862 = true then ((impl_IsPattern.f k t1845).bind fun t1863 => ((spec_IsPattern.f k t1845).bind fun t1864 => (if (t1863 != t1864) = true then (laws_FnPatterns.j0 k l0 t1844 t1845 t1854 true) else ((impl_IsDoubled.f k t1845).bind fun t1865 => ((spec_IsDoubled.f k t1845).bind fun t1866 => (if (t1865 != t1866) = true then (laws_FnPatterns.j0 k l0 t1844 t1845 t1854 true) else (if t1854 = true then ((impl_MatchAt.f k t1844 t1845 t1856 t1857).bind fun t1867 => (laws_FnPatterns.j0 k l0 t1844 t1845 t1854 (!t1867))) else (laws_FnPatterns.j0 k l0 t1844 t1845 t1854 false)))))))) else (laws_FnPatterns.j0 k l0 t1844 t1845 t1854 true))) else (laws_FnPatterns.j0 k l0 t1844 t1845 t1854 true))) = some r := H; have A6 := am A60; clear A60; have HC7 := am H; clear H; go_enter Try.func12, Try.ntmps12; go_upto_region 6 with (first | ((with_reducible refine gate_callee (f := 19) rfl ?_); refine goesL_ (some 17) rfl rfl Try.func19 (by kernel_rfl) rfl #[.slice A0 l0.length c0] rfl (by (try simp only [mT, mC, mN]); first | done | rfl) ?_; (with_reducible refine (laws_big.calls _ _ l0 false _ ?side1 ?side2 A2.out).mono ?_); (case side1 => exact xC (HR0.out)); (case side2 => exact HC0.out); rintro e w' ⟨rfl, ⟨nd, rfl⟩⟩; refine ⟨_, rfl, ?_⟩) | ((with_reducible refine gate_callee (f := 59) rfl ?_); refine goesL_ (some 20) rfl rfl Try.func59 (by kernel_rfl) rfl #[.slice A0 l0.length c0] rfl (by (try simp only [mT, mC, mN]); first | done | rfl) ?_; (with_reducible refine (spec_DrawFindPattern.calls k _ _ l0 t1844 t1845 _ ?side1 ?side2 A4.out).mono ?_); (case side1 => exact xC (HR0.out)); (case side2 => exact HC0.out); rintro e w8 ⟨v1846, v1848, rfl, ho0, ho1, hb⟩; refine ⟨_, rfl, ?_⟩; have HO1847 := am (Kd.R_lower ho0 (bZ HB)); have HO1849 := am (Kd.R_lower ho1 (bZ HB)); replace HB := bS HB hb; clear hb ho0 ho1; obtain ⟨Ao9, co9, eo9⟩ := Kd.R_slice HO1847.out; subst eo9; obtain ⟨Ao10, co10, eo10⟩ := Kd.R_slice HO1849.out; subst eo10) | ((with_reducible refine gate_callee (f := 60) rfl ?_); refine goesL_ (some 26) rfl rfl Try.func60 (by kernel_rfl) rfl #[.slice Ao9 t1844.length co9, .slice Ao10 t1845.length co10] rfl (by (try simp only [mT, mC, mN]); first | done | rfl) ?_; (with_reducible refine (impl_FindPattern.calls k _ _ t1844 _ _ t1845 t1850 t1851 t1854 _ ?side1 ?side2 ?side3 ?side4 A5.out).mono ?_); (case side1 => exact xC ((Kd.R_reads' HO1847.out).2.2)); (case side2 => exact (Kd.R_reads' HO1847.out).2.1); (case side3 => exact xC ((Kd.R_reads' HO1849.out).2.2)); (case side4 => exact (Kd.R_reads' HO1849.out).2.1); rintro e w11 ⟨v1852, rfl, ho0, hb⟩; refine ⟨_, rfl, ?_⟩; have HO1853 := am (Kd.R_lower (Kd.R_new' (Kd.R_new' ho0 (Kd.R_lt (by exact rR HO1847))) (Kd.R_lt (by exact rR HO1849))) (bZ HB)); replace HO1847 := am (Kd.R_elder' (by exact rR HO1847) (Kd.R_base ho0) hb); replace HO1849 := am (Kd.R_elder' (by exact rR HO1849) (Kd.R_base ho0) hb); replace HB := bS HB hb; clear hb ho0) | ((with_reducible refine gate_dst (N := 5) rfl ?_); (try (refine gate_guard (by rfl) ?_; dsimp only)); refine box_event ?hg (N := 5) ?hd (cs := #[.int .i64 0, .slice none 0 0]) (t := 75) ?hr ?_; (case hd | hg => rfl); (case hr => go_simp <;> rfl); intro gb1855 hg w12 hbox hb; replace HO1847 := am (Kd.R_below (by exact rR HO1847) hb); replace HO1849 := am (Kd.R_below (by exact rR HO1849) hb); replace HO1853 := am (Kd.R_below (by exact rR HO1853) hb); have BK1855 := am (hbox); have GW1855 := am ((by rw [hg]; exact (bZ HB) : w.heap.size ≤ gb1855)); have GE1855 := am ((by rw [hg]; exact (bZ HB) : w.heap.size ≤ gb1855)); replace HB := bS HB hb; have qW1855 := Ge.mk GW1855.out; have qE1855 := Ge.mk GE1855.out; clear hb hbox hg; have hcz13_0 := z20 BK1855; have hcz13_1 := z21 BK1855; have hfz13_0 := blk_frozen BK1855.out 0; have hfz13_1 := blk_frozen BK1855.out 1; obtain ⟨Ao14, co14, eo14⟩ := Kd.R_slice HO1853.out; subst eo14) | ((with_reducible refine gate_callee (f := 61) rfl ?_); refine goesL_ (some 32) rfl rfl Try.func61 (by kernel_rfl) rfl #[.slice Ao9 t1844.length co9, .slice Ao10 t1845.length co10] rfl (by (try simp only [mT, mC, mN]); first | done | rfl) ?_; (with_reducible refine (spec_FindPattern.calls k _ _ t1844 _ _ t1845 t1856 t1857 t1860 _ ?side1 ?side2 ?side3 ?side4 A6.out).mono ?_); (case side1 => refine (Kd.R_reads' (e := 3) (base := w.heap.size) (ok := fun k_ => (some k_ ≠ (.slice Ao10 t1845.length co10 : Value).ownBlock ∧ some k_ ≠ (.slice Ao14 t1851.length co14 : Value).ownBlock)) (n := t1844.length) (c := co9) ?_).2.2; exact (by exact xR ((Kd.R_mono (Kd.R_far (p := ⟨gb1855, 1, none⟩) (Kd.R_far (p := ⟨gb1855, 0, none⟩) (Kd.R_types HO1847.out BK1855.out (by decide)) (fun _ hk => hk.2) (.int .i64 t1850)) (fun _ hk => hk.2) (.slice Ao14 t1851.length co14)) (fun _ h_ => h_.1))))); (case side2 => exact (Kd.R_reads' HO1847.out).2.1); (case side3 => refine (Kd.R_reads' (e := 3) (base := w.heap.size) (ok := fun k_ => (some k_ ≠ (.slice Ao9 t1844.length co9 : Value).ownBlock ∧ some k_ ≠ (.slice Ao14 t1851.length co14 : Value).ownBlock)) (n := t1845.length) (c := co10) ?_).2.2; exact (by exact xR ((Kd.R_mono (Kd.R_far (p := ⟨gb1855, 1, none⟩) (Kd.R_far (p := ⟨gb1855, 0, none⟩) (Kd.R_types HO1849.out BK1855.out (by decide)) (fun _ hk => hk.2) (.int .i64 t1850)) (fun _ hk => hk.2) (.slice Ao14 t1851.length co14)) (fun _ h_ => h_.1))))); (case side4 => exact (Kd.R_reads' HO1849.out).2.1); rintro e w15 ⟨v1858, rfl, ho0, hb⟩; refine ⟨_, rfl, ?_⟩; have HO1859 := am (Kd.R_lower (Kd.R_new' (Kd.R_new' (Kd.R_new' ho0 (Kd.R_lt (by exact xR ((Kd.R_mono (Kd.R_far (p := ⟨gb1855, 1, none⟩) (Kd.R_far (p := ⟨gb1855, 0, none⟩) (Kd.R_types HO1847.out BK1855.out (by decide)) (fun _ hk => hk.2) (.int .i64 t1850)) (fun _ hk => hk.2) (.slice Ao14 t1851.length co14)) (fun _ h_ => h_.1)))))) (Kd.R_lt (by exact xR ((Kd.R_mono (Kd.R_far (p := ⟨gb1855, 1, none⟩) (Kd.R_far (p := ⟨gb1855, 0, none⟩) (Kd.R_types HO1849.out BK1855.out (by decide)) (fun _ hk => hk.2) (.int .i64 t1850)) (fun _ hk => hk.2) (.slice Ao14 t1851.length co14)) (fun _ h_ => h_.1)))))) (Kd.R_lt (by exact xR ((Kd.R_mono (Kd.R_far (p := ⟨gb1855, 1, none⟩) (Kd.R_far (p := ⟨gb1855, 0, none⟩) (Kd.R_types HO1853.out BK1855.out (by decide)) (fun _ hk => hk.2) (.int .i64 t1850)) (fun _ hk => hk.2) (.slice Ao14 t1851.length co14)) (fun _ h_ => h_.1)))))) (bZ HB)); replace HO1847 := am (Kd.R_elder' (by exact xR ((Kd.R_mono (Kd.R_far (p := ⟨gb1855, 1, none⟩) (Kd.R_far (p := ⟨gb1855, 0, none⟩) (Kd.R_types HO1847.out BK1855.out (by decide)) (fun _ hk => hk.2) (.int .i64 t1850)) (fun _ hk => hk.2) (.slice Ao14 t1851.length co14)) (fun _ h_ => h_.1)))) (Kd.R_base ho0) hb); replace HO1849 := am (Kd.R_elder' (by exact xR ((Kd.R_mono (Kd.R_far (p := ⟨gb1855, 1, none⟩) (Kd.R_far (p := ⟨gb1855, 0, none⟩) (Kd.R_types HO1849.out BK1855.out (by decide)) (fun _ hk => hk.2) (.int .i64 t1850)) (fun _ hk => hk.2) (.slice Ao14 t1851.length co14)) (fun _ h_ => h_.1)))) (Kd.R_base ho0) hb); replace HO1853 := am (Kd.R_elder' (by exact xR ((Kd.R_mono (Kd.R_far (p := ⟨gb1855, 1, none⟩) (Kd.R_far (p := ⟨gb1855, 0, none⟩) (Kd.R_types HO1853.out BK1855.out (by decide)) (fun _ hk => hk.2) (.int .i64 t1850)) (fun _ hk => hk.2) (.slice Ao14 t1851.length co14)) (fun _ h_ => h_.1)))) (Kd.R_base ho0) hb); replace BK1855 := am (blk_below (g := gb1855) (o := .cells #[.int .i64 t1850, .slice Ao14 t1851.length co14] 75 (0, 0)) (by (with_reducible repeat (first | refine blk_drewN ?_ _ | refine blk_drew ?_ | refine blk_alloc ?_ _)); refine blk_put (cs := #[.int .i64 t1850, .slice none 0 0]) ?_ 1 _ rfl; (with_reducible repeat (first | refine blk_drewN ?_ _ | refine blk_drew ?_ | refine blk_alloc ?_ _)); refine blk_put (cs := #[.int .i64 0, .slice none 0 0]) ?_ 0 _ rfl; exact rX BK1855) hb); replace HB := bS HB hb; clear hb ho0) | ((with_reducible refine gate_dst (N := 7) rfl ?_); (try (refine gate_guard (by rfl) ?_; dsimp only)); refine box_event ?hg (N := 7) ?hd (cs := #[.int .i64 0, .slice none 0 0]) (t := 75) ?hr ?_; (case hd | hg => rfl); (case hr => go_simp <;> rfl); intro gb1861 hg w16 hbox hb; replace HO1847 := am (Kd.R_below (by exact rR HO1847) hb); replace HO1849 := am (Kd.R_below (by exact rR HO1849) hb); replace HO1853 := am (Kd.R_below (by exact rR HO1853) hb); replace HO1859 := am (Kd.R_below (by exact rR HO1859) hb); have BK1861 := am (hbox); have GW1861 := am ((by rw [hg]; exact (bZ HB) : w.heap.size ≤ gb1861)); have GE1861 := am ((by rw [hg]; exact (bZ HB) : w.heap.size ≤ gb1861)); replace HB := bS HB hb; have NB1855_1861 := am ((by rw [hg]; exact Nat.ne_of_lt (blk_lt (g := gb1855) (o := .cells #[.int .i64 t1850, .slice Ao14 t1851.length co14] 75 (0, 0)) (by exact rX BK1855)) : gb1855 ≠ gb1861)); have NB1861_1855 := am ((by rw [hg]; exact Nat.ne_of_gt (blk_lt (g := gb1855) (o := .cells #[.int .i64 t1850, .slice Ao14 t1851.length co14] 75 (0, 0)) (by exact rX BK1855)) : gb1861 ≠ gb1855)); replace BK1855 := bK BK1855 hb; have qW1861 := Ge.mk GW1861.out; have qE1861 := Ge.mk GE1861.out; clear hb hbox hg; have hnb17 := NB1861_1855.out; have hnc17 := NB1855_1861.out; have hcz18_0 := z20 BK1861; have hcz18_1 := z21 BK1861; have hfz18_0 := blk_frozen BK1861.out 0; have hfz18_1 := blk_frozen BK1861.out 1; obtain ⟨Ao19, co19, eo19⟩ := Kd.R_slice HO1859.out; subst eo19)); (try simp only [Act.put, qa, qz, qs]); go_cut [79] (fun v79 wc => ∃ (kq : Nat) (x79_6 : Bool), v79 = .bool x79_6 ∧ Aside0 (laws_FnPatterns.j0 kq l0 t1844 t1845 t1854 x79_6 = some r) ∧ Aside0 (kq ≤ k) ∧ Aside0 (Kd.R (Kd.int .i64) 3 wc w.heap.size (fun k_ => some k_ ≠ ((.slice Ao10 t1845.length co10) : Value).ownBlock ∧ some k_ ≠ ((.slice Ao14 t1851.length co14) : Value).ownBlock ∧ some k_ ≠ ((.slice Ao19 t1857.length co19) : Value).ownBlock) (.slice Ao9 t1844.length co9) t1844) ∧ Aside0 (Kd.R (Kd.int .i64) 3 wc w.heap.size (fun k_ => some k_ ≠ ((.slice Ao9 t1844.length co9) : Value).ownBlock ∧ some k_ ≠ ((.slice Ao14 t1851.length co14) : Value).ownBlock ∧ some k_ ≠ ((.slice Ao19 t1857.length co19) : Value).ownBlock) (.slice Ao10 t1845.length co10) t1845) ∧ Aside0 (Kd.R (Kd.int .i64) 3 wc w.heap.size (fun k_ => some k_ ≠ ((.slice Ao9 t1844.length co9) : Value).ownBlock ∧ some k_ ≠ ((.slice Ao10 t1845.length co10) : Value).ownBlock ∧ some k_ ≠ ((.slice Ao19 t1857.length co19) : Value).ownBlock) (.slice Ao14 t1851.length co14) t1851) ∧ Aside0 (Kd.R (Kd.int .i64) 3 wc w.heap.size (fun k_ => some k_ ≠ ((.slice Ao9 t1844.length co9) : Value).ownBlock ∧ some k_ ≠ ((.slice Ao10 t1845.length co10) : Value).ownBlock ∧ some k_ ≠ ((.slice Ao14 t1851.length co14) : Value).ownBlock) (.slice Ao19 t1857.length co19) t1857) ∧ Aside0 (wc.heap[gb1855]? = some (.cells #[.int .i64 t1850, (.slice Ao14 t1851.length co14)] 75 (0, 0))) ∧ Aside0 (wc.heap[gb1861]? = some (.cells #[.int .i64 t1856, (.slice Ao19 t1857.length co19)] 75 (0, 0))) ∧ Aside0 (Below w.heap.size w wc))
  case first =>
   have H := HC7.out; clear HC7; by_cases c20 : (t1854 != t1860) = true
   ·rw [if_pos c20] at H; have c20b0 : (t1854 != t1860) = true := c20; (try (have c20b1 : decide (t1854 = t1860) = false := by simpa using c20)); (try (have c20b2 : (t1854 == t1860) = false := by simpa using c20)); (try (have c20b3 : ¬ (t1854 = t1860) := by simpa using c20)); clear c20
    (first | rw [c20b0] | (simp only [i64_w, i32_w]; rw [c20b0]) | skip)
    first | exact (laws_FnPatterns.j0_no H HRT.out).elim | exact (laws_FnPatterns.j1_no H HRT.out).elim | exact (laws_FnPatterns.j2_no H HRT.out).elim | exact (laws_FnPatterns.j3_no H HRT.out).elim
   ·rw [if_neg c20] at H; have c20b0 : (t1854 != t1860) = false := by simpa using c20
    (try (have c20b1 : decide (t1854 = t1860) = true := by simpa using c20)); (try (have c20b2 : (t1854 == t1860) = true := by simpa using c20)); clear c20
    (first | rw [c20b0] | (simp only [i64_w, i32_w]; rw [c20b0]) | skip)
    by_cases c21 : t1850 = t1856
    ·rw [if_pos c21] at H; have c21b0 : (t1850 == t1856) = true := beq_iff_eq.mpr c21; have c21b1 : (t1850 != t1856) = false := bne_eq_false_iff_eq.mpr c21; clear c21; replace H := bE H; obtain ⟨t1862, A220, H⟩ := H; replace H : (if t1862 = true then ((impl_IsPattern.f k t1845).bind fun t1863 => ((spec_IsPattern.f k t1845).bind fun t1864 => (if (t1863 != t1864) = true then (laws_FnPatterns.j0 k l0 t1844 t1845 t1854 true) else ((impl_IsDoubled.f k t1845).bind fun t1865 => ((spec_IsDoubled.f k t1845).bind fun t1866 => (if (t1865 != t1866) = true then (laws_FnPatterns.j0 k l0 t1844 t1845 t1854 true) else (if t1854 = true then ((impl_MatchAt.f k t1844 t1845 t1856 t1857).bind fun t1867 => (laws_FnPatterns.j0 k l0 t1844 t1845 t1854 (!t1867))) else (laws_FnPatterns.j0 k l0 t1844 t1845 t1854 false)))))))) else (laws_FnPatterns.j0 k l0 t1844 t1845 t1854 true)) = some r := H; have A22 := am A220; clear A220; by_cases c23 : t1862 = true
     ·subst c23; have H1 : ((impl_IsPattern.f k t1845).bind fun t1863 => ((spec_IsPattern.f k t1845).bind fun t1864 => (if (t1863 != t1864) = true then (laws_FnPatterns.j0 k l0 t1844 t1845 t1854 true) else ((impl_IsDoubled.f k t1845).bind fun t1865 => ((spec_IsDoubled.f k t1845).bind fun t1866 => (if (t1865 != t1866) = true then (laws_FnPatterns.j0 k l0 t1844 t1845 t1854 true) else (if t1854 = true then ((impl_MatchAt.f k t1844 t1845 t1856 t1857).bind fun t1867 => (laws_FnPatterns.j0 k l0 t1844 t1845 t1854 (!t1867))) else (laws_FnPatterns.j0 k l0 t1844 t1845 t1854 false)))))))) = some r := by rw [if_pos rfl] at H; exact H
      clear H; have H := H1; clear H1; replace H := bE H; obtain ⟨t1863, A240, H⟩ := H; replace H : ((spec_IsPattern.f k t1845).bind fun t1864 => (if (t1863 != t1864) = true then (laws_FnPatterns.j0 k l0 t1844 t1845 t1854 true) else ((impl_IsDoubled.f k t1845).bind fun t1865 => ((spec_IsDoubled.f k t1845).bind fun t1866 => (if (t1865 != t1866) = true then (laws_FnPatterns.j0 k l0 t1844 t1845 t1854 true) else (if t1854 = true then ((impl_MatchAt.f k t1844 t1845 t1856 t1857).bind fun t1867 => (laws_FnPatterns.j0 k l0 t1844 t1845 t1854 (!t1867))) else (laws_FnPatterns.j0 k l0 t1844 t1845 t1854 false))))))) = some r := H; have A24 := am A240; clear A240; replace H := bE H; obtain ⟨t1864, A250, H⟩ := H; replace H : (if (t1863 != t1864) = true then (laws_FnPatterns.j0 k l0 t1844 t1845 t1854 true) else ((impl_IsDoubled.f k t1845).bind fun t1865 => ((spec_IsDoubled.f k t1845).bind fun t1866 => (if (t1865 != t1866) = true then (laws_FnPatterns.j0 k l0 t1844 t1845 t1854 true) else (if t1854 = true then ((impl_MatchAt.f k t1844 t1845 t1856 t1857).bind fun t1867 => (laws_FnPatterns.j0 k l0 t1844 t1845 t1854 (!t1867))) else (laws_FnPatterns.j0 k l0 t1844 t1845 t1854 false)))))) = some r := H; have A25 := am A250; clear A250; by_cases c26 : (t1863 != t1864) = true
      ·rw [if_pos c26] at H; have c26b0 : (t1863 != t1864) = true := c26; (try (have c26b1 : decide (t1863 = t1864) = false := by simpa using c26)); (try (have c26b2 : (t1863 == t1864) = false := by simpa using c26)); (try (have c26b3 : ¬ (t1863 = t1864) := by simpa using c26)); clear c26
       first | exact (laws_FnPatterns.j0_no H HRT.out).elim | exact (laws_FnPatterns.j1_no H HRT.out).elim | exact (laws_FnPatterns.j2_no H HRT.out).elim | exact (laws_FnPatterns.j3_no H HRT.out).elim
      ·rw [if_neg c26] at H; have c26b0 : (t1863 != t1864) = false := by simpa using c26
       (try (have c26b1 : decide (t1863 = t1864) = true := by simpa using c26)); (try (have c26b2 : (t1863 == t1864) = true := by simpa using c26)); clear c26; replace H := bE H; obtain ⟨t1865, A300, H⟩ := H; replace H : ((spec_IsDoubled.f k t1845).bind fun t1866 => (if (t1865 != t1866) = true then (laws_FnPatterns.j0 k l0 t1844 t1845 t1854 true) else (if t1854 = true then ((impl_MatchAt.f k t1844 t1845 t1856 t1857).bind fun t1867 => (laws_FnPatterns.j0 k l0 t1844 t1845 t1854 (!t1867))) else (laws_FnPatterns.j0 k l0 t1844 t1845 t1854 false)))) = some r := H; have A30 := am A300; clear A300; replace H := bE H; obtain ⟨t1866, A310, H⟩ := H; replace H : (if (t1865 != t1866) = true then (laws_FnPatterns.j0 k l0 t1844 t1845 t1854 true) else (if t1854 = true then ((impl_MatchAt.f k t1844 t1845 t1856 t1857).bind fun t1867 => (laws_FnPatterns.j0 k l0 t1844 t1845 t1854 (!t1867))) else (laws_FnPatterns.j0 k l0 t1844 t1845 t1854 false))) = some r := H; have A31 := am A310; clear A310; by_cases c32 : (t1865 != t1866) = true
       ·rw [if_pos c32] at H; have c32b0 : (t1865 != t1866) = true := c32; (try (have c32b1 : decide (t1865 = t1866) = false := by simpa using c32)); (try (have c32b2 : (t1865 == t1866) = false := by simpa using c32)); (try (have c32b3 : ¬ (t1865 = t1866) := by simpa using c32)); clear c32
        first | exact (laws_FnPatterns.j0_no H HRT.out).elim | exact (laws_FnPatterns.j1_no H HRT.out).elim | exact (laws_FnPatterns.j2_no H HRT.out).elim | exact (laws_FnPatterns.j3_no H HRT.out).elim
       ·rw [if_neg c32] at H; have c32b0 : (t1865 != t1866) = false := by simpa using c32
        (try (have c32b1 : decide (t1865 = t1866) = true := by simpa using c32)); (try (have c32b2 : (t1865 == t1866) = true := by simpa using c32)); clear c32; by_cases c37 : t1854 = true
        ·subst c37; have H1 : ((impl_MatchAt.f k t1844 t1845 t1856 t1857).bind fun t1867 => (laws_FnPatterns.j0 k l0 t1844 t1845 true (!t1867))) = some r := by rw [if_pos rfl] at H; exact H
         clear H; have H := H1; clear H1; replace H := bE H; obtain ⟨t1867, A380, H⟩ := H; replace H : (laws_FnPatterns.j0 k l0 t1844 t1845 true (!t1867)) = some r := H; have A38 := am A380; clear A380; have H' := am H; clear H; have hnb39 := NB1855_1861.out; have hnc39 := NB1861_1855.out; have hcz40_0 := z20 BK1855; have hcz40_1 := z21 BK1855; have hfz40_0 := blk_frozen BK1855.out 0; have hfz40_1 := blk_frozen BK1855.out 1; have hcz41_0 := z20 BK1861; have hcz41_1 := z21 BK1861; have hfz41_0 := blk_frozen BK1861.out 0; have hfz41_1 := blk_frozen BK1861.out 1; go_wp2_with (first | (go_at_call 36; (with_reducible refine (laws_sameInts.calls k _ _ t1851 _ _ t1857 true _ ?side1 ?side2 ?side3 ?side4 A22.out).mono ?_); (case side1 => refine (Kd.R_reads' (e := 3) (base := w.heap.size) (ok := fun k_ => (((True ∧ some k_ ≠ (.slice Ao9 t1844.length co9 : Value).ownBlock) ∧ some k_ ≠ (.slice Ao10 t1845.length co10 : Value).ownBlock) ∧ some k_ ≠ (.slice Ao19 t1857.length co19 : Value).ownBlock)) (n := t1851.length) (c := co14) ?_).2.2; exact (by exact xR ((Kd.R_mono (Kd.R_far (p := ⟨gb1861, 1, none⟩) (Kd.R_far (p := ⟨gb1861, 0, none⟩) (Kd.R_types HO1853.out BK1861.out (by decide)) (fun _ hk => hk.2) (.int .i64 t1856)) (fun _ hk => hk.2) (.slice Ao19 t1857.length co19)) (fun _ h_ => h_.1))))); (case side2 => exact (Kd.R_reads' HO1853.out).2.1); (case side3 => refine (Kd.R_reads' (e := 3) (base := w.heap.size) (ok := fun k_ => (((True ∧ some k_ ≠ (.slice Ao9 t1844.length co9 : Value).ownBlock) ∧ some k_ ≠ (.slice Ao10 t1845.length co10 : Value).ownBlock) ∧ some k_ ≠ (.slice Ao14 t1851.length co14 : Value).ownBlock)) (n := t1857.length) (c := co19) ?_).2.2; exact (by exact xR ((Kd.R_mono (Kd.R_far (p := ⟨gb1861, 1, none⟩) (Kd.R_far (p := ⟨gb1861, 0, none⟩) (Kd.R_types HO1859.out BK1861.out (by decide)) (fun _ hk => hk.2) (.int .i64 t1856)) (fun _ hk => hk.2) (.slice Ao19 t1857.length co19)) (fun _ h_ => h_.1))))); (case side4 => exact (Kd.R_reads' HO1859.out).2.1); rintro e w' ⟨rfl, ⟨nd, rfl⟩⟩) | (go_at_call 62; (with_reducible refine (impl_IsPattern.calls k _ _ t1845 t1863 _ ?side1 ?side2 A24.out).mono ?_); (case side1 => refine (Kd.R_reads' (e := 3) (base := w.heap.size) (ok := fun k_ => ((some k_ ≠ (.slice Ao9 t1844.length co9 : Value).ownBlock ∧ some k_ ≠ (.slice Ao14 t1851.length co14 : Value).ownBlock) ∧ some k_ ≠ (.slice Ao19 t1857.length co19 : Value).ownBlock)) (n := t1845.length) (c := co10) ?_).2.2; exact (by exact xR ((Kd.R_mono (Kd.R_far (p := ⟨gb1861, 1, none⟩) (Kd.R_far (p := ⟨gb1861, 0, none⟩) (Kd.R_types HO1849.out BK1861.out (by decide)) (fun _ hk => hk.2) (.int .i64 t1856)) (fun _ hk => hk.2) (.slice Ao19 t1857.length co19)) (fun _ h_ => h_.1))))); (case side2 => exact (Kd.R_reads' HO1849.out).2.1); rintro e w' ⟨rfl, ⟨nd, rfl⟩⟩) | (go_at_call 63; (with_reducible refine (spec_IsPattern.calls k _ _ t1845 t1864 _ ?side1 ?side2 A25.out).mono ?_); (case side1 => refine (Kd.R_reads' (e := 3) (base := w.heap.size) (ok := fun k_ => ((some k_ ≠ (.slice Ao9 t1844.length co9 : Value).ownBlock ∧ some k_ ≠ (.slice Ao14 t1851.length co14 : Value).ownBlock) ∧ some k_ ≠ (.slice Ao19 t1857.length co19 : Value).ownBlock)) (n := t1845.length) (c := co10) ?_).2.2; exact (by exact xR ((Kd.R_mono (Kd.R_far (p := ⟨gb1861, 1, none⟩) (Kd.R_far (p := ⟨gb1861, 0, none⟩) (Kd.R_types HO1849.out BK1861.out (by decide)) (fun _ hk => hk.2) (.int .i64 t1856)) (fun _ hk => hk.2) (.slice Ao19 t1857.length co19)) (fun _ h_ => h_.1))))); (case side2 => exact (Kd.R_reads' HO1849.out).2.1); rintro e w' ⟨rfl, ⟨nd, rfl⟩⟩) | (go_at_call 64; (with_reducible refine (impl_IsDoubled.calls k _ _ t1845 t1865 _ ?side1 ?side2 A30.out).mono ?_); (case side1 => refine (Kd.R_reads' (e := 3) (base := w.heap.size) (ok := fun k_ => ((some k_ ≠ (.slice Ao9 t1844.length co9 : Value).ownBlock ∧ some k_ ≠ (.slice Ao14 t1851.length co14 : Value).ownBlock) ∧ some k_ ≠ (.slice Ao19 t1857.length co19 : Value).ownBlock)) (n := t1845.length) (c := co10) ?_).2.2; exact (by exact xR ((Kd.R_mono (Kd.R_far (p := ⟨gb1861, 1, none⟩) (Kd.R_far (p := ⟨gb1861, 0, none⟩) (Kd.R_types HO1849.out BK1861.out (by decide)) (fun _ hk => hk.2) (.int .i64 t1856)) (fun _ hk => hk.2) (.slice Ao19 t1857.length co19)) (fun _ h_ => h_.1))))); (case side2 => exact (Kd.R_reads' HO1849.out).2.1); rintro e w' ⟨rfl, ⟨nd, rfl⟩⟩) | (go_at_call 65; (with_reducible refine (spec_IsDoubled.calls k _ _ t1845 t1866 _ ?side1 ?side2 A31.out).mono ?_); (case side1 => refine (Kd.R_reads' (e := 3) (base := w.heap.size) (ok := fun k_ => ((some k_ ≠ (.slice Ao9 t1844.length co9 : Value).ownBlock ∧ some k_ ≠ (.slice Ao14 t1851.length co14 : Value).ownBlock) ∧ some k_ ≠ (.slice Ao19 t1857.length co19 : Value).ownBlock)) (n := t1845.length) (c := co10) ?_).2.2; exact (by exact xR ((Kd.R_mono (Kd.R_far (p := ⟨gb1861, 1, none⟩) (Kd.R_far (p := ⟨gb1861, 0, none⟩) (Kd.R_types HO1849.out BK1861.out (by decide)) (fun _ hk => hk.2) (.int .i64 t1856)) (fun _ hk => hk.2) (.slice Ao19 t1857.length co19)) (fun _ h_ => h_.1))))); (case side2 => exact (Kd.R_reads' HO1849.out).2.1); rintro e w42 ⟨rfl, hb⟩; replace HO1847 := am (Kd.R_below (by exact xR ((Kd.R_mono (Kd.R_far (p := ⟨gb1861, 1, none⟩) (Kd.R_far (p := ⟨gb1861, 0, none⟩) (Kd.R_types HO1847.out BK1861.out (by decide)) (fun _ hk => hk.2) (.int .i64 t1856)) (fun _ hk => hk.2) (.slice Ao19 t1857.length co19)) (fun _ h_ => h_.1)))) hb); replace HO1849 := am (Kd.R_below (by exact xR ((Kd.R_mono (Kd.R_far (p := ⟨gb1861, 1, none⟩) (Kd.R_far (p := ⟨gb1861, 0, none⟩) (Kd.R_types HO1849.out BK1861.out (by decide)) (fun _ hk => hk.2) (.int .i64 t1856)) (fun _ hk => hk.2) (.slice Ao19 t1857.length co19)) (fun _ h_ => h_.1)))) hb); replace HO1853 := am (Kd.R_below (by exact xR ((Kd.R_mono (Kd.R_far (p := ⟨gb1861, 1, none⟩) (Kd.R_far (p := ⟨gb1861, 0, none⟩) (Kd.R_types HO1853.out BK1861.out (by decide)) (fun _ hk => hk.2) (.int .i64 t1856)) (fun _ hk => hk.2) (.slice Ao19 t1857.length co19)) (fun _ h_ => h_.1)))) hb); replace HO1859 := am (Kd.R_below (by exact xR ((Kd.R_mono (Kd.R_far (p := ⟨gb1861, 1, none⟩) (Kd.R_far (p := ⟨gb1861, 0, none⟩) (Kd.R_types HO1859.out BK1861.out (by decide)) (fun _ hk => hk.2) (.int .i64 t1856)) (fun _ hk => hk.2) (.slice Ao19 t1857.length co19)) (fun _ h_ => h_.1)))) hb); replace BK1855 := am (blk_below (g := gb1855) (o := .cells #[.int .i64 t1850, .slice Ao14 t1851.length co14] 75 (0, 0)) (by (with_reducible repeat (first | refine blk_drewN ?_ _ | refine blk_drew ?_ | refine blk_alloc ?_ _)); refine blk_far ?_ NB1855_1861.out _; (with_reducible repeat (first | refine blk_drewN ?_ _ | refine blk_drew ?_ | refine blk_alloc ?_ _)); refine blk_far ?_ NB1855_1861.out _; exact rX BK1855) hb); replace BK1861 := am (blk_below (g := gb1861) (o := .cells #[.int .i64 t1856, .slice Ao19 t1857.length co19] 75 (0, 0)) (by (with_reducible repeat (first | refine blk_drewN ?_ _ | refine blk_drew ?_ | refine blk_alloc ?_ _)); refine blk_put (cs := #[.int .i64 t1856, .slice none 0 0]) ?_ 1 _ rfl; (with_reducible repeat (first | refine blk_drewN ?_ _ | refine blk_drew ?_ | refine blk_alloc ?_ _)); refine blk_put (cs := #[.int .i64 0, .slice none 0 0]) ?_ 0 _ rfl; exact rX BK1861) hb); replace HB := bS HB hb; clear hb; have hcz43_0 := z20 BK1861; have hcz43_1 := z21 BK1861; have hfz43_0 := blk_frozen BK1861.out 0; have hfz43_1 := blk_frozen BK1861.out 1) | (go_at_call 66; (with_reducible refine (impl_MatchAt.calls k _ _ t1844 _ _ t1845 t1856 _ _ t1857 t1867 _ ?side1 ?side2 ?side3 ?side4 ?side5 ?side6 A38.out).mono ?_); (case side1 => exact xC ((Kd.R_reads' HO1847.out).2.2)); (case side2 => exact (Kd.R_reads' HO1847.out).2.1); (case side3 => exact xC ((Kd.R_reads' HO1849.out).2.2)); (case side4 => exact (Kd.R_reads' HO1849.out).2.1); (case side5 => exact xC ((Kd.R_reads' HO1859.out).2.2)); (case side6 => exact (Kd.R_reads' HO1859.out).2.1); rintro e w44 ⟨rfl, hb⟩; replace HO1847 := am (Kd.R_below (by exact rR HO1847) hb); replace HO1849 := am (Kd.R_below (by exact rR HO1849) hb); replace HO1853 := am (Kd.R_below (by exact rR HO1853) hb); replace HO1859 := am (Kd.R_below (by exact rR HO1859) hb); replace BK1855 := bK BK1855 hb; replace BK1861 := bK BK1861 hb; replace HB := bS HB hb; clear hb)); go_meet
         case rel => exact ⟨_, (!t1867), (by first | rfl | (simp; done) | (simp [*]; done)), H', ⟨by first | omega | exact Nat.le_refl _⟩, ⟨by exact xR (Kd.R_mono HO1847.out (fun _ hk => ⟨hk.1.1, ⟨hk.1.2, hk.2⟩⟩))⟩, ⟨by exact xR (Kd.R_mono HO1849.out (fun _ hk => ⟨hk.1.1, ⟨hk.1.2, hk.2⟩⟩))⟩, ⟨by exact xR (Kd.R_mono HO1853.out (fun _ hk => ⟨hk.1.1.2, ⟨hk.1.2, hk.2⟩⟩))⟩, ⟨by exact xR (Kd.R_mono HO1859.out (fun _ hk => ⟨hk.1.1.2, ⟨hk.1.2, hk.2⟩⟩))⟩, ⟨by exact rX BK1855⟩, ⟨by exact rX BK1861⟩, ⟨by exact rB HB⟩⟩
        ·replace c37 := Bool.eq_false_iff.mpr c37; subst c37; have H1 : (laws_FnPatterns.j0 k l0 t1844 t1845 false false) = some r := by rw [if_neg (show ¬ (false = true) by decide)] at H; exact H
         clear H; have H := H1; clear H1; have H' := am H; clear H; have hnb45 := NB1855_1861.out; have hnc45 := NB1861_1855.out; have hcz46_0 := z20 BK1855; have hcz46_1 := z21 BK1855; have hfz46_0 := blk_frozen BK1855.out 0; have hfz46_1 := blk_frozen BK1855.out 1; have hcz47_0 := z20 BK1861; have hcz47_1 := z21 BK1861; have hfz47_0 := blk_frozen BK1861.out 0; have hfz47_1 := blk_frozen BK1861.out 1; go_wp2_with (first | (go_at_call 36; (with_reducible refine (laws_sameInts.calls k _ _ t1851 _ _ t1857 true _ ?side1 ?side2 ?side3 ?side4 A22.out).mono ?_); (case side1 => refine (Kd.R_reads' (e := 3) (base := w.heap.size) (ok := fun k_ => (((True ∧ some k_ ≠ (.slice Ao9 t1844.length co9 : Value).ownBlock) ∧ some k_ ≠ (.slice Ao10 t1845.length co10 : Value).ownBlock) ∧ some k_ ≠ (.slice Ao19 t1857.length co19 : Value).ownBlock)) (n := t1851.length) (c := co14) ?_).2.2; exact (by exact xR ((Kd.R_mono (Kd.R_far (p := ⟨gb1861, 1, none⟩) (Kd.R_far (p := ⟨gb1861, 0, none⟩) (Kd.R_types HO1853.out BK1861.out (by decide)) (fun _ hk => hk.2) (.int .i64 t1856)) (fun _ hk => hk.2) (.slice Ao19 t1857.length co19)) (fun _ h_ => h_.1))))); (case side2 => exact (Kd.R_reads' HO1853.out).2.1); (case side3 => refine (Kd.R_reads' (e := 3) (base := w.heap.size) (ok := fun k_ => (((True ∧ some k_ ≠ (.slice Ao9 t1844.length co9 : Value).ownBlock) ∧ some k_ ≠ (.slice Ao10 t1845.length co10 : Value).ownBlock) ∧ some k_ ≠ (.slice Ao14 t1851.length co14 : Value).ownBlock)) (n := t1857.length) (c := co19) ?_).2.2; exact (by exact xR ((Kd.R_mono (Kd.R_far (p := ⟨gb1861, 1, none⟩) (Kd.R_far (p := ⟨gb1861, 0, none⟩) (Kd.R_types HO1859.out BK1861.out (by decide)) (fun _ hk => hk.2) (.int .i64 t1856)) (fun _ hk => hk.2) (.slice Ao19 t1857.length co19)) (fun _ h_ => h_.1))))); (case side4 => exact (Kd.R_reads' HO1859.out).2.1); rintro e w' ⟨rfl, ⟨nd, rfl⟩⟩) | (go_at_call 62; (with_reducible refine (impl_IsPattern.calls k _ _ t1845 t1863 _ ?side1 ?side2 A24.out).mono ?_); (case side1 => refine (Kd.R_reads' (e := 3) (base := w.heap.size) (ok := fun k_ => ((some k_ ≠ (.slice Ao9 t1844.length co9 : Value).ownBlock ∧ some k_ ≠ (.slice Ao14 t1851.length co14 : Value).ownBlock) ∧ some k_ ≠ (.slice Ao19 t1857.length co19 : Value).ownBlock)) (n := t1845.length) (c := co10) ?_).2.2; exact (by exact xR ((Kd.R_mono (Kd.R_far (p := ⟨gb1861, 1, none⟩) (Kd.R_far (p := ⟨gb1861, 0, none⟩) (Kd.R_types HO1849.out BK1861.out (by decide)) (fun _ hk => hk.2) (.int .i64 t1856)) (fun _ hk => hk.2) (.slice Ao19 t1857.length co19)) (fun _ h_ => h_.1))))); (case side2 => exact (Kd.R_reads' HO1849.out).2.1); rintro e w' ⟨rfl, ⟨nd, rfl⟩⟩) | (go_at_call 63; (with_reducible refine (spec_IsPattern.calls k _ _ t1845 t1864 _ ?side1 ?side2 A25.out).mono ?_); (case side1 => refine (Kd.R_reads' (e := 3) (base := w.heap.size) (ok := fun k_ => ((some k_ ≠ (.slice Ao9 t1844.length co9 : Value).ownBlock ∧ some k_ ≠ (.slice Ao14 t1851.length co14 : Value).ownBlock) ∧ some k_ ≠ (.slice Ao19 t1857.length co19 : Value).ownBlock)) (n := t1845.length) (c := co10) ?_).2.2; exact (by exact xR ((Kd.R_mono (Kd.R_far (p := ⟨gb1861, 1, none⟩) (Kd.R_far (p := ⟨gb1861, 0, none⟩) (Kd.R_types HO1849.out BK1861.out (by decide)) (fun _ hk => hk.2) (.int .i64 t1856)) (fun _ hk => hk.2) (.slice Ao19 t1857.length co19)) (fun _ h_ => h_.1))))); (case side2 => exact (Kd.R_reads' HO1849.out).2.1); rintro e w' ⟨rfl, ⟨nd, rfl⟩⟩) | (go_at_call 64; (with_reducible refine (impl_IsDoubled.calls k _ _ t1845 t1865 _ ?side1 ?side2 A30.out).mono ?_); (case side1 => refine (Kd.R_reads' (e := 3) (base := w.heap.size) (ok := fun k_ => ((some k_ ≠ (.slice Ao9 t1844.length co9 : Value).ownBlock ∧ some k_ ≠ (.slice Ao14 t1851.length co14 : Value).ownBlock) ∧ some k_ ≠ (.slice Ao19 t1857.length co19 : Value).ownBlock)) (n := t1845.length) (c := co10) ?_).2.2; exact (by exact xR ((Kd.R_mono (Kd.R_far (p := ⟨gb1861, 1, none⟩) (Kd.R_far (p := ⟨gb1861, 0, none⟩) (Kd.R_types HO1849.out BK1861.out (by decide)) (fun _ hk => hk.2) (.int .i64 t1856)) (fun _ hk => hk.2) (.slice Ao19 t1857.length co19)) (fun _ h_ => h_.1))))); (case side2 => exact (Kd.R_reads' HO1849.out).2.1); rintro e w' ⟨rfl, ⟨nd, rfl⟩⟩) | (go_at_call 65; (with_reducible refine (spec_IsDoubled.calls k _ _ t1845 t1866 _ ?side1 ?side2 A31.out).mono ?_); (case side1 => refine (Kd.R_reads' (e := 3) (base := w.heap.size) (ok := fun k_ => ((some k_ ≠ (.slice Ao9 t1844.length co9 : Value).ownBlock ∧ some k_ ≠ (.slice Ao14 t1851.length co14 : Value).ownBlock) ∧ some k_ ≠ (.slice Ao19 t1857.length co19 : Value).ownBlock)) (n := t1845.length) (c := co10) ?_).2.2; exact (by exact xR ((Kd.R_mono (Kd.R_far (p := ⟨gb1861, 1, none⟩) (Kd.R_far (p := ⟨gb1861, 0, none⟩) (Kd.R_types HO1849.out BK1861.out (by decide)) (fun _ hk => hk.2) (.int .i64 t1856)) (fun _ hk => hk.2) (.slice Ao19 t1857.length co19)) (fun _ h_ => h_.1))))); (case side2 => exact (Kd.R_reads' HO1849.out).2.1); rintro e w48 ⟨rfl, hb⟩; replace HO1847 := am (Kd.R_below (by exact xR ((Kd.R_mono (Kd.R_far (p := ⟨gb1861, 1, none⟩) (Kd.R_far (p := ⟨gb1861, 0, none⟩) (Kd.R_types HO1847.out BK1861.out (by decide)) (fun _ hk => hk.2) (.int .i64 t1856)) (fun _ hk => hk.2) (.slice Ao19 t1857.length co19)) (fun _ h_ => h_.1)))) hb); replace HO1849 := am (Kd.R_below (by exact xR ((Kd.R_mono (Kd.R_far (p := ⟨gb1861, 1, none⟩) (Kd.R_far (p := ⟨gb1861, 0, none⟩) (Kd.R_types HO1849.out BK1861.out (by decide)) (fun _ hk => hk.2) (.int .i64 t1856)) (fun _ hk => hk.2) (.slice Ao19 t1857.length co19)) (fun _ h_ => h_.1)))) hb); replace HO1853 := am (Kd.R_below (by exact xR ((Kd.R_mono (Kd.R_far (p := ⟨gb1861, 1, none⟩) (Kd.R_far (p := ⟨gb1861, 0, none⟩) (Kd.R_types HO1853.out BK1861.out (by decide)) (fun _ hk => hk.2) (.int .i64 t1856)) (fun _ hk => hk.2) (.slice Ao19 t1857.length co19)) (fun _ h_ => h_.1)))) hb); replace HO1859 := am (Kd.R_below (by exact xR ((Kd.R_mono (Kd.R_far (p := ⟨gb1861, 1, none⟩) (Kd.R_far (p := ⟨gb1861, 0, none⟩) (Kd.R_types HO1859.out BK1861.out (by decide)) (fun _ hk => hk.2) (.int .i64 t1856)) (fun _ hk => hk.2) (.slice Ao19 t1857.length co19)) (fun _ h_ => h_.1)))) hb); replace BK1855 := am (blk_below (g := gb1855) (o := .cells #[.int .i64 t1850, .slice Ao14 t1851.length co14] 75 (0, 0)) (by (with_reducible repeat (first | refine blk_drewN ?_ _ | refine blk_drew ?_ | refine blk_alloc ?_ _)); refine blk_far ?_ NB1855_1861.out _; (with_reducible repeat (first | refine blk_drewN ?_ _ | refine blk_drew ?_ | refine blk_alloc ?_ _)); refine blk_far ?_ NB1855_1861.out _; exact rX BK1855) hb); replace BK1861 := am (blk_below (g := gb1861) (o := .cells #[.int .i64 t1856, .slice Ao19 t1857.length co19] 75 (0, 0)) (by (with_reducible repeat (first | refine blk_drewN ?_ _ | refine blk_drew ?_ | refine blk_alloc ?_ _)); refine blk_put (cs := #[.int .i64 t1856, .slice none 0 0]) ?_ 1 _ rfl; (with_reducible repeat (first | refine blk_drewN ?_ _ | refine blk_drew ?_ | refine blk_alloc ?_ _)); refine blk_put (cs := #[.int .i64 0, .slice none 0 0]) ?_ 0 _ rfl; exact rX BK1861) hb); replace HB := bS HB hb; clear hb)); go_meet
         case rel => exact ⟨_, (false), (by first | rfl | (simp; done) | (simp [*]; done)), H', ⟨by first | omega | exact Nat.le_refl _⟩, ⟨by exact xR (Kd.R_mono HO1847.out (fun _ hk => ⟨hk.1.1, ⟨hk.1.2, hk.2⟩⟩))⟩, ⟨by exact xR (Kd.R_mono HO1849.out (fun _ hk => ⟨hk.1.1, ⟨hk.1.2, hk.2⟩⟩))⟩, ⟨by exact xR (Kd.R_mono HO1853.out (fun _ hk => ⟨hk.1.1.2, ⟨hk.1.2, hk.2⟩⟩))⟩, ⟨by exact xR (Kd.R_mono HO1859.out (fun _ hk => ⟨hk.1.1.2, ⟨hk.1.2, hk.2⟩⟩))⟩, ⟨by exact rX BK1855⟩, ⟨by exact rX BK1861⟩, ⟨by exact rB HB⟩⟩
     ·replace c23 := Bool.eq_false_iff.mpr c23; subst c23; have H1 : (laws_FnPatterns.j0 k l0 t1844 t1845 t1854 true) = some r := by rw [if_neg (show ¬ (false = true) by decide)] at H; exact H
      clear H; have H := H1; clear H1
      first | exact (laws_FnPatterns.j0_no H HRT.out).elim | exact (laws_FnPatterns.j1_no H HRT.out).elim | exact (laws_FnPatterns.j2_no H HRT.out).elim | exact (laws_FnPatterns.j3_no H HRT.out).elim
    ·rw [if_neg c21] at H; have c21b0 : (t1850 == t1856) = false := beq_eq_false_iff_ne.mpr c21; have c21b1 : (t1850 != t1856) = true := bne_iff_ne.mpr c21
     first | exact (laws_FnPatterns.j0_no H HRT.out).elim | exact (laws_FnPatterns.j1_no H HRT.out).elim | exact (laws_FnPatterns.j2_no H HRT.out).elim | exact (laws_FnPatterns.j3_no H HRT.out).elim
  case rest =>
   clear HC7
   try clear c1
   try clear c2
   try clear p2
   try clear c3
   try clear c4
   try clear c5
   try clear c6
   try clear c12
   try clear c17
   try clear c19
   try clear c20
   try clear c20b0
   try clear c20b1
   try clear c20b2
   try clear c21
   try clear c21b0
   try clear c21b1
   try clear c23
   try clear c26
   try clear c26b0
   try clear c26b1
   try clear c26b2
   try clear c27
   try clear c32
   try clear c32b0
   try clear c32b1
   try clear c32b2
   try clear c33
   try clear c37
   try clear c39
   try clear c45
   try clear c49
   try clear c52
   try clear hcz13_0
   try clear hcz13_1
   try clear hcz18_0
   try clear hcz18_1
   try clear hcz28_0
   try clear hcz28_1
   try clear hcz29_0
   try clear hcz29_1
   try clear hcz34_0
   try clear hcz34_1
   try clear hcz35_0
   try clear hcz35_1
   try clear hcz40_0
   try clear hcz40_1
   try clear hcz41_0
   try clear hcz41_1
   try clear hcz43_0
   try clear hcz43_1
   try clear hcz46_0
   try clear hcz46_1
   try clear hcz47_0
   try clear hcz47_1
   try clear hcz50_0
   try clear hcz50_1
   try clear hcz51_0
   try clear hcz51_1
   try clear hcz53_0
   try clear hcz53_1
   try clear hcz54_0
   try clear hcz54_1
   try clear hfz13_0
   try clear hfz13_1
   try clear hfz18_0
   try clear hfz18_1
   try clear hfz28_0
   try clear hfz28_1
   try clear hfz29_0
   try clear hfz29_1
   try clear hfz34_0
   try clear hfz34_1
   try clear hfz35_0
   try clear hfz35_1
   try clear hfz40_0
   try clear hfz40_1
   try clear hfz41_0
   try clear hfz41_1
   try clear hfz43_0
   try clear hfz43_1
   try clear hfz46_0
   try clear hfz46_1
   try clear hfz47_0
   try clear hfz47_1
   try clear hfz50_0
   try clear hfz50_1
   try clear hfz51_0
   try clear hfz51_1
   try clear hfz53_0
   try clear hfz53_1
   try clear hfz54_0
   try clear hfz54_1
   obtain ⟨kq, x79_6, rfl, HA, HJ6, HO_3, HO_4, HO_1856001, HO_1862001, BK1855, BK1861, HB⟩ := hcut; cases kq with
   | zero => exact absurd HA.out (by simp [laws_FnPatterns.j0])
   | succ kj6 =>
    have H := HA.out; clear HA; simp only [laws_FnPatterns.j0] at H; by_cases c55 : x79_6 = true
    ·subst c55; have H1 : (some false) = some r := by rw [if_pos rfl] at H; exact H
     rw [HRT.out] at H1; cases H1
    ·replace c55 := Bool.eq_false_iff.mpr c55; subst c55; have H1 : ((impl_AvoidsPattern.f kj6 t1844 t1845).bind fun t1868 => ((spec_AvoidsPattern.f kj6 t1844 t1845).bind fun t1869 => (if (t1868 != t1869) = true then (laws_FnPatterns.j1 kj6 l0 t1844 t1845 t1868 true) else (if t1868 = true then (laws_FnPatterns.j1 kj6 l0 t1844 t1845 t1868 t1854) else (laws_FnPatterns.j1 kj6 l0 t1844 t1845 t1868 false))))) = some r := by rw [if_neg (show ¬ (false = true) by decide)] at H; exact H
     clear H; have H := H1; clear H1; replace H := bE H; obtain ⟨t1868, A560, H⟩ := H; replace H : ((spec_AvoidsPattern.f kj6 t1844 t1845).bind fun t1869 => (if (t1868 != t1869) = true then (laws_FnPatterns.j1 kj6 l0 t1844 t1845 t1868 true) else (if t1868 = true then (laws_FnPatterns.j1 kj6 l0 t1844 t1845 t1868 t1854) else (laws_FnPatterns.j1 kj6 l0 t1844 t1845 t1868 false)))) = some r := H; have A56 := am A560; clear A560; have HC57 := am H; clear H; go_upto_region 9 with (first | ((with_reducible refine gate_callee (f := 55) rfl ?_); refine goesL_ (some 82) rfl rfl Try.func55 (by kernel_rfl) rfl #[.slice Ao9 t1844.length co9, .slice Ao10 t1845.length co10] rfl (by (try simp only [mT, mC, mN]); first | done | rfl) ?_; (with_reducible refine (impl_AvoidsPattern.calls kj6 _ _ t1844 _ _ t1845 t1868 _ ?side1 ?side2 ?side3 ?side4 A56.out).mono ?_); (case side1 => exact xC ((Kd.R_reads' HO_3.out).2.2)); (case side2 => exact (Kd.R_reads' HO_3.out).2.1); (case side3 => exact xC ((Kd.R_reads' HO_4.out).2.2)); (case side4 => exact (Kd.R_reads' HO_4.out).2.1); rintro e w58 ⟨rfl, hb⟩; refine ⟨_, rfl, ?_⟩; replace HO_3 := am (Kd.R_below (by exact rR HO_3) hb); replace HO_4 := am (Kd.R_below (by exact rR HO_4) hb); replace HO_1856001 := am (Kd.R_below (by exact rR HO_1856001) hb); replace HO_1862001 := am (Kd.R_below (by exact rR HO_1862001) hb); replace BK1855 := bK BK1855 hb; replace BK1861 := bK BK1861 hb; replace HB := bS HB hb; clear hb)); (try simp only [Act.put, qa, qz, qs]); go_cut [93] (fun v93 wc => ∃ (kq : Nat) (x93_56 : Bool), v93 = .bool x93_56 ∧ Aside0 (laws_FnPatterns.j1 kq l0 t1844 t1845 t1868 x93_56 = some r) ∧ Aside0 (kq ≤ kj6) ∧ Aside0 (Kd.R (Kd.int .i64) 3 wc w.heap.size (fun k_ => some k_ ≠ ((.slice Ao10 t1845.length co10) : Value).ownBlock ∧ some k_ ≠ ((.slice Ao14 t1851.length co14) : Value).ownBlock ∧ some k_ ≠ ((.slice Ao19 t1857.length co19) : Value).ownBlock) (.slice Ao9 t1844.length co9) t1844) ∧ Aside0 (Kd.R (Kd.int .i64) 3 wc w.heap.size (fun k_ => some k_ ≠ ((.slice Ao9 t1844.length co9) : Value).ownBlock ∧ some k_ ≠ ((.slice Ao14 t1851.length co14) : Value).ownBlock ∧ some k_ ≠ ((.slice Ao19 t1857.length co19) : Value).ownBlock) (.slice Ao10 t1845.length co10) t1845) ∧ Aside0 (Kd.R (Kd.int .i64) 3 wc w.heap.size (fun k_ => some k_ ≠ ((.slice Ao9 t1844.length co9) : Value).ownBlock ∧ some k_ ≠ ((.slice Ao10 t1845.length co10) : Value).ownBlock ∧ some k_ ≠ ((.slice Ao19 t1857.length co19) : Value).ownBlock) (.slice Ao14 t1851.length co14) t1851) ∧ Aside0 (Kd.R (Kd.int .i64) 3 wc w.heap.size (fun k_ => some k_ ≠ ((.slice Ao9 t1844.length co9) : Value).ownBlock ∧ some k_ ≠ ((.slice Ao10 t1845.length co10) : Value).ownBlock ∧ some k_ ≠ ((.slice Ao14 t1851.length co14) : Value).ownBlock) (.slice Ao19 t1857.length co19) t1857) ∧ Aside0 (wc.heap[gb1855]? = some (.cells #[.int .i64 t1850, (.slice Ao14 t1851.length co14)] 75 (0, 0))) ∧ Aside0 (wc.heap[gb1861]? = some (.cells #[.int .i64 t1856, (.slice Ao19 t1857.length co19)] 75 (0, 0))) ∧ Aside0 (Below w.heap.size w wc))
     case first =>
      have H := HC57.out; clear HC57; replace H := bE H; obtain ⟨t1869, A590, H⟩ := H; replace H : (if (t1868 != t1869) = true then (laws_FnPatterns.j1 kj6 l0 t1844 t1845 t1868 true) else (if t1868 = true then (laws_FnPatterns.j1 kj6 l0 t1844 t1845 t1868 t1854) else (laws_FnPatterns.j1 kj6 l0 t1844 t1845 t1868 false))) = some r := H; have A59 := am A590; clear A590; by_cases c60 : (t1868 != t1869) = true
      ·rw [if_pos c60] at H; have c60b0 : (t1868 != t1869) = true := c60; (try (have c60b1 : decide (t1868 = t1869) = false := by simpa using c60)); (try (have c60b2 : (t1868 == t1869) = false := by simpa using c60)); (try (have c60b3 : ¬ (t1868 = t1869) := by simpa using c60)); clear c60
       (first | rw [c60b0] | (simp only [i64_w, i32_w]; rw [c60b0]) | skip)
       first | exact (laws_FnPatterns.j0_no H HRT.out).elim | exact (laws_FnPatterns.j1_no H HRT.out).elim | exact (laws_FnPatterns.j2_no H HRT.out).elim | exact (laws_FnPatterns.j3_no H HRT.out).elim
      ·rw [if_neg c60] at H; have c60b0 : (t1868 != t1869) = false := by simpa using c60
       (try (have c60b1 : decide (t1868 = t1869) = true := by simpa using c60)); (try (have c60b2 : (t1868 == t1869) = true := by simpa using c60)); clear c60
       (first | rw [c60b0] | (simp only [i64_w, i32_w]; rw [c60b0]) | skip)
       by_cases c62 : t1868 = true
       ·subst c62; have H1 : (laws_FnPatterns.j1 kj6 l0 t1844 t1845 true t1854) = some r := by rw [if_pos rfl] at H; exact H
        clear H; have H := H1; clear H1; have H' := am H; clear H; go_wp2_with (first | ((with_reducible refine gate_callee (f := 67) rfl ?_); refine goesL_ (some 86) rfl rfl Try.func67 (by kernel_rfl) rfl #[.slice Ao9 t1844.length co9, .slice Ao10 t1845.length co10] rfl (by (try simp only [mT, mC, mN]); first | done | rfl) ?_; (with_reducible refine (spec_AvoidsPattern.calls kj6 _ _ t1844 _ _ t1845 t1869 _ ?side1 ?side2 ?side3 ?side4 A59.out).mono ?_); (case side1 => exact xC ((Kd.R_reads' HO_3.out).2.2)); (case side2 => exact (Kd.R_reads' HO_3.out).2.1); (case side3 => exact xC ((Kd.R_reads' HO_4.out).2.2)); (case side4 => exact (Kd.R_reads' HO_4.out).2.1); rintro e w63 ⟨rfl, hb⟩; refine ⟨_, rfl, ?_⟩; replace HO_3 := am (Kd.R_below (by exact rR HO_3) hb); replace HO_4 := am (Kd.R_below (by exact rR HO_4) hb); replace HO_1856001 := am (Kd.R_below (by exact rR HO_1856001) hb); replace HO_1862001 := am (Kd.R_below (by exact rR HO_1862001) hb); replace BK1855 := bK BK1855 hb; replace BK1861 := bK BK1861 hb; replace HB := bS HB hb; clear hb)); go_meet
        case rel => exact ⟨_, (t1854), (by first | rfl | (simp; done) | (simp [*]; done)), H', ⟨by have := HJ6.out; first | omega | exact Nat.le_refl _⟩, ⟨by exact rR HO_3⟩, ⟨by exact rR HO_4⟩, ⟨by exact rR HO_1856001⟩, ⟨by exact rR HO_1862001⟩, ⟨by exact rX BK1855⟩, ⟨by exact rX BK1861⟩, ⟨by exact rB HB⟩⟩
       ·replace c62 := Bool.eq_false_iff.mpr c62; subst c62; have H1 : (laws_FnPatterns.j1 kj6 l0 t1844 t1845 false false) = some r := by rw [if_neg (show ¬ (false = true) by decide)] at H; exact H
        clear H; have H := H1; clear H1; have H' := am H; clear H; go_wp2_with (first | ((with_reducible refine gate_callee (f := 67) rfl ?_); refine goesL_ (some 86) rfl rfl Try.func67 (by kernel_rfl) rfl #[.slice Ao9 t1844.length co9, .slice Ao10 t1845.length co10] rfl (by (try simp only [mT, mC, mN]); first | done | rfl) ?_; (with_reducible refine (spec_AvoidsPattern.calls kj6 _ _ t1844 _ _ t1845 t1869 _ ?side1 ?side2 ?side3 ?side4 A59.out).mono ?_); (case side1 => exact xC ((Kd.R_reads' HO_3.out).2.2)); (case side2 => exact (Kd.R_reads' HO_3.out).2.1); (case side3 => exact xC ((Kd.R_reads' HO_4.out).2.2)); (case side4 => exact (Kd.R_reads' HO_4.out).2.1); rintro e w64 ⟨rfl, hb⟩; refine ⟨_, rfl, ?_⟩; replace HO_3 := am (Kd.R_below (by exact rR HO_3) hb); replace HO_4 := am (Kd.R_below (by exact rR HO_4) hb); replace HO_1856001 := am (Kd.R_below (by exact rR HO_1856001) hb); replace HO_1862001 := am (Kd.R_below (by exact rR HO_1862001) hb); replace BK1855 := bK BK1855 hb; replace BK1861 := bK BK1861 hb; replace HB := bS HB hb; clear hb)); go_meet
        case rel => exact ⟨_, (false), (by first | rfl | (simp; done) | (simp [*]; done)), H', ⟨by have := HJ6.out; first | omega | exact Nat.le_refl _⟩, ⟨by exact rR HO_3⟩, ⟨by exact rR HO_4⟩, ⟨by exact rR HO_1856001⟩, ⟨by exact rR HO_1862001⟩, ⟨by exact rX BK1855⟩, ⟨by exact rX BK1861⟩, ⟨by exact rB HB⟩⟩
     case rest =>
      clear HC57
      try clear c1
      try clear c2
      try clear p2
      try clear c3
      try clear c4
      try clear c5
      try clear c6
      try clear c12
      try clear c17
      try clear c19
      try clear c20
      try clear c20b0
      try clear c20b1
      try clear c20b2
      try clear c21
      try clear c21b0
      try clear c21b1
      try clear c23
      try clear c26
      try clear c26b0
      try clear c26b1
      try clear c26b2
      try clear c27
      try clear c32
      try clear c32b0
      try clear c32b1
      try clear c32b2
      try clear c33
      try clear c37
      try clear c39
      try clear c45
      try clear c49
      try clear c52
      try clear c55
      try clear c59
      try clear c60
      try clear c60b0
      try clear c60b1
      try clear c60b2
      try clear c61
      try clear c62
      try clear hcz13_0
      try clear hcz13_1
      try clear hcz18_0
      try clear hcz18_1
      try clear hcz28_0
      try clear hcz28_1
      try clear hcz29_0
      try clear hcz29_1
      try clear hcz34_0
      try clear hcz34_1
      try clear hcz35_0
      try clear hcz35_1
      try clear hcz40_0
      try clear hcz40_1
      try clear hcz41_0
      try clear hcz41_1
      try clear hcz43_0
      try clear hcz43_1
      try clear hcz46_0
      try clear hcz46_1
      try clear hcz47_0
      try clear hcz47_1
      try clear hcz50_0
      try clear hcz50_1
      try clear hcz51_0
      try clear hcz51_1
      try clear hcz53_0
      try clear hcz53_1
      try clear hcz54_0
      try clear hcz54_1
      try clear hfz13_0
      try clear hfz13_1
      try clear hfz18_0
      try clear hfz18_1
      try clear hfz28_0
      try clear hfz28_1
      try clear hfz29_0
      try clear hfz29_1
      try clear hfz34_0
      try clear hfz34_1
      try clear hfz35_0
      try clear hfz35_1
      try clear hfz40_0
      try clear hfz40_1
      try clear hfz41_0
      try clear hfz41_1
      try clear hfz43_0
      try clear hfz43_1
      try clear hfz46_0
      try clear hfz46_1
      try clear hfz47_0
      try clear hfz47_1
      try clear hfz50_0
      try clear hfz50_1
      try clear hfz51_0
      try clear hfz51_1
      try clear hfz53_0
      try clear hfz53_1
      try clear hfz54_0
      try clear hfz54_1
      try clear p2
      obtain ⟨kq, x93_56, rfl, HA, HJ56, HO_3, HO_4, HO_1856001, HO_1862001, BK1855, BK1861, HB⟩ := hcut; cases kq with
      | zero => exact absurd HA.out (by simp [laws_FnPatterns.j1])
      | succ kj56 =>
       have H := HA.out; clear HA; simp only [laws_FnPatterns.j1] at H; by_cases c65 : x93_56 = true
       ·subst c65; have H1 : (some false) = some r := by rw [if_pos rfl] at H; exact H
        rw [HRT.out] at H1; cases H1
       ·replace c65 := Bool.eq_false_iff.mpr c65; subst c65; have H1 : (if (t1844.length : Int) ≤ 24 then ((laws_sameInts.f kj56 t1845 (([0, 0] : List Int))).bind fun t1873 => (if t1873 = true then ((spec_HasSquare.f kj56 t1844).bind fun t1874 => (laws_FnPatterns.j2 kj56 l0 t1844 t1845 t1868 (t1868 == t1874))) else (laws_FnPatterns.j2 kj56 l0 t1844 t1845 t1868 false))) else (laws_FnPatterns.j2 kj56 l0 t1844 t1845 t1868 false)) = some r := by rw [if_neg (show ¬ (false = true) by decide)] at H; exact H
        clear H; have H := H1; clear H1; have HC66 := am H; clear H; go_upto_region 11 with (fail); go_cut [107] (fun v107 wc => ∃ (kq : Nat) (x107_65 : Bool), v107 = .bool x107_65 ∧ Aside0 (laws_FnPatterns.j2 kq l0 t1844 t1845 t1868 x107_65 = some r) ∧ Aside0 (kq ≤ kj56) ∧ Aside0 (Kd.R (Kd.int .i64) 3 wc w.heap.size (fun k_ => some k_ ≠ ((.slice Ao10 t1845.length co10) : Value).ownBlock ∧ some k_ ≠ ((.slice Ao14 t1851.length co14) : Value).ownBlock ∧ some k_ ≠ ((.slice Ao19 t1857.length co19) : Value).ownBlock) (.slice Ao9 t1844.length co9) t1844) ∧ Aside0 (Kd.R (Kd.int .i64) 3 wc w.heap.size (fun k_ => some k_ ≠ ((.slice Ao9 t1844.length co9) : Value).ownBlock ∧ some k_ ≠ ((.slice Ao14 t1851.length co14) : Value).ownBlock ∧ some k_ ≠ ((.slice Ao19 t1857.length co19) : Value).ownBlock) (.slice Ao10 t1845.length co10) t1845) ∧ Aside0 (Kd.R (Kd.int .i64) 3 wc w.heap.size (fun k_ => some k_ ≠ ((.slice Ao9 t1844.length co9) : Value).ownBlock ∧ some k_ ≠ ((.slice Ao10 t1845.length co10) : Value).ownBlock ∧ some k_ ≠ ((.slice Ao19 t1857.length co19) : Value).ownBlock) (.slice Ao14 t1851.length co14) t1851) ∧ Aside0 (Kd.R (Kd.int .i64) 3 wc w.heap.size (fun k_ => some k_ ≠ ((.slice Ao9 t1844.length co9) : Value).ownBlock ∧ some k_ ≠ ((.slice Ao10 t1845.length co10) : Value).ownBlock ∧ some k_ ≠ ((.slice Ao14 t1851.length co14) : Value).ownBlock) (.slice Ao19 t1857.length co19) t1857) ∧ Aside0 (wc.heap[gb1855]? = some (.cells #[.int .i64 t1850, (.slice Ao14 t1851.length co14)] 75 (0, 0))) ∧ Aside0 (wc.heap[gb1861]? = some (.cells #[.int .i64 t1856, (.slice Ao19 t1857.length co19)] 75 (0, 0))) ∧ Aside0 (Below w.heap.size w wc))
        case first =>
         have H := HC66.out; clear HC66; by_cases c67 : (t1844.length : Int) ≤ 24
         ·rw [if_pos c67] at H; have c67b0 : decide ((t1844.length : Int) ≤ 24) = true := decide_eq_true c67; have c67b1 : decide (t1844.length ≤ 24) = true := decide_eq_true (by omega); clear c67
          (first | rw [c67b0] | (simp only [i64_w, i32_w]; rw [c67b0]) | skip)
          obtain ⟨y1870, hy1870⟩ : ∃ y_ : List Int, y_ = (([0, 0] : List Int)) := ⟨_, rfl⟩; replace H : ((laws_sameInts.f kj56 t1845 y1870).bind fun t1873 => (if t1873 = true then ((spec_HasSquare.f kj56 t1844).bind fun t1874 => (laws_FnPatterns.j2 kj56 l0 t1844 t1845 t1868 (t1868 == t1874))) else (laws_FnPatterns.j2 kj56 l0 t1844 t1845 t1868 false))) = some r := by rw [hy1870]; first | exact H | exact (Option.bind_some _ _).symm.trans H
          have Ny1870 := am hy1870; clear hy1870; replace H := bE H; obtain ⟨t1873, A680, H⟩ := H; replace H : (if t1873 = true then ((spec_HasSquare.f kj56 t1844).bind fun t1874 => (laws_FnPatterns.j2 kj56 l0 t1844 t1845 t1868 (t1868 == t1874))) else (laws_FnPatterns.j2 kj56 l0 t1844 t1845 t1868 false)) = some r := H; have A68 := am A680; clear A680; by_cases c69 : t1873 = true
          ·subst c69; have H1 : ((spec_HasSquare.f kj56 t1844).bind fun t1874 => (laws_FnPatterns.j2 kj56 l0 t1844 t1845 t1868 (t1868 == t1874))) = some r := by rw [if_pos rfl] at H; exact H
           clear H; have H := H1; clear H1; replace H := bE H; obtain ⟨t1874, A700, H⟩ := H; replace H : (laws_FnPatterns.j2 kj56 l0 t1844 t1845 t1868 (t1868 == t1874)) = some r := H; have A70 := am A700; clear A700; have H' := am H; clear H; go_wp2_with (first | ((with_reducible refine gate_dst (N := 99) rfl ?_); (try (refine gate_guard (by rfl) ?_; dsimp only)); refine Kd.R_lit (Kd.int .i64) _ 3 ?hg (N := 99) ?hd (xs := ([0, 0] : List Int)) (inner := [.int .i64 0, .int .i64 0]) (ok := fun _ => True) (okp := fun _ => True) ?hr ?hp (fun _ hk => hk) trivial (Below.refl _ _) (Nat.le_refl _) (by simp) ?_; (case hd | hg => rfl); (case hr => go_simp <;> rfl); (case hp => exact (Reps.one (show Kd.M (Kd.int .i64) _ _ _ 0 [.int .i64 0] from rfl) (Reps.one (show Kd.M (Kd.int .i64) _ _ _ 0 [.int .i64 0] from rfl) (Reps.none _ _)))); intro v1871 w71 ho72 hb hg_ hnew_; clear hg_ hnew_; (first | rw [← Ny1870.out] at ho72 | (simp only [Int.reduceToNat] at ho72; rw [← Ny1870.out] at ho72)); have HO1872 := am (Kd.R_lower (Kd.R_new' (Kd.R_new' (Kd.R_new' (Kd.R_new' ho72 (Kd.R_lt (by exact rR HO_3))) (Kd.R_lt (by exact rR HO_4))) (Kd.R_lt (by exact rR HO_1856001))) (Kd.R_lt (by exact rR HO_1862001))) (bZ HB)); replace HO_3 := am (Kd.R_elder' (by exact rR HO_3) (Kd.R_base ho72) hb); replace HO_4 := am (Kd.R_elder' (by exact rR HO_4) (Kd.R_base ho72) hb); replace HO_1856001 := am (Kd.R_elder' (by exact rR HO_1856001) (Kd.R_base ho72) hb); replace HO_1862001 := am (Kd.R_elder' (by exact rR HO_1862001) (Kd.R_base ho72) hb); replace BK1855 := bK BK1855 hb; replace BK1861 := bK BK1861 hb; replace HB := bS HB hb; clear hb ho72; obtain ⟨Ao73, co73, eo73⟩ := Kd.R_slice HO1872.out; subst eo73) | (go_at_call 36; (with_reducible refine (laws_sameInts.calls kj56 _ _ t1845 _ _ y1870 true _ ?side1 ?side2 ?side3 ?side4 A68.out).mono ?_); (case side1 => exact xC ((Kd.R_reads' HO_4.out).2.2)); (case side2 => exact (Kd.R_reads' HO_4.out).2.1); (case side3 => exact xC ((Kd.R_reads' HO1872.out).2.2)); (case side4 => exact (Kd.R_reads' HO1872.out).2.1); rintro e w' ⟨rfl, ⟨nd, rfl⟩⟩) | (go_at_call 68; (with_reducible refine (spec_HasSquare.calls kj56 _ _ t1844 t1874 _ ?side1 ?side2 A70.out).mono ?_); (case side1 => exact xC ((Kd.R_reads' HO_3.out).2.2)); (case side2 => exact (Kd.R_reads' HO_3.out).2.1); rintro e w74 ⟨rfl, hb⟩; replace HO_3 := am (Kd.R_below (by exact rR HO_3) hb); replace HO_4 := am (Kd.R_below (by exact rR HO_4) hb); replace HO_1856001 := am (Kd.R_below (by exact rR HO_1856001) hb); replace HO_1862001 := am (Kd.R_below (by exact rR HO_1862001) hb); replace HO1872 := am (Kd.R_below (by exact rR HO1872) hb); replace BK1855 := bK BK1855 hb; replace BK1861 := bK BK1861 hb; replace HB := bS HB hb; clear hb)); go_meet
           case rel => exact ⟨_, ((t1868 == t1874)), (by first | rfl | (simp; done) | (simp [*]; done)), H', ⟨by have := HJ6.out; have := HJ56.out; first | omega | exact Nat.le_refl _⟩, ⟨by exact xR (Kd.R_mono HO_3.out (fun _ hk => ⟨hk.1.1, ⟨hk.1.2.1, hk.1.2.2⟩⟩))⟩, ⟨by exact xR (Kd.R_mono HO_4.out (fun _ hk => ⟨hk.1.1, ⟨hk.1.2.1, hk.1.2.2⟩⟩))⟩, ⟨by exact xR (Kd.R_mono HO_1856001.out (fun _ hk => ⟨hk.1.1, ⟨hk.1.2.1, hk.1.2.2⟩⟩))⟩, ⟨by exact xR (Kd.R_mono HO_1862001.out (fun _ hk => ⟨hk.1.1, ⟨hk.1.2.1, hk.1.2.2⟩⟩))⟩, ⟨by exact rX BK1855⟩, ⟨by exact rX BK1861⟩, ⟨by exact rB HB⟩⟩
          ·replace c69 := Bool.eq_false_iff.mpr c69; subst c69; have H1 : (laws_FnPatterns.j2 kj56 l0 t1844 t1845 t1868 false) = some r := by rw [if_neg (show ¬ (false = true) by decide)] at H; exact H
           clear H; have H := H1; clear H1; have H' := am H; clear H; go_wp2_with (first | ((with_reducible refine gate_dst (N := 99) rfl ?_); (try (refine gate_guard (by rfl) ?_; dsimp only)); refine Kd.R_lit (Kd.int .i64) _ 3 ?hg (N := 99) ?hd (xs := ([0, 0] : List Int)) (inner := [.int .i64 0, .int .i64 0]) (ok := fun _ => True) (okp := fun _ => True) ?hr ?hp (fun _ hk => hk) trivial (Below.refl _ _) (Nat.le_refl _) (by simp) ?_; (case hd | hg => rfl); (case hr => go_simp <;> rfl); (case hp => exact (Reps.one (show Kd.M (Kd.int .i64) _ _ _ 0 [.int .i64 0] from rfl) (Reps.one (show Kd.M (Kd.int .i64) _ _ _ 0 [.int .i64 0] from rfl) (Reps.none _ _)))); intro v1871 w75 ho76 hb hg_ hnew_; clear hg_ hnew_; (first | rw [← Ny1870.out] at ho76 | (simp only [Int.reduceToNat] at ho76; rw [← Ny1870.out] at ho76)); have HO1872 := am (Kd.R_lower (Kd.R_new' (Kd.R_new' (Kd.R_new' (Kd.R_new' ho76 (Kd.R_lt (by exact rR HO_3))) (Kd.R_lt (by exact rR HO_4))) (Kd.R_lt (by exact rR HO_1856001))) (Kd.R_lt (by exact rR HO_1862001))) (bZ HB)); replace HO_3 := am (Kd.R_elder' (by exact rR HO_3) (Kd.R_base ho76) hb); replace HO_4 := am (Kd.R_elder' (by exact rR HO_4) (Kd.R_base ho76) hb); replace HO_1856001 := am (Kd.R_elder' (by exact rR HO_1856001) (Kd.R_base ho76) hb); replace HO_1862001 := am (Kd.R_elder' (by exact rR HO_1862001) (Kd.R_base ho76) hb); replace BK1855 := bK BK1855 hb; replace BK1861 := bK BK1861 hb; replace HB := bS HB hb; clear hb ho76; obtain ⟨Ao77, co77, eo77⟩ := Kd.R_slice HO1872.out; subst eo77) | (go_at_call 36; (with_reducible refine (laws_sameInts.calls kj56 _ _ t1845 _ _ y1870 false _ ?side1 ?side2 ?side3 ?side4 A68.out).mono ?_); (case side1 => exact xC ((Kd.R_reads' HO_4.out).2.2)); (case side2 => exact (Kd.R_reads' HO_4.out).2.1); (case side3 => exact xC ((Kd.R_reads' HO1872.out).2.2)); (case side4 => exact (Kd.R_reads' HO1872.out).2.1); rintro e w' ⟨rfl, ⟨nd, rfl⟩⟩)); go_meet
           case rel => exact ⟨_, (false), (by first | rfl | (simp; done) | (simp [*]; done)), H', ⟨by have := HJ6.out; have := HJ56.out; first | omega | exact Nat.le_refl _⟩, ⟨by exact xR (Kd.R_mono HO_3.out (fun _ hk => ⟨hk.1.1, ⟨hk.1.2.1, hk.1.2.2⟩⟩))⟩, ⟨by exact xR (Kd.R_mono HO_4.out (fun _ hk => ⟨hk.1.1, ⟨hk.1.2.1, hk.1.2.2⟩⟩))⟩, ⟨by exact xR (Kd.R_mono HO_1856001.out (fun _ hk => ⟨hk.1.1, ⟨hk.1.2.1, hk.1.2.2⟩⟩))⟩, ⟨by exact xR (Kd.R_mono HO_1862001.out (fun _ hk => ⟨hk.1.1, ⟨hk.1.2.1, hk.1.2.2⟩⟩))⟩, ⟨by exact rX BK1855⟩, ⟨by exact rX BK1861⟩, ⟨by exact rB HB⟩⟩
         ·rw [if_neg c67] at H; have c67b0 : decide ((t1844.length : Int) ≤ 24) = false := decide_eq_false c67; have c67b1 : decide (t1844.length ≤ 24) = false := decide_eq_false (by omega); clear c67
          (first | rw [c67b0] | (simp only [i64_w, i32_w]; rw [c67b0]) | skip)
          have H' := am H; clear H; go_wp2; go_meet
          case rel => exact ⟨_, (false), (by first | rfl | (simp; done) | (simp [*]; done)), H', ⟨by have := HJ6.out; have := HJ56.out; first | omega | exact Nat.le_refl _⟩, ⟨by exact rR HO_3⟩, ⟨by exact rR HO_4⟩, ⟨by exact rR HO_1856001⟩, ⟨by exact rR HO_1862001⟩, ⟨by exact rX BK1855⟩, ⟨by exact rX BK1861⟩, ⟨by exact rB HB⟩⟩
        case rest =>
         clear HC66
         try clear c1
         try clear c2
         try clear p2
         try clear c3
         try clear c4
         try clear c5
         try clear c6
         try clear c12
         try clear c17
         try clear c19
         try clear c20
         try clear c20b0
         try clear c20b1
         try clear c20b2
         try clear c21
         try clear c21b0
         try clear c21b1
         try clear c23
         try clear c26
         try clear c26b0
         try clear c26b1
         try clear c26b2
         try clear c27
         try clear c32
         try clear c32b0
         try clear c32b1
         try clear c32b2
         try clear c33
         try clear c37
         try clear c39
         try clear c45
         try clear c49
         try clear c52
         try clear c55
         try clear c59
         try clear c60
         try clear c60b0
         try clear c60b1
         try clear c60b2
         try clear c61
         try clear c62
         try clear c65
         try clear c67
         try clear c67b0
         try clear c67b1
         try clear c69
         try clear hcz13_0
         try clear hcz13_1
         try clear hcz18_0
         try clear hcz18_1
         try clear hcz28_0
         try clear hcz28_1
         try clear hcz29_0
         try clear hcz29_1
         try clear hcz34_0
         try clear hcz34_1
         try clear hcz35_0
         try clear hcz35_1
         try clear hcz40_0
         try clear hcz40_1
         try clear hcz41_0
         try clear hcz41_1
         try clear hcz43_0
         try clear hcz43_1
         try clear hcz46_0
         try clear hcz46_1
         try clear hcz47_0
         try clear hcz47_1
         try clear hcz50_0
         try clear hcz50_1
         try clear hcz51_0
         try clear hcz51_1
         try clear hcz53_0
         try clear hcz53_1
         try clear hcz54_0
         try clear hcz54_1
         try clear hfz13_0
         try clear hfz13_1
         try clear hfz18_0
         try clear hfz18_1
         try clear hfz28_0
         try clear hfz28_1
         try clear hfz29_0
         try clear hfz29_1
         try clear hfz34_0
         try clear hfz34_1
         try clear hfz35_0
         try clear hfz35_1
         try clear hfz40_0
         try clear hfz40_1
         try clear hfz41_0
         try clear hfz41_1
         try clear hfz43_0
         try clear hfz43_1
         try clear hfz46_0
         try clear hfz46_1
         try clear hfz47_0
         try clear hfz47_1
         try clear hfz50_0
         try clear hfz50_1
         try clear hfz51_0
         try clear hfz51_1
         try clear hfz53_0
         try clear hfz53_1
         try clear hfz54_0
         try clear hfz54_1
         try clear p2
         obtain ⟨kq, x107_65, rfl, HA, HJ65, HO_3, HO_4, HO_1856001, HO_1862001, BK1855, BK1861, HB⟩ := hcut; cases kq with
         | zero => exact absurd HA.out (by simp [laws_FnPatterns.j2])
         | succ kj65 =>
          have H := HA.out; clear HA; simp only [laws_FnPatterns.j2] at H; by_cases c78 : x107_65 = true
          ·subst c78; have H1 : (some false) = some r := by rw [if_pos rfl] at H; exact H
           rw [HRT.out] at H1; cases H1
          ·replace c78 := Bool.eq_false_iff.mpr c78; subst c78; have H1 : (if t1868 = true then (if (t1844.length : Int) > 1 then (if 1 ≤ (t1844.length : Int) then ((impl_AvoidsPattern.f kj65 (t1844.drop 1) t1845).bind fun t1879 => (laws_FnPatterns.j3 kj65 l0 (!t1879))) else (none)) else (laws_FnPatterns.j3 kj65 l0 false)) else (laws_FnPatterns.j3 kj65 l0 false)) = some r := by rw [if_neg (show ¬ (false = true) by decide)] at H; exact H
           clear H; have H := H1; clear H1; have HC79 := am H; clear H; go_upto_region 13 with (fail); go_cut [120] (fun v120 wc => ∃ (kq : Nat) (x120_78 : Bool), v120 = .bool x120_78 ∧ Aside0 (laws_FnPatterns.j3 kq l0 x120_78 = some r) ∧ Aside0 (kq ≤ kj65) ∧ Aside0 (Kd.R (Kd.int .i64) 3 wc w.heap.size (fun k_ => some k_ ≠ ((.slice Ao19 t1857.length co19) : Value).ownBlock) (.slice Ao14 t1851.length co14) t1851) ∧ Aside0 (Kd.R (Kd.int .i64) 3 wc w.heap.size (fun k_ => some k_ ≠ ((.slice Ao14 t1851.length co14) : Value).ownBlock) (.slice Ao19 t1857.length co19) t1857) ∧ Aside0 (wc.heap[gb1855]? = some (.cells #[.int .i64 t1850, (.slice Ao14 t1851.length co14)] 75 (0, 0))) ∧ Aside0 (wc.heap[gb1861]? = some (.cells #[.int .i64 t1856, (.slice Ao19 t1857.length co19)] 75 (0, 0))) ∧ Aside0 (Below w.heap.size w wc))
           case first =>
            have H := HC79.out; clear HC79; by_cases c80 : t1868 = true
            ·subst c80; have H1 : (if (t1844.length : Int) > 1 then (if 1 ≤ (t1844.length : Int) then ((impl_AvoidsPattern.f kj65 (t1844.drop 1) t1845).bind fun t1879 => (laws_FnPatterns.j3 kj65 l0 (!t1879))) else (none)) else (laws_FnPatterns.j3 kj65 l0 false)) = some r := by rw [if_pos rfl] at H; exact H
             clear H; have H := H1; clear H1; by_cases c81 : (t1844.length : Int) > 1
             ·rw [if_pos c81] at H; have c81b0 : decide (1 < (t1844.length : Int)) = true := decide_eq_true c81; have c81b1 : decide (1 < t1844.length) = true := decide_eq_true (by omega); clear c81
              (first | rw [c81b0] | (simp only [i64_w, i32_w]; rw [c81b0]) | skip)
              by_cases c82 : 1 ≤ (t1844.length : Int)
              ·rw [if_pos c82] at H; have c82b0 := eq_true c82; have c82b1 : decide (1 ≤ (t1844.length : Int)) = true := decide_eq_true c82; clear c82; obtain ⟨y1875, hy1875⟩ : ∃ y_ : List Int, y_ = (t1844.drop 1) := ⟨_, rfl⟩; replace H : ((impl_AvoidsPattern.f kj65 y1875 t1845).bind fun t1879 => (laws_FnPatterns.j3 kj65 l0 (!t1879))) = some r := by rw [hy1875]; first | exact H | exact (Option.bind_some _ _).symm.trans H
               have Ny1875 := am hy1875; clear hy1875; replace H := bE H; obtain ⟨t1879, A830, H⟩ := H; replace H : (laws_FnPatterns.j3 kj65 l0 (!t1879)) = some r := H; have A83 := am A830; clear A830; have H' := am H; clear H; have q84 : (1 : Int) ≤ ((t1844.length : Int) : Int) := oD; obtain ⟨i084, hi084, _, hsz84, _⟩ := info_parts info3; have hroom84 : t1844.length ≤ co9 := (Kd.R_reads' HO_3.out).2.1; have hC84 : Kd.C (Kd.int .i64) _ Ao9 t1844.length t1844 := (Kd.R_reads' HO_3.out).2.2; have hcut84 := cut_from (P := Try.prog) 22 3 .i64 Try.underlying22 hi084 1 hsz84 Ao9 t1844.length co9 1 (by omega) q84; have hr84 := Kd.C_drop (m := (1 : Int).toNat) (c := co9) hC84 (by omega) hroom84; obtain ⟨A84, hA84⟩ : ∃ A1, A1 = (if co9 = (1 : Int).toNat then Ao9 else (Ao9 : Option Addr).map (·.add ((1 : Int).toNat * 1))) := ⟨_, rfl⟩; obtain ⟨c84, hc84⟩ : ∃ c1, c1 = co9 - (1 : Int).toNat := ⟨_, rfl⟩; have hy84 : y1875.length = t1844.length - (1 : Int).toNat := (by rw [Ny1875.out, List.length_drop] <;> omega); rw [show (t1844).drop (1 : Int).toNat = y1875 from Ny1875.out.symm] at hr84; replace hr84 : Kd.C (Kd.int .i64) _ A84 y1875.length y1875 := (by rw [hA84]; exact hr84); rw [← hy84, ← hA84, ← hc84] at hcut84; have HR1878 := am hr84; have HC1878 := am (show y1875.length ≤ c84 from by rw [hy84, hc84]; exact Nat.sub_le_sub_right hroom84 _); clear hr84 hC84 hroom84 hi084 hsz84 hc84; have KY84 := am hy84; have KA84 := am hA84; clear hy84 hA84; have KL84 := am (show 1 ≤ t1844.length from by omega); replace q84 := eq_true q84; go_wp2_with (first | (go_at_call 55; (with_reducible refine (impl_AvoidsPattern.calls kj65 _ _ y1875 _ _ t1845 t1879 _ ?side1 ?side2 ?side3 ?side4 A83.out).mono ?_); (case side1 => repeat (first | exact (by repeat (first | (with_reducible exact HR1878.out) | (with_reducible refine Kd.C_alloc ?_ _) | (with_reducible refine Kd.C_drewN ?_ _) | (with_reducible refine Kd.C_drew ?_) | exact HR1878.out)) | (with_reducible refine Kd.C_alloc ?_ _) | (with_reducible refine Kd.C_drewN ?_ _) | (with_reducible refine Kd.C_drew ?_))); (case side2 => exact HC1878.out); (case side3 => exact xC ((Kd.R_reads' HO_4.out).2.2)); (case side4 => exact (Kd.R_reads' HO_4.out).2.1); rintro e w85 ⟨rfl, hb⟩; replace HO_3 := am (Kd.R_below (by exact rR HO_3) hb); replace HO_4 := am (Kd.R_below (by exact rR HO_4) hb); replace HO_1856001 := am (Kd.R_below (by exact rR HO_1856001) hb); replace HO_1862001 := am (Kd.R_below (by exact rR HO_1862001) hb); replace BK1855 := bK BK1855 hb; replace BK1861 := bK BK1861 hb; replace HR1878 := am (Kd.C_below (by repeat (first | (with_reducible exact HR1878.out) | (with_reducible refine Kd.C_alloc ?_ _) | (with_reducible refine Kd.C_drewN ?_ _) | (with_reducible refine Kd.C_drew ?_) | exact HR1878.out)) hb); replace HB := bS HB hb; clear hb)); go_meet
               case rel => exact ⟨_, (!t1879), (by first | rfl | (simp; done) | (simp [*]; done)), H', ⟨by have := HJ6.out; have := HJ56.out; have := HJ65.out; first | omega | exact Nat.le_refl _⟩, ⟨by exact xR (Kd.R_mono HO_1856001.out (fun _ hk => hk.2.2))⟩, ⟨by exact xR (Kd.R_mono HO_1862001.out (fun _ hk => hk.2.2))⟩, ⟨by exact rX BK1855⟩, ⟨by exact rX BK1861⟩, ⟨by exact rB HB⟩⟩
              ·rw [if_neg c82] at H; exact absurd H (by simp)
             ·rw [if_neg c81] at H; have c81b0 : decide (1 < (t1844.length : Int)) = false := decide_eq_false c81; have c81b1 : decide (1 < t1844.length) = false := decide_eq_false (by omega); clear c81
              (first | rw [c81b0] | (simp only [i64_w, i32_w]; rw [c81b0]) | skip)
              have H' := am H; clear H; go_wp2; go_meet
              case rel => exact ⟨_, (false), (by first | rfl | (simp; done) | (simp [*]; done)), H', ⟨by have := HJ6.out; have := HJ56.out; have := HJ65.out; first | omega | exact Nat.le_refl _⟩, ⟨by exact xR (Kd.R_mono HO_1856001.out (fun _ hk => hk.2.2))⟩, ⟨by exact xR (Kd.R_mono HO_1862001.out (fun _ hk => hk.2.2))⟩, ⟨by exact rX BK1855⟩, ⟨by exact rX BK1861⟩, ⟨by exact rB HB⟩⟩
            ·replace c80 := Bool.eq_false_iff.mpr c80; subst c80; have H1 : (laws_FnPatterns.j3 kj65 l0 false) = some r := by rw [if_neg (show ¬ (false = true) by decide)] at H; exact H
             clear H; have H := H1; clear H1; have H' := am H; clear H; go_wp2; go_meet
             case rel => exact ⟨_, (false), (by first | rfl | (simp; done) | (simp [*]; done)), H', ⟨by have := HJ6.out; have := HJ56.out; have := HJ65.out; first | omega | exact Nat.le_refl _⟩, ⟨by exact xR (Kd.R_mono HO_1856001.out (fun _ hk => hk.2.2))⟩, ⟨by exact xR (Kd.R_mono HO_1862001.out (fun _ hk => hk.2.2))⟩, ⟨by exact rX BK1855⟩, ⟨by exact rX BK1861⟩, ⟨by exact rB HB⟩⟩
           case rest =>
            clear HC79
            try clear c1
            try clear c2
            try clear p2
            try clear c3
            try clear c4
            try clear c5
            try clear c6
            try clear c7
            try clear c8
            try clear q8
            try clear c12
            try clear c17
            try clear c19
            try clear c20
            try clear c20b0
            try clear c20b1
            try clear c20b2
            try clear c21
            try clear c21b0
            try clear c21b1
            try clear c23
            try clear c26
            try clear c26b0
            try clear c26b1
            try clear c26b2
            try clear c27
            try clear c32
            try clear c32b0
            try clear c32b1
            try clear c32b2
            try clear c33
            try clear c37
            try clear c39
            try clear c45
            try clear c49
            try clear c52
            try clear c55
            try clear c59
            try clear c60
            try clear c60b0
            try clear c60b1
            try clear c60b2
            try clear c61
            try clear c62
            try clear c65
            try clear c67
            try clear c67b0
            try clear c67b1
            try clear c69
            try clear c78
            try clear c80
            try clear c81
            try clear c81b0
            try clear c81b1
            try clear c82
            try clear c82b0
            try clear c82b1
            try clear c84
            try clear q84
            try clear hcz13_0
            try clear hcz13_1
            try clear hcz18_0
            try clear hcz18_1
            try clear hcz28_0
            try clear hcz28_1
            try clear hcz29_0
            try clear hcz29_1
            try clear hcz34_0
            try clear hcz34_1
            try clear hcz35_0
            try clear hcz35_1
            try clear hcz40_0
            try clear hcz40_1
            try clear hcz41_0
            try clear hcz41_1
            try clear hcz43_0
            try clear hcz43_1
            try clear hcz46_0
            try clear hcz46_1
            try clear hcz47_0
            try clear hcz47_1
            try clear hcz50_0
            try clear hcz50_1
            try clear hcz51_0
            try clear hcz51_1
            try clear hcz53_0
            try clear hcz53_1
            try clear hcz54_0
            try clear hcz54_1
            try clear hfz13_0
            try clear hfz13_1
            try clear hfz18_0
            try clear hfz18_1
            try clear hfz28_0
            try clear hfz28_1
            try clear hfz29_0
            try clear hfz29_1
            try clear hfz34_0
            try clear hfz34_1
            try clear hfz35_0
            try clear hfz35_1
            try clear hfz40_0
            try clear hfz40_1
            try clear hfz41_0
            try clear hfz41_1
            try clear hfz43_0
            try clear hfz43_1
            try clear hfz46_0
            try clear hfz46_1
            try clear hfz47_0
            try clear hfz47_1
            try clear hfz50_0
            try clear hfz50_1
            try clear hfz51_0
            try clear hfz51_1
            try clear hfz53_0
            try clear hfz53_1
            try clear hfz54_0
            try clear hfz54_1
            try clear p2
            try clear q84
            obtain ⟨kq, x120_78, rfl, HA, HJ78, HO_1856001, HO_1862001, BK1855, BK1861, HB⟩ := hcut; cases kq with
            | zero => exact absurd HA.out (by simp [laws_FnPatterns.j3])
            | succ kj78 =>
             have H := HA.out; clear HA; simp only [laws_FnPatterns.j3] at H; by_cases c86 : x120_78 = true
             ·subst c86; have H1 : (some false) = some r := by rw [if_pos rfl] at H; exact H
              rw [HRT.out] at H1; cases H1
             ·replace c86 := Bool.eq_false_iff.mpr c86; subst c86; have H1 : ((spec_DrawMatchAt.f kj78 l0).bind fun bt1880 => ((spec_DrawMatchLength.f kj78 l0).bind fun bt1890 => ((impl_MatchAt.f kj78 bt1880.1 bt1880.2.1 bt1880.2.2.1 bt1880.2.2.2).bind fun t1896 => ((spec_MatchAt.f kj78 bt1880.1 bt1880.2.1 bt1880.2.2.1 bt1880.2.2.2).bind fun t1897 => (if (t1896 == t1897) = true then ((impl_MatchLength.f kj78 bt1890.1 bt1890.2).bind fun t1898 => ((spec_MatchLength.f kj78 bt1890.1 bt1890.2).bind fun t1899 => (some (t1898 == t1899)))) else (some false)))))) = some r := by rw [if_neg (show ¬ (false = true) by decide)] at H; exact H
              clear H; have H := H1; clear H1; replace H := bE H; obtain ⟨⟨t1880, t1881, t1882, t1883⟩, A870, H⟩ := H; replace H : ((spec_DrawMatchLength.f kj78 l0).bind fun bt1890 => ((impl_MatchAt.f kj78 t1880 t1881 t1882 t1883).bind fun t1896 => ((spec_MatchAt.f kj78 t1880 t1881 t1882 t1883).bind fun t1897 => (if (t1896 == t1897) = true then ((impl_MatchLength.f kj78 bt1890.1 bt1890.2).bind fun t1898 => ((spec_MatchLength.f kj78 bt1890.1 bt1890.2).bind fun t1899 => (some (t1898 == t1899)))) else (some false))))) = some r := H; have A87 := am A870; clear A870; replace H := bE H; obtain ⟨⟨t1890, t1891⟩, A880, H⟩ := H; replace H : ((impl_MatchAt.f kj78 t1880 t1881 t1882 t1883).bind fun t1896 => ((spec_MatchAt.f kj78 t1880 t1881 t1882 t1883).bind fun t1897 => (if (t1896 == t1897) = true then ((impl_MatchLength.f kj78 t1890 t1891).bind fun t1898 => ((spec_MatchLength.f kj78 t1890 t1891).bind fun t1899 => (some (t1898 == t1899)))) else (some false)))) = some r := H; have A88 := am A880; clear A880; replace H := bE H; obtain ⟨t1896, A890, H⟩ := H; replace H : ((spec_MatchAt.f kj78 t1880 t1881 t1882 t1883).bind fun t1897 => (if (t1896 == t1897) = true then ((impl_MatchLength.f kj78 t1890 t1891).bind fun t1898 => ((spec_MatchLength.f kj78 t1890 t1891).bind fun t1899 => (some (t1898 == t1899)))) else (some false))) = some r := H; have A89 := am A890; clear A890; replace H := bE H; obtain ⟨t1897, A900, H⟩ := H; replace H : (if (t1896 == t1897) = true then ((impl_MatchLength.f kj78 t1890 t1891).bind fun t1898 => ((spec_MatchLength.f kj78 t1890 t1891).bind fun t1899 => (some (t1898 == t1899)))) else (some false)) = some r := H; have A90 := am A900; clear A900; by_cases c91 : (t1896 == t1897) = true
              ·rw [if_pos c91] at H; have c91b0 : (t1896 == t1897) = true := c91; (try (have c91b1 : decide (t1896 = t1897) = true := by simpa using c91)); (try (have c91b2 : (t1896 == t1897) = true := by simpa using c91)); clear c91; replace H := bE H; obtain ⟨t1898, A920, H⟩ := H; replace H : ((spec_MatchLength.f kj78 t1890 t1891).bind fun t1899 => (some (t1898 == t1899))) = some r := H; have A92 := am A920; clear A920; replace H := bE H; obtain ⟨t1899, A930, H⟩ := H; replace H : (some (t1898 == t1899)) = some r := H; have A93 := am A930; clear A930; obtain rfl := Option.some.inj H; go_wp2_with (first | ((with_reducible refine gate_callee (f := 69) rfl ?_); refine goesL_ (some 123) rfl rfl Try.func69 (by kernel_rfl) rfl #[.slice A0 l0.length c0] rfl (by (try simp only [mT, mC, mN]); first | done | rfl) ?_; (with_reducible refine (spec_DrawMatchAt.calls kj78 _ _ l0 t1880 t1881 t1882 t1883 _ ?side1 ?side2 A87.out).mono ?_); (case side1 => exact xC ((Kd.C_below HR0.out HB.out))); (case side2 => exact HC0.out); rintro e w94 ⟨v1884, v1886, v1888, rfl, ho0, ho1, ho2, hb⟩; refine ⟨_, rfl, ?_⟩; have HO1885 := am (Kd.R_lower (Kd.R_new' (Kd.R_new' ho0 (Kd.R_lt (by exact rR HO_1856001))) (Kd.R_lt (by exact rR HO_1862001))) (bZ HB)); have HO1887 := am (Kd.R_lower (Kd.R_new' (Kd.R_new' ho1 (Kd.R_lt (by exact rR HO_1856001))) (Kd.R_lt (by exact rR HO_1862001))) (bZ HB)); have HO1889 := am (Kd.R_lower (Kd.R_new' (Kd.R_new' ho2 (Kd.R_lt (by exact rR HO_1856001))) (Kd.R_lt (by exact rR HO_1862001))) (bZ HB)); replace HO_1856001 := am (Kd.R_mono (Kd.R_told (Kd.R_told (Kd.R_told (Kd.R_old (by exact rR HO_1856001) hb) (Kd.R_base ho0)) (Kd.R_base ho1)) (Kd.R_base ho2)) (fun _ h_ => h_.1)); replace HO_1862001 := am (Kd.R_mono (Kd.R_told (Kd.R_told (Kd.R_told (Kd.R_old (by exact rR HO_1862001) hb) (Kd.R_base ho0)) (Kd.R_base ho1)) (Kd.R_base ho2)) (fun _ h_ => h_.1)); replace BK1855 := bK BK1855 hb; replace BK1861 := bK BK1861 hb; replace HB := bS HB hb; clear hb ho0 ho1 ho2) | ((with_reducible refine gate_callee (f := 70) rfl ?_); refine goesL_ (some 130) rfl rfl Try.func70 (by kernel_rfl) rfl #[.slice A0 l0.length c0] rfl (by (try simp only [mT, mC, mN]); first | done | rfl) ?_; (with_reducible refine (spec_DrawMatchLength.calls kj78 _ _ l0 t1890 t1891 _ ?side1 ?side2 A88.out).mono ?_); (case side1 => exact xC ((Kd.C_below HR0.out HB.out))); (case side2 => exact HC0.out); rintro e w95 ⟨v1892, v1894, rfl, ho0, ho1, hb⟩; refine ⟨_, rfl, ?_⟩; have HO1893 := am (Kd.R_lower (Kd.R_new' (Kd.R_new' (Kd.R_new' (Kd.R_new' (Kd.R_new' ho0 (Kd.R_lt (by exact rR HO_1856001))) (Kd.R_lt (by exact rR HO_1862001))) (Kd.R_lt (by exact rR HO1885))) (Kd.R_lt (by exact rR HO1887))) (Kd.R_lt (by exact rR HO1889))) (bZ HB)); have HO1895 := am (Kd.R_lower (Kd.R_new' (Kd.R_new' (Kd.R_new' (Kd.R_new' (Kd.R_new' ho1 (Kd.R_lt (by exact rR HO_1856001))) (Kd.R_lt (by exact rR HO_1862001))) (Kd.R_lt (by exact rR HO1885))) (Kd.R_lt (by exact rR HO1887))) (Kd.R_lt (by exact rR HO1889))) (bZ HB)); replace HO_1856001 := am (Kd.R_mono (Kd.R_told (Kd.R_told (Kd.R_old (by exact rR HO_1856001) hb) (Kd.R_base ho0)) (Kd.R_base ho1)) (fun _ h_ => h_.1)); replace HO_1862001 := am (Kd.R_mono (Kd.R_told (Kd.R_told (Kd.R_old (by exact rR HO_1862001) hb) (Kd.R_base ho0)) (Kd.R_base ho1)) (fun _ h_ => h_.1)); replace HO1885 := am (Kd.R_mono (Kd.R_told (Kd.R_told (Kd.R_old (by exact rR HO1885) hb) (Kd.R_base ho0)) (Kd.R_base ho1)) (fun _ h_ => h_.1)); replace HO1887 := am (Kd.R_mono (Kd.R_told (Kd.R_told (Kd.R_old (by exact rR HO1887) hb) (Kd.R_base ho0)) (Kd.R_base ho1)) (fun _ h_ => h_.1)); replace HO1889 := am (Kd.R_mono (Kd.R_told (Kd.R_told (Kd.R_old (by exact rR HO1889) hb) (Kd.R_base ho0)) (Kd.R_base ho1)) (fun _ h_ => h_.1)); replace BK1855 := bK BK1855 hb; replace BK1861 := bK BK1861 hb; replace HB := bS HB hb; clear hb ho0 ho1; obtain ⟨Ao96, co96, eo96⟩ := Kd.R_slice HO1885.out; subst eo96; obtain ⟨Ao97, co97, eo97⟩ := Kd.R_slice HO1887.out; subst eo97; obtain ⟨Ao98, co98, eo98⟩ := Kd.R_slice HO1889.out; subst eo98) | ((with_reducible refine gate_callee (f := 66) rfl ?_); refine goesL_ (some 137) rfl rfl Try.func66 (by kernel_rfl) rfl #[.slice Ao96 t1880.length co96, .slice Ao97 t1881.length co97, .int .i64 t1882, .slice Ao98 t1883.length co98] rfl (by (try simp only [mT, mC, mN]); first | done | rfl) ?_; (with_reducible refine (impl_MatchAt.calls kj78 _ _ t1880 _ _ t1881 t1882 _ _ t1883 t1896 _ ?side1 ?side2 ?side3 ?side4 ?side5 ?side6 A89.out).mono ?_); (case side1 => exact xC ((Kd.R_reads' HO1885.out).2.2)); (case side2 => exact (Kd.R_reads' HO1885.out).2.1); (case side3 => exact xC ((Kd.R_reads' HO1887.out).2.2)); (case side4 => exact (Kd.R_reads' HO1887.out).2.1); (case side5 => exact xC ((Kd.R_reads' HO1889.out).2.2)); (case side6 => exact (Kd.R_reads' HO1889.out).2.1); rintro e w99 ⟨rfl, hb⟩; refine ⟨_, rfl, ?_⟩; replace HO_1856001 := am (Kd.R_below (by exact rR HO_1856001) hb); replace HO_1862001 := am (Kd.R_below (by exact rR HO_1862001) hb); replace HO1885 := am (Kd.R_below (by exact rR HO1885) hb); replace HO1887 := am (Kd.R_below (by exact rR HO1887) hb); replace HO1889 := am (Kd.R_below (by exact rR HO1889) hb); replace HO1893 := am (Kd.R_below (by exact rR HO1893) hb); replace HO1895 := am (Kd.R_below (by exact rR HO1895) hb); replace BK1855 := bK BK1855 hb; replace BK1861 := bK BK1861 hb; replace HB := bS HB hb; clear hb) | ((with_reducible refine gate_callee (f := 71) rfl ?_); refine goesL_ (some 142) rfl rfl Try.func71 (by kernel_rfl) rfl #[.slice Ao96 t1880.length co96, .slice Ao97 t1881.length co97, .int .i64 t1882, .slice Ao98 t1883.length co98] rfl (by (try simp only [mT, mC, mN]); first | done | rfl) ?_; (with_reducible refine (spec_MatchAt.calls kj78 _ _ t1880 _ _ t1881 t1882 _ _ t1883 t1897 _ ?side1 ?side2 ?side3 ?side4 ?side5 ?side6 A90.out).mono ?_); (case side1 => exact xC ((Kd.R_reads' HO1885.out).2.2)); (case side2 => exact (Kd.R_reads' HO1885.out).2.1); (case side3 => exact xC ((Kd.R_reads' HO1887.out).2.2)); (case side4 => exact (Kd.R_reads' HO1887.out).2.1); (case side5 => exact xC ((Kd.R_reads' HO1889.out).2.2)); (case side6 => exact (Kd.R_reads' HO1889.out).2.1); rintro e w100 ⟨rfl, hb⟩; refine ⟨_, rfl, ?_⟩; replace HO_1856001 := am (Kd.R_below (by exact rR HO_1856001) hb); replace HO_1862001 := am (Kd.R_below (by exact rR HO_1862001) hb); replace HO1885 := am (Kd.R_below (by exact rR HO1885) hb); replace HO1887 := am (Kd.R_below (by exact rR HO1887) hb); replace HO1889 := am (Kd.R_below (by exact rR HO1889) hb); replace HO1893 := am (Kd.R_below (by exact rR HO1893) hb); replace HO1895 := am (Kd.R_below (by exact rR HO1895) hb); replace BK1855 := bK BK1855 hb; replace BK1861 := bK BK1861 hb; replace HB := bS HB hb; clear hb; obtain ⟨Ao101, co101, eo101⟩ := Kd.R_slice HO1893.out; subst eo101; obtain ⟨Ao102, co102, eo102⟩ := Kd.R_slice HO1895.out; subst eo102) | (go_at_call 72; (with_reducible refine (impl_MatchLength.calls kj78 _ _ t1890 _ _ t1891 t1898 _ ?side1 ?side2 ?side3 ?side4 A92.out).mono ?_); (case side1 => exact xC ((Kd.R_reads' HO1893.out).2.2)); (case side2 => exact (Kd.R_reads' HO1893.out).2.1); (case side3 => exact xC ((Kd.R_reads' HO1895.out).2.2)); (case side4 => exact (Kd.R_reads' HO1895.out).2.1); rintro e w' ⟨rfl, ⟨nd, rfl⟩⟩) | (go_at_call 73; (with_reducible refine (spec_MatchLength.calls kj78 _ _ t1890 _ _ t1891 t1899 _ ?side1 ?side2 ?side3 ?side4 A93.out).mono ?_); (case side1 => exact xC ((Kd.R_reads' HO1893.out).2.2)); (case side2 => exact (Kd.R_reads' HO1893.out).2.1); (case side3 => exact xC ((Kd.R_reads' HO1895.out).2.2)); (case side4 => exact (Kd.R_reads' HO1895.out).2.1); rintro e w103 ⟨rfl, hb⟩; replace HO_1856001 := am (Kd.R_below (by exact rR HO_1856001) hb); replace HO_1862001 := am (Kd.R_below (by exact rR HO_1862001) hb); replace HO1885 := am (Kd.R_below (by exact rR HO1885) hb); replace HO1887 := am (Kd.R_below (by exact rR HO1887) hb); replace HO1889 := am (Kd.R_below (by exact rR HO1889) hb); replace HO1893 := am (Kd.R_below (by exact rR HO1893) hb); replace HO1895 := am (Kd.R_below (by exact rR HO1895) hb); replace BK1855 := bK BK1855 hb; replace BK1861 := bK BK1861 hb; replace HB := bS HB hb; clear hb)); go_ret; exact ⟨by first | rfl | (simp [errW_none, errW_some] <;> rfl) | (simp [*, errW_none, errW_some] <;> rfl), by exact rB HB⟩
              ·rw [if_neg c91] at H; rw [HRT.out] at H; cases H
/-- THE ONE PURE STATEMENT of laws_FnPatterns: yours. -/
def laws_FnPatterns.Pure : Prop := ∀ (l0 : List Int), l0.length ≤ maxLen → l0.length * 1 ≤ 140737488351232 → (∀ x ∈ l0, (Lit.int .u8 x).wf = true) → ∃ k, laws_FnPatterns.f k l0 = some true
theorem laws_FnPatterns.walk (P : laws_FnPatterns.Pure) (a0 : Option Addr) (len0 cap0 : Nat) (z0 : List Int) (w : World) (w0 : (a0 = none ∧ len0 = 0 ∧ cap0 = 0 ∧ z0 = []) ∨ ∃ x, a0 = some x ∧ len0 ≤ cap0 ∧ cap0 ≤ maxLen ∧ z0.length = cap0 ∧ (∀ i, i < z0.length → w.cell? (x.add i) = some (.int .u8 (z0.getD i 0))) ∧ ∀ n ∈ z0, (Lit.int .u8 n).wf = true) (y0 : len0 * 1 ≤ 140737488351232) :
  Calls Try.prog 12 #[.slice a0 len0 cap0] w fun e w' => e = .returned (.bool true) ∧ Below w.heap.size w w' := by
 obtain ⟨l0, rfl, hr0, hm0, hw0, hc0⟩ := ReadsInt.ofRowC w0; obtain ⟨k, h⟩ := P l0 hm0 y0 hw0; refine (laws_FnPatterns.calls k _ _ l0 true w (Kd.C_of_reads (d := (0 : Int)) (h1 := fun _ => rfl) hr0) hc0 h rfl).mono ?_; rintro e w' ⟨rfl, hd⟩; exact ⟨rfl, hd⟩
end Go.Proofs.Ythkkpdgadfhijaa.M
/- Patterns and matches as values: program and reference tell the same. No condition but lengths that fit. -/
namespace Go.Proofs.Ythkkpdgadfhijaa.M
open Go.RowKit Go.Proofs.YthkkpdgadfhijaaW.PrintWords Go.Proofs.Ythkkpdgadfhijaa.K
set_option linter.unusedVariables false
theorem in_val (x a b : Int) : spec_l1In.f x a b = some (decide (a ≤ x ∧ x ≤ b)) := by
 unfold spec_l1In.f; by_cases h : x ≥ a
 ·rw [_root_.if_pos h]; by_cases k : x ≤ b
  ·rw [decide_eq_true k, decide_eq_true ⟨h, k⟩]
  ·rw [decide_eq_false k, decide_eq_false (fun q => k q.2)]
 ·rw [_root_.if_neg h, decide_eq_false (fun q => h q.1)]
/-- The letters of a pattern, counted as they come; none: it is no pattern. -/
def ngo : List Int → Nat → Option Nat
 | [], m => some m
 | x :: p, m => if x < 0 ∨ (m : Int) < x then none else ngo p (if x = (m : Int) then m + 1 else m)
def isPat (p : List Int) : Bool := match ngo p 0 with
 | none => false
 | some m => decide (p.length ≤ 6 ∧ m ≤ 3 ∧ 1 ≤ m)
def nl (p : List Int) : Nat := (ngo p 0).getD 0
theorem ngo_le (p : List Int) : ∀ m m', ngo p m = some m' → m ≤ m' ∧ m' ≤ m + p.length := by
 induction p with
 | nil => intro m m' h; simp only [ngo] at h; obtain rfl := Option.some.inj h; simp
 | cons x p ih =>
  intro m m' h; simp only [ngo] at h; split at h
  ·cases h
  ·have := ih _ _ h; simp only [List.length_cons]; split at this <;> omega
theorem ngo_pos (p : List Int) (m' : Nat) (h : ngo p 0 = some m') : 1 ≤ m' ↔ 1 ≤ p.length := by
 cases p with
 | nil => simp only [ngo] at h; obtain rfl := Option.some.inj h; simp
 | cons x p =>
  simp only [ngo] at h; split at h
  ·cases h
  ·rename_i q; have hx : x = 0 := by omega
   subst hx; have := ngo_le _ _ _ h; rw [_root_.if_pos (by rfl)] at this; simp only [List.length_cons]; omega
theorem ngo_mem (p : List Int) : ∀ m m', ngo p m = some m' → (∀ x ∈ p, 0 ≤ x ∧ x < (m' : Int)) ∧ ∀ j : Nat, m ≤ j → j < m' → (j : Int) ∈ p := by
 induction p with
 | nil => intro m m' h; simp only [ngo] at h; obtain rfl := Option.some.inj h; exact ⟨by simp, fun j h1 h2 => by omega⟩
 | cons x p ih =>
  intro m m' h; simp only [ngo] at h; split at h
  ·cases h
  ·rename_i q; obtain ⟨h1, h2⟩ := ih _ _ h; have h3 := ngo_le _ _ _ h; refine ⟨fun y hy => ?_, fun j hj hj' => ?_⟩
   ·rcases List.mem_cons.1 hy with rfl | hy
    ·split at h3 <;> omega
    ·exact h1 y hy
   ·by_cases e : x = (m : Int)
    ·rw [_root_.if_pos e] at h2; by_cases e2 : j = m
     ·subst e2; rw [e]; exact List.mem_cons_self ..
     ·exact List.mem_cons_of_mem _ (h2 j (by omega) hj')
    ·rw [_root_.if_neg e] at h2; exact List.mem_cons_of_mem _ (h2 j hj hj')
theorem specIsPattern_ev (p : List Int) (hp : p.length ≤ 1048576) : Ev (fun k => spec_IsPattern.f k p) (isPat p) := by
 have key : ∀ i, i ≤ p.length → ∀ m : Nat, m ≤ 3 → m ≤ i → Ev (fun k => spec_IsPattern.l0 k p (m : Int) (i : Int)) (match ngo (p.drop i) m with | none => false | some m' => decide (p.length ≤ 6 ∧ m' ≤ 3 ∧ 1 ≤ p.length)) := by
  refine down p.length ?_ ?_
  ·intro m hm hi; refine Ev.step (fun k => by simp only [spec_IsPattern.l0]; rw [_root_.if_neg (by omega)]) ?_; refine Ev.bind (Ev.val (in_val _ _ _)) ?_; rw [List.drop_length]; simp only [ngo]; refine Ev.same (Ev.some _) ?_; exact decide_eq_decide.2 (by omega)
  ·intro i hi ih m hm hmi; rw [drop_eq p i hi]; simp only [ngo]; have bad : ∀ b, b = true → Ev (fun k => spec_IsPattern.j1 k p (m : Int) (i : Int) b) false := fun b hb => by
    refine Ev.step (fun k => by simp only [spec_IsPattern.j1]; rw [_root_.if_pos hb]) ?_; exact Ev.some _
   refine Ev.step (fun k => by simp only [spec_IsPattern.l0]; rw [_root_.if_pos (by omega), _root_.if_pos (by omega), rd_get p i hi]) ?_; refine Ev.ite (fun q1 => ?_) (fun q1 => ?_)
   ·rw [_root_.if_pos (Or.inl q1)]; exact bad _ rfl
   ·refine Ev.ite (fun q2 => ?_) (fun q2 => ?_)
    ·rw [_root_.if_pos (Or.inr q2)]; exact bad _ rfl
    ·rw [_root_.if_neg (by omega)]; by_cases q3 : p[i] > 2
     ·rw [decide_eq_true q3]; refine Ev.same (bad _ rfl) ?_; have e1 : p[i] = (m : Int) := by omega
      rw [_root_.if_pos e1]; split
      ·rfl
      ·rename_i m' h; have := ngo_le _ _ _ h; rw [decide_eq_false (by omega)]
     ·rw [decide_eq_false q3]; refine Ev.step (fun k => by simp only [spec_IsPattern.j1]; rw [_root_.if_neg (by simp), _root_.if_pos (by omega), _root_.if_pos (by omega), rd_get p i hi, wsucc (i := m) (by omega), wsucc (i := i) (by omega)]) ?_; refine Ev.ite (fun e => ?_) (fun e => ?_)
      ·rw [_root_.if_pos e]; exact ih (m + 1) (by omega) (by omega)
      ·rw [_root_.if_neg e]; exact ih m hm (by omega)
 have := key 0 (by omega) 0 (by omega) (by omega); unfold spec_IsPattern.f; refine Ev.same this ?_; unfold isPat; rw [List.drop_zero]; split
 ·rfl
 ·rename_i m h; have := ngo_pos p m h; exact decide_eq_decide.2 (by omega)
theorem implLetters_ev (p : List Int) (hp : p.length ≤ 1048576) : Ev (fun k => impl_patternLetters.f k p) (if isPat p = true then (nl p : Int) else 0) := by
 have key : ∀ i, i ≤ p.length → ∀ m : Nat, m ≤ i → Ev (fun k => impl_patternLetters.l0 k p (m : Int) p (p.length : Int) (i : Int)) (match ngo (p.drop i) m with | none => 0 | some m' => if p.length ≤ 6 ∧ m' ≤ 3 then (m' : Int) else 0) := by
  refine down p.length ?_ ?_
  ·intro m hm; refine Ev.step (fun k => by simp only [impl_patternLetters.l0]; rw [_root_.if_neg (by omega)]) ?_; rw [List.drop_length]; simp only [ngo]; refine Ev.ite (fun q => ?_) (fun q => ?_)
   ·rw [_root_.if_neg (by omega)]; exact Ev.some _
   ·refine Ev.ite (fun q2 => ?_) (fun q2 => ?_)
    ·rw [_root_.if_neg (by omega)]; exact Ev.some _
    ·rw [_root_.if_pos (by omega)]; exact Ev.some _
  ·intro i hi ih m hmi; rw [drop_eq p i hi]; simp only [ngo]; have bad : ∀ b, b = true → Ev (fun k => impl_patternLetters.j1 k p (m : Int) p[i] p (p.length : Int) (i : Int) b) 0 := fun b hb => by
    refine Ev.step (fun k => by simp only [impl_patternLetters.j1]; rw [_root_.if_pos hb]) ?_; exact Ev.some _
   refine Ev.step (fun k => by simp only [impl_patternLetters.l0]; rw [_root_.if_pos (by omega), _root_.if_pos (by omega), _root_.if_pos (by omega), rd_get p i hi]) ?_; refine Ev.ite (fun q1 => ?_) (fun q1 => ?_)
   ·rw [_root_.if_pos (Or.inl q1)]; exact bad _ rfl
   ·by_cases q2 : p[i] > (m : Int)
    ·rw [decide_eq_true q2, _root_.if_pos (Or.inr q2)]; exact bad _ rfl
    ·rw [decide_eq_false q2, _root_.if_neg (by omega)]; refine Ev.step (fun k => by simp only [impl_patternLetters.j1]; rw [_root_.if_neg (by simp), wsucc (i := m) (by omega), wsucc (i := i) (by omega)]) ?_; refine Ev.ite (fun e => ?_) (fun e => ?_)
     ·rw [_root_.if_pos e]; exact ih (m + 1) (by omega)
     ·rw [_root_.if_neg e]; exact ih m (by omega)
 have := key 0 (by omega) 0 (by omega); unfold impl_patternLetters.f; refine Ev.same this ?_; unfold isPat nl; rw [List.drop_zero]; cases h : ngo p 0 with
 | none => rfl
 | some m =>
  simp only [Option.getD_some]; by_cases q : p.length ≤ 6 ∧ m ≤ 3
  ·rw [_root_.if_pos q]; by_cases q2 : 1 ≤ m
   ·rw [decide_eq_true ⟨q.1, q.2, q2⟩, _root_.if_pos rfl]
   ·rw [decide_eq_false (fun x => q2 x.2.2), _root_.if_neg (by simp)]; omega
  ·rw [_root_.if_neg q, decide_eq_false (fun x => q ⟨x.1, x.2.1⟩), _root_.if_neg (by simp)]
theorem isPat_nl {p : List Int} (h : isPat p = true) : ngo p 0 = some (nl p) ∧ p.length ≤ 6 ∧ nl p ≤ 3 ∧ 1 ≤ nl p := by
 unfold isPat at h; unfold nl; cases q : ngo p 0 with
 | none => rw [q] at h; cases h
 | some m => rw [q] at h; exact ⟨rfl, of_decide_eq_true h⟩
theorem implIsPattern_ev (p : List Int) (hp : p.length ≤ 1048576) : Ev (fun k => impl_IsPattern.f k p) (isPat p) := by
 unfold impl_IsPattern.f; refine Ev.bind (implLetters_ev p hp) (Ev.same (Ev.some _) ?_); cases h : isPat p with
 | false => simp
 | true => rw [_root_.if_pos rfl]; have := (isPat_nl h).2.2.2; exact decide_eq_true (by omega)
/-- For a pattern alone. -/
theorem specLetters_ev (p : List Int) (h : isPat p = true) : Ev (fun k => spec_l28Letters.f k p) (nl p : Int) := by
 obtain ⟨h0, h6, h3, h1⟩ := isPat_nl h; have key : ∀ i, i ≤ p.length → ∀ m : Nat, m ≤ 10 → ngo (p.drop i) m = some (nl p) → Ev (fun k => spec_l28Letters.l0 k p (m : Int) (i : Int)) (nl p : Int) := by
  refine down p.length ?_ ?_
  ·intro m hm hn; refine Ev.step (fun k => by simp only [spec_l28Letters.l0]; rw [_root_.if_neg (by omega)]) ?_; rw [List.drop_length] at hn; simp only [ngo] at hn; obtain e := Option.some.inj hn; rw [e]; exact Ev.some _
  ·intro i hi ih m hm hn; rw [drop_eq p i hi] at hn; simp only [ngo] at hn; split at hn
   ·cases hn
   ·rename_i q; have hle := ngo_le _ _ _ hn; have e : mx (m : Int) (wrap64 (p[i] + 1)) = ((if p[i] = (m : Int) then m + 1 else m : Nat) : Int) := by
     rw [w_id (by omega) (by omega)]; unfold mx; split <;> split <;> omega
    refine Ev.step (fun k => by simp only [spec_l28Letters.l0]; rw [_root_.if_pos (by omega), _root_.if_pos (by omega), rd_get p i hi, e, wsucc (i := i) (by omega)]) ?_; exact ih _ (by split at hle <;> split <;> omega) hn
 exact key 0 (by omega) 0 (by omega) (by rw [List.drop_zero]; exact h0)
/-- Lengths that fit a pattern. -/
def okL (p L : List Int) : Bool := isPat p && (decide (L.length = nl p) && L.all fun y => decide (1 ≤ y ∧ y ≤ 40))
theorem specLengths_ev (p L : List Int) (hp : p.length ≤ 1048576) (hL : L.length ≤ 1048576) : Ev (fun k => spec_l28Lengths.f k p L) (okL p L) := by
 have key : ∀ i, i ≤ L.length → Ev (fun k => spec_l28Lengths.l0 k p L (i : Int)) (isPat p && (decide (L.length = nl p) && (L.drop i).all fun y => decide (1 ≤ y ∧ y ≤ 40))) := by
  refine down L.length ?_ ?_
  ·refine Ev.step (fun k => by simp only [spec_l28Lengths.l0]; rw [_root_.if_neg (by omega)]) ?_; refine Ev.bind (specIsPattern_ev p hp) ?_; rw [List.drop_length]; cases h : isPat p with
   | false => exact Ev.if_neg (by simp) (Ev.some _)
   | true =>
    refine Ev.if_pos rfl (Ev.bind (specLetters_ev p h) (Ev.same (Ev.some _) ?_)); rw [List.all_nil, Bool.and_true, Bool.true_and, Bool.eq_iff_iff, beq_iff_eq, decide_eq_true_iff]; omega
  ·intro i hi ih; rw [drop_eq L i hi, List.all_cons]; refine Ev.step (fun k => by simp only [spec_l28Lengths.l0]; rw [_root_.if_pos (by omega), _root_.if_pos (by omega), rd_get L i hi, wsucc (i := i) (by omega)]) ?_; refine Ev.bind (Ev.val (in_val _ _ _)) ?_; by_cases q : 1 ≤ L[i] ∧ L[i] ≤ 40
   ·rw [decide_eq_true q, Bool.true_and]; exact Ev.if_pos rfl ih
   ·rw [decide_eq_false q, Bool.false_and, Bool.and_false, Bool.and_false]; exact Ev.if_neg (by simp) (Ev.some _)
 exact key 0 (by omega)
theorem implLengths_ev (p L : List Int) (hp : p.length ≤ 1048576) (hL : L.length ≤ 1048576) : Ev (fun k => impl_areLengths.f k p L) (okL p L) := by
 have bad : ∀ b, b = true → Ev (fun k => impl_areLengths.j0 k L b) false := fun b hb => by
  refine Ev.step (fun k => by simp only [impl_areLengths.j0]; rw [_root_.if_pos hb]) ?_; exact Ev.some _
 unfold impl_areLengths.f okL; refine Ev.bind (implIsPattern_ev p hp) ?_; cases h : isPat p with
 | false => exact Ev.if_neg (by simp) (bad _ rfl)
 | true =>
  refine Ev.if_pos rfl (Ev.bind (implLetters_ev p hp) ?_); rw [_root_.if_pos h, Bool.true_and]; by_cases e : L.length = nl p
  ·rw [e, decide_eq_true rfl, Bool.true_and]; have hne : ((nl p : Int) != (nl p : Int)) = false := by simp
   rw [hne]; have key : ∀ i, i ≤ L.length → Ev (fun k => impl_areLengths.l0 k L (L.length : Int) (i : Int)) ((L.drop i).all fun y => decide (1 ≤ y ∧ y ≤ 40)) := by
    refine down L.length ?_ ?_
    ·refine Ev.step (fun k => by simp only [impl_areLengths.l0]; rw [_root_.if_neg (by omega)]) ?_; rw [List.drop_length]; exact Ev.some _
    ·intro i hi ih; rw [drop_eq L i hi, List.all_cons]; refine Ev.step (fun k => by simp only [impl_areLengths.l0]; rw [_root_.if_pos (by omega), _root_.if_pos (by omega), _root_.if_pos (by omega), rd_get L i hi, wsucc (i := i) (by omega)]) ?_; refine Ev.ite (fun q => ?_) (fun q => ?_)
     ·rw [decide_eq_false (by omega), Bool.false_and]; exact Ev.some _
     ·refine Ev.ite (fun q2 => ?_) (fun q2 => ?_)
      ·rw [decide_eq_false (by omega), Bool.false_and]; exact Ev.some _
      ·rw [decide_eq_true (by omega), Bool.true_and]; exact ih
   refine Ev.step (fun k => by simp only [impl_areLengths.j0]; rw [_root_.if_neg (by simp)]) ?_; exact key 0 (by omega)
  ·rw [decide_eq_false e, Bool.false_and]; exact bad _ (by rw [bne_iff_ne]; omega)
def isL (w : List Int) (n : Nat) : Bool := w.all fun x => decide (0 ≤ x ∧ x < (n : Int))
theorem isL_cons (x : Int) (w : List Int) (n : Nat) : isL (x :: w) n = (decide (0 ≤ x ∧ x < (n : Int)) && isL w n) := by simp [isL]
def iw (w : List Int) (n : Nat) : Bool := isL w n && (decide (1 ≤ n ∧ n ≤ 16) && decide (w.length ≤ 400))
theorem specIsWord_ev (w : List Int) (n : Nat) (hw : w.length ≤ 1048576) : Ev (fun k => spec_IsWord.f k w (n : Int)) (iw w n) := by
 have key : ∀ i, i ≤ w.length → Ev (fun k => spec_IsWord.l0 k w (n : Int) (i : Int)) (isL (w.drop i) n && (decide (1 ≤ n ∧ n ≤ 16) && decide (w.length ≤ 400))) := by
  refine down w.length ?_ ?_
  ·refine Ev.step (fun k => by simp only [spec_IsWord.l0]; rw [_root_.if_neg (by omega)]) ?_; refine Ev.bind (Ev.val (in_val _ _ _)) ?_; rw [List.drop_length]; by_cases q : 1 ≤ n ∧ n ≤ 16
   ·rw [decide_eq_true (show 1 ≤ (n : Int) ∧ (n : Int) ≤ 16 by omega)]; refine Ev.if_pos rfl (Ev.same (Ev.some _) ?_); rw [decide_eq_true q]; simp [isL]; omega
   ·rw [decide_eq_false (show ¬ (1 ≤ (n : Int) ∧ (n : Int) ≤ 16) by omega)]; refine Ev.if_neg (by simp) (Ev.same (Ev.some _) ?_); rw [decide_eq_false q]; simp
  ·intro i hi ih; rw [drop_eq w i hi, isL_cons]; refine Ev.step (fun k => by simp only [spec_IsWord.l0]; rw [_root_.if_pos (by omega), _root_.if_pos (by omega), wsucc (by omega), rd_get w i hi]) ?_; refine Ev.ite (fun q => ?_) (fun q => ?_)
   ·rw [decide_eq_false (by omega)]; exact Ev.some _
   ·refine Ev.ite (fun q2 => ?_) (fun q2 => ?_)
    ·rw [decide_eq_false (by omega)]; exact Ev.some _
    ·rw [decide_eq_true (by omega), Bool.true_and]; exact ih
 exact key 0 (by omega)
end Go.Proofs.Ythkkpdgadfhijaa.M
/- What the laws' own small functions on rows of rows come to. No condition but lengths that fit. -/
namespace Go.Proofs.Ythkkpdgadfhijaa.M
open Go.RowKit Go.Proofs.YthkkpdgadfhijaaW.PrintWords Go.Proofs.Ythkkpdgadfhijaa.K
theorem rdLL (xs : List (List Int)) (i : Nat) (h : i < xs.length) : rd_L2 xs (i : Int) = xs[i] := by
 unfold rd_L2; rw [Int.toNat_natCast, List.getD_eq_getElem?_getD, List.getElem?_eq_getElem h]; rfl
end Go.Proofs.Ythkkpdgadfhijaa.M
/- Morphisms as the reference tests them. No condition but lengths that fit. -/
namespace Go.Proofs.Ythkkpdgadfhijaa.M
open Go.RowKit Go.Proofs.YthkkpdgadfhijaaW.PrintWords Go.Proofs.Ythkkpdgadfhijaa.K
set_option linter.unusedVariables false
def mo (ms : List (List Int)) : Bool := decide (1 ≤ ms.length ∧ ms.length ≤ 16) && ms.all fun im => decide (im.length ≤ 8) && isL im ms.length
theorem specIsMorphism_ev (ms : List (List Int)) (h : ms.length ≤ 1048576) (ht : total ms ≤ 1048576) : Ev (fun k => spec_IsMorphism.f k ms) (mo ms) := by
 have key : ∀ i, i ≤ ms.length → Ev (fun k => spec_IsMorphism.l0 k (i : Int) ms) (decide (1 ≤ ms.length ∧ ms.length ≤ 16) && (ms.drop i).all fun im => decide (im.length ≤ 8) && isL im ms.length) := by
  refine down ms.length ?_ ?_
  ·refine Ev.step (fun k => by simp only [spec_IsMorphism.l0]; rw [_root_.if_neg (by omega)]) ?_; refine Ev.bind (Ev.val (in_val _ _ _)) (Ev.same (Ev.some _) ?_); rw [List.drop_length]; rw [List.all_nil, Bool.and_true, decide_eq_decide]; omega
  ·intro i hi ih; rw [drop_eq ms i hi, List.all_cons]; refine Ev.step (fun k => by simp only [spec_IsMorphism.l0]; rw [_root_.if_pos (by omega), _root_.if_pos (by omega), wsucc (by omega), rdLL ms i hi]) ?_; refine Ev.bind (specIsWord_ev _ _ (by have := total_at ms i hi; omega)) ?_; unfold iw; by_cases q0 : 1 ≤ ms.length ∧ ms.length ≤ 16
   ·rw [decide_eq_true q0] at ih ⊢; rw [Bool.true_and] at ih ⊢; rw [Bool.true_and]; by_cases q1 : isL ms[i] ms.length = true
    ·rw [q1, Bool.true_and, Bool.and_true]; by_cases q2 : ms[i].length ≤ 400
     ·rw [decide_eq_true q2]; refine Ev.if_pos rfl (Ev.ite (fun q => ?_) (fun q => ?_))
      ·rw [decide_eq_false (show ¬ ms[i].length ≤ 8 by omega), Bool.false_and]; exact Ev.some _
      ·rw [decide_eq_true (show ms[i].length ≤ 8 by omega), Bool.true_and]; exact ih
     ·rw [decide_eq_false q2, decide_eq_false (show ¬ ms[i].length ≤ 8 by omega), Bool.false_and]; exact Ev.if_neg (by simp) (Ev.some _)
    ·rw [Bool.eq_false_iff.2 q1, Bool.false_and, Bool.and_false, Bool.false_and]; exact Ev.if_neg (by simp) (Ev.some _)
   ·rw [decide_eq_false q0, Bool.false_and, Bool.false_and, Bool.and_false]; exact Ev.if_neg (by simp) (Ev.some _)
 exact key 0 (by omega)
def img (ms : List (List Int)) (w : List Int) : List Int := w.flatMap fun x => rd_L2 ms x
theorem and255 (n : Int) : bits .and .i64 n 255 = n % 256 := by
 have h1 : (BitVec.ofInt 64 n &&& BitVec.ofInt 64 255).toNat = (n % 18446744073709551616).toNat % 256 := by
  rw [BitVec.toNat_and, BitVec.toNat_ofInt]; exact Nat.and_two_pow_sub_one_eq_mod _ 8
 have h2 : bits .and .i64 n 255 = IntKind.i64.wrap (((BitVec.ofInt 64 n &&& BitVec.ofInt 64 255).toNat : Nat) : Int) := rfl; rw [h2, h1, IntKind.wrap_i64]; omega
theorem byte_val (s : List Int) (i h : Int) (h0 : 0 ≤ i) (h1 : i ≤ s.length) (hs : s.length ≤ 1048576) : ∃ r i' h', spec_l1Byte.f s i h = some (r, i', h') ∧ 0 ≤ r ∧ r ≤ 255 ∧ 0 ≤ i' ∧ i' ≤ (s.length : Int) := by
 unfold spec_l1Byte.f; by_cases q : i < (s.length : Int)
 ·rw [_root_.if_pos q, _root_.if_pos h0]; refine ⟨_, _, _, rfl, ?_, ?_, ?_, ?_⟩
  ·rw [and255]; omega
  ·rw [and255]; omega
  ·rw [w_id (by omega) (by omega)]; omega
  ·rw [w_id (by omega) (by omega)]; omega
 ·rw [_root_.if_neg q]; refine ⟨_, _, _, rfl, ?_, ?_, h0, h1⟩
  ·rw [and255]; omega
  ·rw [and255]; omega
theorem below_val (s : List Int) (i h n : Int) (h0 : 0 ≤ i) (h1 : i ≤ s.length) (hs : s.length ≤ 1048576) (hn : 1 ≤ n) (hn2 : n ≤ 256) : ∃ r i' h', spec_l1Below.f s i h n = some (r, i', h') ∧ 0 ≤ r ∧ r < n ∧ 0 ≤ i' ∧ i' ≤ (s.length : Int) := by
 obtain ⟨r, i', h', e, r0, r1, i0, i1⟩ := byte_val s i h h0 h1 hs; unfold spec_l1Below.f; rw [_root_.if_neg (by omega), _root_.if_pos hn2, e, Option.bind_some, _root_.if_neg (by omega)]; refine ⟨_, _, _, rfl, ?_, ?_, i0, i1⟩
 ·dsimp only; rw [Int.tmod_eq_emod_of_nonneg r0]; exact Int.emod_nonneg _ (by omega)
 ·dsimp only; rw [Int.tmod_eq_emod_of_nonneg r0]; exact Int.emod_lt_of_pos _ (by omega)
theorem new_ev (s : List Int) (hs : s.length ≤ 1048576) : ∃ h, Ev (fun k => spec_l1New.f k s) (s, 0, h) := by
 have key : ∀ d i : Nat, i + d = s.length → ∀ h : Int, ∃ h', Ev (fun k => spec_l1New.l0 k s h (i : Int)) (s, 0, h') := by
  intro d
  induction d with
  | zero =>
   intro i hi h; exact ⟨h, Ev.step (fun k => by simp only [spec_l1New.l0]; rw [_root_.if_neg (by omega)]) (Ev.some _)⟩
  | succ d ih =>
   intro i hi h; by_cases q : (i : Int) < 4000
   ·obtain ⟨h', hE⟩ := ih (i + 1) (by omega) _; exact ⟨h', Ev.step (fun k => by simp only [spec_l1New.l0]; rw [_root_.if_pos (by omega), _root_.if_pos q, _root_.if_pos (by omega), wsucc (i := i) (by omega)]) hE⟩
   ·exact ⟨h, Ev.step (fun k => by simp only [spec_l1New.l0]; rw [_root_.if_pos (by omega), _root_.if_neg q]) (Ev.some _)⟩
 unfold spec_l1New.f; exact key s.length 0 (by omega) _
theorem once_val (s : List Int) (i h n : Int) (h0 : 0 ≤ i) (h1 : i ≤ s.length) (hs : s.length ≤ 1048576) (hn : 1 ≤ n) (hn2 : n ≤ 256) : ∃ r i' h', spec_l1Once.f s i h n = some (r, i', h') ∧ 0 ≤ i' ∧ i' ≤ (s.length : Int) := by
 obtain ⟨r, i', h', e, r0, r1, i0, i1⟩ := below_val s i h n h0 h1 hs hn hn2; unfold spec_l1Once.f; rw [e]; exact ⟨_, _, _, rfl, i0, i1⟩
theorem pick_val (s : List Int) (i h : Int) (l : List Int) (h0 : 0 ≤ i) (h1 : i ≤ s.length) (hs : s.length ≤ 1048576) (hl : 1 ≤ l.length) (hl2 : l.length ≤ 256) : ∃ r i' h', spec_l1PickInt.f s i h l = some (r, i', h') ∧ 0 ≤ i' ∧ i' ≤ (s.length : Int) := by
 obtain ⟨r, i', h', e, r0, r1, i0, i1⟩ := below_val s i h (l.length : Int) h0 h1 hs (by omega) (by omega); unfold spec_l1PickInt.f; rw [e, Option.bind_some]; dsimp only; rw [_root_.if_pos r0, _root_.if_pos r1]; exact ⟨_, _, _, rfl, i0, i1⟩
def MR (R : List (List Int)) : Prop := (1 ≤ R.length ∧ R.length ≤ 3) ∧ (∀ x ∈ R, x.length ≤ 4) ∧ ∀ x ∈ R.drop 1, x.length ≤ 3
theorem l7m_ev (s : List Int) (i h : Int) (h0 : 0 ≤ i) (h1 : i ≤ s.length) (hs : s.length ≤ 1048576) : ∃ R i' h', Ev (fun k => spec_l7Morphism.f k s i h) (R, i', h') ∧ MR R ∧ 0 ≤ i' ∧ i' ≤ (s.length : Int) := by
 have key : ∀ n : Nat, 1 ≤ n → n ≤ 3 → ∀ (d : Nat) (acc : List (List Int)) (i h : Int), acc.length + d = n → (∀ x ∈ acc, x.length ≤ 3) → 0 ≤ i → i ≤ s.length → ∃ R i' h', Ev (fun k => spec_l7Morphism.l0 k (n : Int) (acc.length : Int) s i h acc) (R, i', h') ∧ MR R ∧ 0 ≤ i' ∧ i' ≤ (s.length : Int) := by
  intro n hn1 hn3 d
  induction d with
  | zero =>
   intro acc i h hl hx h0 h1; obtain ⟨r, i1, g1, e, i0, i9⟩ := once_val s i h 12 h0 h1 hs (by omega) (by omega); cases acc with
   | nil => simp only [List.length_nil] at hl; omega
   | cons a t =>
    have ha : a.length ≤ 3 := hx a (List.mem_cons_self ..); cases r with
    | false =>
     refine ⟨a :: t, i1, g1, Ev.step (fun k => by simp only [spec_l7Morphism.l0]; rw [_root_.if_neg (by omega), e, Option.bind_some, _root_.if_neg (by simp)]) (Ev.some _), ⟨⟨by omega, by omega⟩, fun x hx' => by have := hx x hx'; omega, fun x hx' => hx x (List.mem_of_mem_drop hx')⟩, i0, i9⟩
    | true =>
     obtain ⟨x, i2, g2, e2, j0, j1⟩ := pick_val s i1 g1 [-1, 4, 0] i0 i9 hs (by simp) (by simp)
     refine ⟨(a ++ [x]) :: t, i2, g2, Ev.step (fun k => by
      simp only [spec_l7Morphism.l0]; rw [_root_.if_neg (by omega), e, Option.bind_some, _root_.if_pos rfl, e2, Option.bind_some, _root_.if_pos (by simp), show rd_L2 (a :: t) 0 = a from rfl, _root_.if_pos (by omega)]
      rfl) (Ev.some _), ⟨⟨by simp only [List.length_cons] at hl ⊢; omega, by simp only [List.length_cons] at hl ⊢; omega⟩, fun y hy => ?_, fun y hy => hx y (List.mem_cons_of_mem _ hy)⟩, j0, j1⟩
     rcases List.mem_cons.1 hy with rfl | hy
     ·simp; omega
     ·have := hx y (List.mem_cons_of_mem _ hy); omega
  | succ d ih =>
   intro acc i h hl hx h0 h1; obtain ⟨r, i1, g1, e, r0, r1, i0, i9⟩ := below_val s i h 4 h0 h1 hs (by omega) (by omega); have inner : ∀ (m : Nat) (wd : List Int) (i h : Int), wd.length + m ≤ 3 → 0 ≤ i → i ≤ s.length → ∃ R i' h', Ev (fun k => spec_l7Morphism.l1 k (n : Int) (acc.length : Int) wd (m : Int) s i h acc) (R, i', h') ∧ MR R ∧ 0 ≤ i' ∧ i' ≤ (s.length : Int) := by
    intro m
    induction m with
    | zero =>
     intro wd i h hm h0 h1
     obtain ⟨R, i', h', hE, hR⟩ := ih (acc ++ [wd]) i h (by simp; omega) (fun x hx' => by
      rcases List.mem_append.1 hx' with hx' | hx'
      ·exact hx x hx'
      ·rw [List.mem_singleton.1 hx']; omega) h0 h1
     rw [List.length_append, List.length_cons, List.length_nil, Nat.zero_add] at hE; exact ⟨R, i', h', Ev.step (fun k => by simp only [spec_l7Morphism.l1]; rw [_root_.if_neg (by omega), _root_.if_pos (by omega), wsucc (by omega)]) hE, hR⟩
    | succ m ihm =>
     intro wd i h hm h0 h1; obtain ⟨r, i', h', e, r0, r1, i0, i1⟩ := below_val s i h (n : Int) h0 h1 hs (by omega) (by omega); obtain ⟨R, i2, h2, hE, hR⟩ := ihm (wd ++ [r]) i' h' (by simp; omega) i0 i1; exact ⟨R, i2, h2, Ev.step (fun k => by simp only [spec_l7Morphism.l1]; rw [_root_.if_pos (by omega), e, Option.bind_some, _root_.if_pos (by omega), w_id (a := ((m + 1 : Nat) : Int) - 1) (by omega) (by omega), show ((m + 1 : Nat) : Int) - 1 = (m : Int) from by omega]) hE, hR⟩
   obtain ⟨m, rfl⟩ : ∃ m : Nat, r = (m : Int) := ⟨r.toNat, by omega⟩; obtain ⟨R, i', h', hE, hR⟩ := inner m [] i1 g1 (by simp; omega) i0 i9; exact ⟨R, i', h', Ev.step (fun k => by simp only [spec_l7Morphism.l0]; rw [_root_.if_pos (by omega), e, Option.bind_some]) hE, hR⟩
 obtain ⟨r, i1, g1, e, r0, r1, i0, i9⟩ := below_val s i h 5 h0 h1 hs (by omega) (by omega); unfold spec_l7Morphism.f; have lit : ∀ R : List (List Int), MR R → ∃ R' i' h', Ev (fun _ => some (R, i1, g1)) (R', i', h') ∧ MR R' ∧ 0 ≤ i' ∧ i' ≤ (s.length : Int) := fun R hR => ⟨R, i1, g1, Ev.some _, hR, i0, i9⟩
 by_cases q0 : r = 0
 ·obtain ⟨R, a, b, hE, hR⟩ := lit [[0, 1], [1, 0]] ⟨by decide, by decide, by decide⟩; exact ⟨R, a, b, Ev.bind (Ev.val e) (Ev.if_pos q0 hE), hR⟩
 by_cases q1 : r = 1
 ·obtain ⟨R, a, b, hE, hR⟩ := lit [[0, 1], [0]] ⟨by decide, by decide, by decide⟩; exact ⟨R, a, b, Ev.bind (Ev.val e) (Ev.if_neg q0 (Ev.if_pos q1 hE)), hR⟩
 by_cases q2 : r = 2
 ·obtain ⟨R, a, b, hE, hR⟩ := lit [[0, 1, 2], [0, 2], [1]] ⟨by decide, by decide, by decide⟩; exact ⟨R, a, b, Ev.bind (Ev.val e) (Ev.if_neg q0 (Ev.if_neg q1 (Ev.if_pos q2 hE))), hR⟩
 obtain ⟨t, i2, g2, e2, t0, t1, j0, j1⟩ := below_val s i1 g1 3 i0 i9 hs (by omega) (by omega); obtain ⟨R, a, b, hE, hR⟩ := key (1 + t).toNat (by omega) (by omega) (1 + t).toNat [] i2 g2 (by simp) (by simp) j0 j1; have e3 : wrap64 (1 + t) = (((1 + t).toNat : Nat) : Int) := by rw [w_id (by omega) (by omega)]; omega
 refine ⟨R, a, b, Ev.bind (Ev.val e) (Ev.if_neg q0 (Ev.if_neg q1 (Ev.if_neg q2 (Ev.bind (Ev.val e2) ?_)))), hR⟩; dsimp only; rw [e3]; exact hE
/-! Letters that vanish. -/
def its (R : List (List Int)) : Nat → List Int → List Int
 | 0, w => w
 | j + 1, w => its R j (img R w)
theorem img_app (R : List (List Int)) (u v : List Int) : img R (u ++ v) = img R u ++ img R v := List.flatMap_append
theorem img_one (R : List (List Int)) (x : Int) : img R [x] = rd_L2 R x := by unfold img; simp
theorem its_app (R : List (List Int)) : ∀ j u v, its R j (u ++ v) = its R j u ++ its R j v
 | 0, _, _ => rfl
 | j + 1, u, v => by show its R j (img R (u ++ v)) = _; rw [img_app, its_app R j]; rfl
theorem its_nil (R : List (List Int)) : ∀ j, its R j [] = []
 | 0 => rfl
 | j + 1 => by show its R j (img R []) = _; exact its_nil R j
theorem its_all (R : List (List Int)) (j : Nat) : ∀ w : List Int, its R j w = [] ↔ ∀ x ∈ w, its R j [x] = []
 | [] => by simp [its_nil]
 | x :: w => by
  have ih := its_all R j w; rw [show x :: w = [x] ++ w from rfl, its_app, List.append_eq_nil_iff, ih]; simp
/-- The letter x is gone after j steps. -/
def die (R : List (List Int)) (j : Nat) (x : Int) : Bool := decide (its R j [x] = [])
theorem die_succ (R : List (List Int)) (j : Nat) (x : Int) : die R (j + 1) x = true ↔ ∀ y ∈ rd_L2 R x, die R j y = true := by
 unfold die; rw [decide_eq_true_eq]; show its R j (img R [x]) = [] ↔ _; rw [img_one, its_all]; simp
theorem die_zero (R : List (List Int)) (x : Int) : die R 0 x = false := decide_eq_false (by simp [its])
theorem die_mono (R : List (List Int)) : ∀ j x, die R j x = true → die R (j + 1) x = true
 | 0, x, h => by rw [die_zero] at h; cases h
 | j + 1, x, h => (die_succ R (j + 1) x).2 fun y hy => die_mono R j y ((die_succ R j x).1 h y hy)
theorem die_le (R : List (List Int)) (i x) : ∀ d, die R i x = true → die R (i + d) x = true
 | 0, h => h
 | d + 1, h => die_mono R (i + d) x (die_le R i x d h)
theorem count_more {α : Type} (p q : α → Bool) (l : List α) (h : ∀ x ∈ l, p x = true → q x = true) : l.countP p ≤ l.countP q ∧ ((∃ x ∈ l, q x = true ∧ p x = false) → l.countP p < l.countP q) := by
 induction l with
 | nil => exact ⟨Nat.le_refl _, fun ⟨x, hx, _⟩ => by cases hx⟩
 | cons a l ih =>
  obtain ⟨i1, i2⟩ := ih (fun x hx => h x (List.mem_cons_of_mem _ hx)); have ha := h a (List.mem_cons_self ..); rw [List.countP_cons, List.countP_cons]; cases hp : p a with
  | true =>
   rw [ha hp]; refine ⟨by simpa using i1, fun ⟨x, hx, hq, hn⟩ => ?_⟩; rcases List.mem_cons.1 hx with rfl | hx
   ·rw [hp] at hn; cases hn
   ·have := i2 ⟨x, hx, hq, hn⟩; simpa using this
  | false =>
   cases hq : q a with
   | true => exact ⟨by simp; omega, fun _ => by simp; omega⟩
   | false =>
    refine ⟨by simpa using i1, fun ⟨x, hx, hq', hn⟩ => ?_⟩; rcases List.mem_cons.1 hx with rfl | hx
    ·rw [hq] at hq'; cases hq'
    ·have := i2 ⟨x, hx, hq', hn⟩; simpa using this
section die
variable (R : List (List Int)) (hL : ∀ r ∈ R, isL r R.length = true)
include hL
theorem rd_letters (x : Int) (h0 : 0 ≤ x) (h1 : x < (R.length : Int)) : isL (rd_L2 R x) R.length = true := by
 obtain ⟨n, rfl⟩ : ∃ n : Nat, x = (n : Int) := ⟨x.toNat, by omega⟩; rw [rdLL R n (by omega)]; exact hL _ (List.getElem_mem _)
theorem img_letters (w : List Int) (h : isL w R.length = true) : isL (img R w) R.length = true := by
 unfold isL at h ⊢; rw [List.all_eq_true] at h ⊢; intro y hy; obtain ⟨x, hx, hy⟩ := List.mem_flatMap.1 hy; have hx := of_decide_eq_true (h x hx); have := rd_letters R hL x hx.1 hx.2; unfold isL at this; exact List.all_eq_true.1 this y hy
theorem die_stable (i : Nat) (h : ∀ x : Int, 0 ≤ x → x < (R.length : Int) → die R (i + 1) x = true → die R i x = true) : ∀ d (x : Int), 0 ≤ x → x < (R.length : Int) → die R (i + d) x = true → die R i x = true
 | 0, _, _, _, h1 => h1
 | d + 1, x, h0, h1, h2 => by
  refine h x h0 h1 ((die_succ R i x).2 fun y hy => ?_); have hl := rd_letters R hL x h0 h1; unfold isL at hl; have hy2 := of_decide_eq_true (List.all_eq_true.1 hl y hy); exact die_stable i h d y hy2.1 hy2.2 ((die_succ R (i + d) x).1 h2 y hy)
theorem die_bound (m : Nat) (x : Int) (h0 : 0 ≤ x) (h1 : x < (R.length : Int)) (hd : die R m x = true) : die R (R.length + 1) x = true := by
 have key : ∀ j, (∃ i, i ≤ j ∧ ∀ x : Int, 0 ≤ x → x < (R.length : Int) → die R (i + 1) x = true → die R i x = true) ∨ j + 1 ≤ (List.range R.length).countP fun (a : Nat) => die R (j + 1) (a : Int) := by
  intro j
  induction j with
  | zero =>
   by_cases q : ∀ x : Int, 0 ≤ x → x < (R.length : Int) → die R 1 x = true → die R 0 x = true
   ·exact .inl ⟨0, Nat.le_refl _, q⟩
   ·right; have : ∃ x : Int, 0 ≤ x ∧ x < (R.length : Int) ∧ die R 1 x = true := by
     refine Classical.byContradiction fun hn => q fun x a b c => ?_
     exact absurd ⟨x, a, b, c⟩ hn
    obtain ⟨x, a, b, c⟩ := this; refine List.countP_pos_iff.2 ⟨x.toNat, List.mem_range.2 (by omega), ?_⟩; rw [show ((x.toNat : Nat) : Int) = x from by omega]; exact c
  | succ j ih =>
   rcases ih with ⟨i, hi, h⟩ | hc
   ·exact .inl ⟨i, by omega, h⟩
   ·by_cases q : ∀ x : Int, 0 ≤ x → x < (R.length : Int) → die R (j + 1 + 1) x = true → die R (j + 1) x = true
    ·exact .inl ⟨j + 1, Nat.le_refl _, q⟩
    ·right; have : ∃ x : Int, 0 ≤ x ∧ x < (R.length : Int) ∧ die R (j + 1 + 1) x = true ∧ die R (j + 1) x = false := by
      refine Classical.byContradiction fun hn => q fun x a b c => ?_
      cases e : die R (j + 1) x with
      | true => rfl
      | false => exact absurd ⟨x, a, b, c, e⟩ hn
     obtain ⟨x, a, b, c, e⟩ := this; have := (count_more (fun a : Nat => die R (j + 1) (a : Int)) (fun a : Nat => die R (j + 1 + 1) (a : Int)) (List.range R.length) (fun a _ h => die_mono R (j + 1) _ h)).2 ⟨x.toNat, List.mem_range.2 (by omega), by rw [show ((x.toNat : Nat) : Int) = x from by omega]; exact c, by rw [show ((x.toNat : Nat) : Int) = x from by omega]; exact e⟩; omega
 rcases key R.length with ⟨i, hi, h⟩ | hc
 ·have : die R i x = true := by
   by_cases q : i ≤ m
   ·obtain ⟨d, rfl⟩ : ∃ d, m = i + d := ⟨m - i, by omega⟩; exact die_stable R hL i h d x h0 h1 hd
   ·obtain ⟨d, rfl⟩ : ∃ d, i = m + d := ⟨i - m, by omega⟩; exact die_le R m x d hd
  obtain ⟨d, hdd⟩ : ∃ d, R.length + 1 = i + d := ⟨R.length + 1 - i, by omega⟩; rw [hdd]; exact die_le R i x d this
 ·have := List.countP_le_length (p := fun a : Nat => die R (R.length + 1) (a : Int)) (l := List.range R.length); rw [List.length_range] at this; omega
theorem never (t : List Int) (ht : isL t R.length = true) (h : its R (R.length + 1) t ≠ []) (m : Nat) : its R m t ≠ [] := by
 intro hm; refine h ((its_all R _ t).2 fun x hx => ?_); have hx2 : 0 ≤ x ∧ x < (R.length : Int) := by
  unfold isL at ht; exact of_decide_eq_true (List.all_eq_true.1 ht x hx)
 have := die_bound R hL m x hx2.1 hx2.2 (decide_eq_true ((its_all R m t).1 hm x hx)); exact of_decide_eq_true this
/-- A word that is its own image and begins by a letter that grows: there is none. -/
theorem no_fix (t u : List Int) (ht : isL t R.length = true) (h : its R (R.length + 1) t ≠ []) (hu : u = t ++ img R u) : False := by
 have key : ∀ m, (its R m u).length + m ≤ u.length := by
  intro m
  induction m with
  | zero => exact Nat.le_refl _
  | succ m ih =>
   have e : its R m u = its R m t ++ its R (m + 1) u := by
    have := its_app R m t (img R u); rw [← hu] at this; exact this
   have hp : 0 < (its R m t).length := List.length_pos_iff.2 (never R hL t ht h m); rw [e, List.length_append] at ih; omega
 have := key (u.length + 1); omega
end die
/-! The test. -/
def ded (acc l : List Int) : List Int := l.foldl (fun acc y => if y ∈ acc then acc else acc ++ [y]) acc
theorem ded_mem : ∀ (l acc : List Int) (y : Int), y ∈ ded acc l ↔ y ∈ acc ∨ y ∈ l
 | [], acc, y => by simp [ded]
 | x :: l, acc, y => by
  show y ∈ ded (if x ∈ acc then acc else acc ++ [x]) l ↔ _; rw [ded_mem l, List.mem_cons]; split
  ·rename_i q; constructor
   ·rintro (h | h)
    ·exact .inl h
    ·exact .inr (.inr h)
   ·rintro (h | rfl | h)
    ·exact .inl h
    ·exact .inl q
    ·exact .inr h
  ·rw [List.mem_append, List.mem_singleton, or_assoc]
theorem ded_len : ∀ l acc : List Int, (ded acc l).length ≤ acc.length + l.length
 | [], acc => by simp [ded]
 | x :: l, acc => by
  have := ded_len l (if x ∈ acc then acc else acc ++ [x]); have h2 : (if x ∈ acc then acc else acc ++ [x]).length ≤ acc.length + 1 := by split <;> simp
  show (ded _ l).length ≤ _; simp only [List.length_cons]; omega
def nxt (R : List (List Int)) (acc w : List Int) : List Int := w.foldl (fun acc x => ded acc (rd_L2 R x)) acc
theorem nxt_mem (R : List (List Int)) : ∀ (w acc : List Int) (y : Int), y ∈ nxt R acc w ↔ y ∈ acc ∨ y ∈ img R w
 | [], acc, y => by simp [nxt, img]
 | x :: w, acc, y => by
  show y ∈ nxt R (ded acc (rd_L2 R x)) w ↔ _; rw [nxt_mem R w, ded_mem, show x :: w = [x] ++ w from rfl, img_app, img_one, List.mem_append, or_assoc]
theorem nxt_len (R : List (List Int)) (hR : ∀ r ∈ R, r.length ≤ 4) : ∀ (w acc : List Int), isL w R.length = true → (nxt R acc w).length ≤ acc.length + 4 * w.length
 | [], acc, _ => by simp [nxt]
 | x :: w, acc, hw => by
  rw [isL_cons, Bool.and_eq_true, decide_eq_true_eq] at hw; have ih := nxt_len R hR w (ded acc (rd_L2 R x)) hw.2; have h1 := ded_len (rd_L2 R x) acc; have h2 : (rd_L2 R x).length ≤ 4 := by
   obtain ⟨n, rfl⟩ : ∃ n : Nat, x = (n : Int) := ⟨x.toNat, by omega⟩; rw [rdLL R n (by omega)]; exact hR _ (List.getElem_mem _)
  show (nxt R (ded acc (rd_L2 R x)) w).length ≤ _; simp only [List.length_cons]; omega
def itn (R : List (List Int)) : Nat → List Int → List Int
 | 0, w => w
 | j + 1, w => itn R j (nxt R [] w)
theorem itn_mem (R : List (List Int)) : ∀ (j : Nat) (u v : List Int), (∀ y, y ∈ u ↔ y ∈ v) → ∀ y, y ∈ itn R j u ↔ y ∈ its R j v
 | 0, _, _, h, y => h y
 | j + 1, u, v, h, y => by
  refine itn_mem R j (nxt R [] u) (img R v) (fun z => ?_) y; rw [nxt_mem]; unfold img; rw [List.mem_flatMap, List.mem_flatMap]; constructor
  ·rintro (h1 | ⟨x, hx, hz⟩)
   ·cases h1
   ·exact ⟨x, (h x).1 hx, hz⟩
  ·rintro ⟨x, hx, hz⟩; exact .inr ⟨x, (h x).2 hx, hz⟩
theorem has_ev (l : List Int) (x : Int) (hl : l.length ≤ 1000000) : Ev (fun k => spec_l4Has.f k l x) (decide (x ∈ l)) := by
 have key : ∀ i, i ≤ l.length → Ev (fun k => spec_l4Has.l0 k l x (i : Int)) (decide (x ∈ l.drop i)) := by
  refine down l.length ?_ ?_
  ·refine Ev.step (fun k => by simp only [spec_l4Has.l0]; rw [_root_.if_neg (by omega)]) ?_; rw [List.drop_length, decide_eq_false (by simp)]; exact Ev.some _
  ·intro i hi ih; refine Ev.step (fun k => by simp only [spec_l4Has.l0]; rw [_root_.if_pos (by omega), _root_.if_pos (by omega), rd_get l i hi, wsucc (by omega)]) ?_; rw [drop_eq l i hi]; refine Ev.ite (fun q => ?_) (fun q => ?_)
   ·rw [decide_eq_true (by rw [q]; simp)]; exact Ev.some _
   ·have : decide (x ∈ l[i] :: l.drop (i + 1)) = decide (x ∈ l.drop (i + 1)) := decide_eq_decide.2 ⟨fun h => (List.mem_cons.1 h).resolve_left (fun e => q e.symm), List.mem_cons_of_mem _⟩; rw [this]; exact ih
 unfold spec_l4Has.f; exact key 0 (by omega)
section grow
variable (R : List (List Int)) (hR : MR R) (hL : ∀ r ∈ R, isL r R.length = true)
include hR hL
omit hL in
theorem grow_l2 (u : List Int) (n : Nat) (hu : isL u R.length = true) (hul : u.length ≤ 100000) (i : Nat) (hi : i < u.length) (acc : List Int) (hacc : acc.length ≤ 400000) (b : Bool)
  (h : Ev (fun k => spec_IsGrowing.l1 k u (n : Int) (ded acc (rd_L2 R u[i])) ((i + 1 : Nat) : Int) R) b) : Ev (fun k => spec_IsGrowing.l2 k u (n : Int) acc (i : Int) 0 R) b := by
 have hx : 0 ≤ u[i] ∧ u[i] < (R.length : Int) := by
  unfold isL at hu; exact of_decide_eq_true (List.all_eq_true.1 hu _ (List.getElem_mem hi))
 have h4 : (rd_L2 R u[i]).length ≤ 4 := by
  obtain ⟨m, hm⟩ : ∃ m : Nat, u[i] = (m : Int) := ⟨u[i].toNat, by omega⟩; rw [hm, rdLL R m (by omega)]; exact hR.2.1 _ (List.getElem_mem _)
 have er : rd u (i : Int) = u[i] := rd_get u i hi; generalize him : rd_L2 R u[i] = im at h h4; have key : ∀ j, j ≤ im.length → ∀ acc : List Int, acc.length ≤ 400000 + j → Ev (fun k => spec_IsGrowing.l1 k u (n : Int) (ded acc (im.drop j)) ((i + 1 : Nat) : Int) R) b → Ev (fun k => spec_IsGrowing.l2 k u (n : Int) acc (i : Int) (j : Int) R) b := by
  refine down im.length ?_ ?_
  ·intro acc _ h; rw [List.drop_length] at h; have h : Ev (fun k => spec_IsGrowing.l1 k u (n : Int) acc ((i + 1 : Nat) : Int) R) b := h; exact Ev.step (fun k => by simp only [spec_IsGrowing.l2]; rw [_root_.if_pos (by omega), _root_.if_pos (by omega), er, _root_.if_pos hx.1, _root_.if_pos hx.2, him, _root_.if_neg (by omega), wsucc (by omega)]) h
  ·intro j hj ih acc ha h; rw [drop_eq im j hj] at h; refine Ev.step (fun k => by simp only [spec_IsGrowing.l2]; rw [_root_.if_pos (by omega), _root_.if_pos (by omega), er, _root_.if_pos hx.1, _root_.if_pos hx.2, him, _root_.if_pos (by omega), _root_.if_pos (by omega), rd_get im j hj, wsucc (by omega)]) ?_; refine Ev.bind (has_ev acc im[j] (by omega)) ?_; have hd : ded acc (im[j] :: im.drop (j + 1)) = ded (if im[j] ∈ acc then acc else acc ++ [im[j]]) (im.drop (j + 1)) := rfl; rw [hd] at h; refine Ev.ite (fun q => ?_) (fun q => ?_)
   ·rw [_root_.if_pos (of_decide_eq_true q)] at h; exact ih acc (by omega) h
   ·rw [_root_.if_neg (fun hh => q (decide_eq_true hh))] at h; exact Ev.if_pos (by omega) (ih _ (by simp; omega) h)
 exact key 0 (by omega) acc (by omega) h
omit hL in
theorem grow_l1 (u : List Int) (n : Nat) (hu : isL u R.length = true) (hul : u.length ≤ 100000) (b : Bool) :
  Ev (fun k => spec_IsGrowing.l0 k (nxt R [] u) (wrap64 ((n : Int) + 1)) R) b → Ev (fun k => spec_IsGrowing.l1 k u (n : Int) [] 0 R) b := by
 have h4 : ∀ i (hi : i < u.length), (rd_L2 R u[i]).length ≤ 4 := fun i hi => by
  have hx : 0 ≤ u[i] ∧ u[i] < (R.length : Int) := by
   unfold isL at hu; exact of_decide_eq_true (List.all_eq_true.1 hu _ (List.getElem_mem hi))
  obtain ⟨m, hm⟩ : ∃ m : Nat, u[i] = (m : Int) := ⟨u[i].toNat, by omega⟩; rw [hm, rdLL R m (by omega)]; exact hR.2.1 _ (List.getElem_mem _)
 have key : ∀ i, i ≤ u.length → ∀ acc : List Int, acc.length ≤ 4 * i → Ev (fun k => spec_IsGrowing.l0 k (nxt R acc (u.drop i)) (wrap64 ((n : Int) + 1)) R) b → Ev (fun k => spec_IsGrowing.l1 k u (n : Int) acc (i : Int) R) b := by
  refine down u.length ?_ ?_
  ·intro acc _ h; rw [List.drop_length] at h; have h : Ev (fun k => spec_IsGrowing.l0 k acc (wrap64 ((n : Int) + 1)) R) b := h; exact Ev.step (fun k => by simp only [spec_IsGrowing.l1]; rw [_root_.if_neg (by omega)]) h
  ·intro i hi ih acc ha h; rw [drop_eq u i hi] at h; refine Ev.step (fun k => by simp only [spec_IsGrowing.l1]; rw [_root_.if_pos (by omega)]) ?_; refine grow_l2 R hR u n hu hul i hi acc (by omega) b (ih _ ?_ h); have := ded_len (rd_L2 R u[i]) acc; have := h4 i hi; omega
 exact fun h => key 0 (by omega) [] (by simp) (by rw [List.drop_zero]; exact h)
theorem grow_l0 : ∀ (d x : Nat) (u : List Int), x + d = R.length + 1 → isL u R.length = true → u.length ≤ 4 ^ (x + 1) → Ev (fun k => spec_IsGrowing.l0 k u (x : Int) R) (decide (((itn R d u).length : Int) > 0)) := by
 intro d; have hlen := hR.1.2
 induction d with
 | zero =>
  intro x u hx hu hl; exact Ev.step (fun k => by simp only [spec_IsGrowing.l0]; rw [_root_.if_neg (by omega)]; rfl) (Ev.some _)
 | succ d ih =>
  intro x u hx hu hl; have hp : 4 ^ (x + 1) ≤ 1024 := Nat.le_trans (Nat.pow_le_pow_right (by omega) (show x + 1 ≤ 5 by omega)) (by decide); refine Ev.step (fun k => by simp only [spec_IsGrowing.l0]; rw [_root_.if_pos (by omega)]) ?_; refine grow_l1 R hR u x hu (by omega) _ ?_; rw [wsucc (by omega)]; refine ih (x + 1) (nxt R [] u) (by omega) ?_ ?_
  ·have hi := img_letters R hL u hu; unfold isL at hi ⊢; rw [List.all_eq_true] at hi ⊢; intro y hy; rcases (nxt_mem R u [] y).1 hy with h | h
   ·cases h
   ·exact hi y h
  ·have := nxt_len R hR.2.1 u [] hu; rw [List.length_nil] at this; rw [Nat.pow_succ 4 (x + 1)]; omega
end grow
theorem mo_letters' {R : List (List Int)} (h : mo R = true) : ∀ r ∈ R, isL r R.length = true := fun r hr => by
 unfold mo at h; rw [Bool.and_eq_true, List.all_eq_true] at h; have := h.2 r hr; rw [Bool.and_eq_true] at this; exact this.2
theorem MR_total {R : List (List Int)} (h : MR R) : R.length ≤ 1048576 ∧ total R ≤ 1048576 := by
 refine ⟨by have := h.1.2; omega, ?_⟩; obtain ⟨⟨_, h1⟩, h2, _⟩ := h
 match R, h1, h2 with
 | [], _, _ => simp [total]
 | [a], _, h => have := h a (by simp); simp [total]; omega
 | [a, b], _, h => have := h a (by simp); have := h b (by simp); simp [total]; omega
 | [a, b, c], _, h => have := h a (by simp); have := h b (by simp); have := h c (by simp); simp [total]; omega
/-- The test is told; where it is passed, the letter's image begins by it and the rest never vanishes. -/
theorem growing_ev (R : List (List Int)) (hR : MR R) (a : Int) : ∃ b, Ev (fun k => spec_IsGrowing.f k R a) b ∧ (b = true → mo R = true ∧ (0 ≤ a ∧ a < (R.length : Int)) ∧ ∃ t, rd_L2 R a = a :: t ∧ its R (R.length + 1) t ≠ []) := by
 obtain ⟨h1, h2⟩ := MR_total hR; have no : Ev (fun k => spec_IsGrowing.j0 k a true R) false := Ev.step (fun k => by simp only [spec_IsGrowing.j0]; rw [_root_.if_pos trivial]) (Ev.some _); unfold spec_IsGrowing.f; have hm := specIsMorphism_ev R h1 h2; cases q : mo R with
 | false => rw [q] at hm; exact ⟨false, Ev.bind hm (Ev.if_neg (by simp) no), fun h => by cases h⟩
 | true =>
  rw [q] at hm; have hL := mo_letters' q; by_cases q1 : a < 0
  ·exact ⟨false, Ev.bind hm (Ev.if_pos rfl (Ev.if_pos q1 no)), fun h => by cases h⟩
  by_cases q2 : a ≥ (R.length : Int)
  ·exact ⟨false, Ev.bind hm (Ev.if_pos rfl (Ev.if_neg q1 (Ev.if_pos q2 no))), fun h => by cases h⟩
  have h0 : 0 ≤ a := by omega
  have ha : a < (R.length : Int) := by omega
  by_cases q3 : ((rd_L2 R a).length : Int) < 2
  ·exact ⟨false, Ev.bind hm (Ev.if_pos rfl (Ev.if_neg q1 (Ev.if_neg q2 (Ev.if_pos h0 (Ev.if_pos ha (Ev.if_pos q3 no)))))), fun h => by cases h⟩
  have hl := rd_letters R hL a h0 ha; have h4 : (rd_L2 R a).length ≤ 4 := by
   obtain ⟨m, rfl⟩ : ∃ m : Nat, a = (m : Int) := ⟨a.toNat, by omega⟩; rw [rdLL R m (by omega)]; exact hR.2.1 _ (List.getElem_mem _)
  cases hc : rd_L2 R a with
  | nil => rw [hc] at q3; simp at q3
  | cons x t =>
   rw [hc] at hl h4 q3; rw [isL_cons, Bool.and_eq_true] at hl; by_cases q4 : x = a
   ·subst q4; refine ⟨decide (((itn R (R.length + 1) t).length : Int) > 0), Ev.bind hm (Ev.if_pos rfl (Ev.if_neg q1 (Ev.if_neg q2 (Ev.if_pos h0 (Ev.if_pos ha (Ev.if_neg q3 (Ev.if_pos (by simp only [List.length_cons]; omega) ?_))))))), fun h => ⟨rfl, ⟨h0, ha⟩, t, rfl, ?_⟩⟩
    ·rw [show rd (x :: t) 0 = x from rfl, show (x != x) = false from by simp]; refine Ev.step (fun k => by simp only [spec_IsGrowing.j0]; rw [_root_.if_neg (by simp), _root_.if_pos h0, _root_.if_pos ha, hc, _root_.if_pos (by simp only [List.length_cons]; omega)]) ?_; refine grow_l0 R hR hL (R.length + 1) 0 t (by omega) hl.2 ?_; simp only [List.length_cons] at h4; omega
    ·intro he; have hz := of_decide_eq_true h; cases hi : itn R (R.length + 1) t with
     | nil => rw [hi] at hz; simp at hz
     | cons y _ =>
      have := (itn_mem R (R.length + 1) t t (fun _ => Iff.rfl) y).1 (by rw [hi]; exact List.mem_cons_self ..); rw [he] at this; cases this
   ·refine ⟨false, Ev.bind hm (Ev.if_pos rfl (Ev.if_neg q1 (Ev.if_neg q2 (Ev.if_pos h0 (Ev.if_pos ha (Ev.if_neg q3 (Ev.if_pos (by simp only [List.length_cons]; omega) ?_))))))), fun h => by cases h⟩; rw [show rd (x :: t) 0 = x from rfl, show (x != a) = true from by simpa using q4]; exact no
theorem fixed_ev (R : List (List Int)) (hR : MR R) (a m : Int) : ∃ w c, Ev (fun k => spec_FixedPrefix.f k R a m) (w, c) ∧ w.length ≤ 256 := by
 obtain ⟨b, hb, hg⟩ := growing_ev R hR a; have no : Ev (fun k => spec_FixedPrefix.j0 k a m true R) ([], false) := Ev.step (fun k => by simp only [spec_FixedPrefix.j0]; rw [_root_.if_pos trivial]) (Ev.some _); unfold spec_FixedPrefix.f; cases b with
 | false => exact ⟨[], false, Ev.bind hb (Ev.if_neg (by simp) no), by simp⟩
 | true =>
  obtain ⟨hmo, ⟨h0, ha⟩, t, ht, hi⟩ := hg rfl; have hL := mo_letters' hmo; have h16 := hR.1.2; by_cases q : 0 ≤ m ∧ m ≤ 256
  ·have hl := rd_letters R hL a h0 ha; have htl : isL t R.length = true := by rw [ht, isL_cons, Bool.and_eq_true] at hl; exact hl.2
   have him4 : ∀ x : Int, 0 ≤ x → x < (R.length : Int) → (rd_L2 R x).length ≤ 4 := fun x hx0 hx1 => by
    obtain ⟨n, rfl⟩ : ∃ n : Nat, x = (n : Int) := ⟨x.toNat, by omega⟩; rw [rdLL R n (by omega)]; exact hR.2.1 _ (List.getElem_mem _)
   obtain ⟨M, rfl⟩ : ∃ M : Nat, m = (M : Int) := ⟨m.toNat, by omega⟩; have key : ∀ (d j : Nat) (w : List Int), j + d = M + 1 → 1 ≤ j → j ≤ w.length → isL w R.length = true → w = img R (w.take j) → (∃ u, w = a :: u) → ∃ w' c, Ev (fun k => spec_FixedPrefix.l0 k (M : Int) w (j : Int) R) (w', c) ∧ w'.length ≤ 256 := by
    intro d
    induction d with
    | zero =>
     intro j w hj h1 hjl hw _ _; by_cases q1 : (w.length : Int) < (M : Int)
     ·exact ⟨[], false, Ev.step (fun k => by simp only [spec_FixedPrefix.l0]; rw [_root_.if_neg (by omega), _root_.if_pos q1]) (Ev.some _), by simp⟩
     ·exact ⟨_, true, Ev.step (fun k => by simp only [spec_FixedPrefix.l0]; rw [_root_.if_neg (by omega), _root_.if_neg q1, _root_.if_pos (by omega), _root_.if_pos (by omega)]) (Ev.some _), by simp; omega⟩
    | succ d ih =>
     intro j w hj h1 hjl hw himg hau; by_cases q0 : (j : Int) < (M : Int)
     ·by_cases q1 : (w.length : Int) < (M : Int)
      ·have hlt : j < w.length := by
        rcases Nat.lt_or_eq_of_le hjl with h | h
        ·exact h
        ·exfalso; subst h; rw [List.take_length] at himg; obtain ⟨u, rfl⟩ := hau; refine no_fix R hL t u htl hi ?_; rw [show a :: u = [a] ++ u from rfl, img_app, img_one, ht] at himg; exact (List.cons.inj himg).2
       have hx : 0 ≤ w[j] ∧ w[j] < (R.length : Int) := by
        unfold isL at hw; exact of_decide_eq_true (List.all_eq_true.1 hw _ (List.getElem_mem hlt))
       have h4 := him4 _ hx.1 hx.2
       obtain ⟨w', c, hE, hw'⟩ := ih (j + 1) (w ++ rd_L2 R w[j]) (by omega) (by omega) (by rw [List.length_append]; omega) (by
        have := rd_letters R hL _ hx.1 hx.2; unfold isL at hw this ⊢
        rw [List.all_append, hw, this]; rfl) (by
        rw [List.take_append_of_le_length (by omega), take_succ w j hlt, img_app, img_one, ← himg]) (by
        obtain ⟨u, rfl⟩ := hau
        exact ⟨u ++ _, rfl⟩)
       exact ⟨w', c, Ev.step (fun k => by simp only [spec_FixedPrefix.l0]; rw [_root_.if_pos q0, _root_.if_pos q1, _root_.if_pos (by omega), _root_.if_pos (by omega), rd_get w j hlt, _root_.if_pos hx.1, _root_.if_pos hx.2, _root_.if_pos (by omega), wsucc (by omega)]) hE, hw'⟩
      ·exact ⟨_, true, Ev.step (fun k => by simp only [spec_FixedPrefix.l0]; rw [_root_.if_pos q0, _root_.if_neg q1, _root_.if_pos (by omega), _root_.if_pos (by omega)]) (Ev.some _), by simp; omega⟩
     ·by_cases q1 : (w.length : Int) < (M : Int)
      ·exact ⟨[], false, Ev.step (fun k => by simp only [spec_FixedPrefix.l0]; rw [_root_.if_neg q0, _root_.if_pos q1]) (Ev.some _), by simp⟩
      ·exact ⟨_, true, Ev.step (fun k => by simp only [spec_FixedPrefix.l0]; rw [_root_.if_neg q0, _root_.if_neg q1, _root_.if_pos (by omega), _root_.if_pos (by omega)]) (Ev.some _), by simp; omega⟩
   obtain ⟨w', c, hE, hw'⟩ := key M 1 (rd_L2 R a) (by omega) (Nat.le_refl _) (by rw [ht]; simp) hl (by rw [ht]; show a :: t = img R [a]; rw [img_one, ht]) ⟨t, ht⟩; refine ⟨w', c, Ev.bind hb (Ev.if_pos rfl (Ev.bind (Ev.val (in_val _ _ _)) ?_)), hw'⟩; rw [decide_eq_true q]; have h4 := him4 a h0 ha; refine Ev.step (fun k => by simp only [spec_FixedPrefix.j0]; rw [_root_.if_neg (by simp), Option.bind_some, _root_.if_pos h0, _root_.if_pos ha, _root_.if_pos (by simp; omega), List.nil_append]; rfl) hE
  ·refine ⟨[], false, Ev.bind hb (Ev.if_pos rfl (Ev.bind (Ev.val (in_val _ _ _)) ?_)), by simp⟩; rw [decide_eq_false q]; exact no
set_option maxRecDepth 100000
def pats : List (List Int) := [[0, 0], [0, 1, 0], [0, 0, 0], [0, 1, 0, 1], [0, 1, 1, 0], [0, 1, 0, 1, 0], [0, 1, 2, 0, 1], [0], [1, 0], [0, 2], []]
theorem pat_mem (s : List Int) (i h : Int) (h0 : 0 ≤ i) (h1 : i ≤ s.length) (hs : s.length ≤ 1048576) : ∃ p i' h', spec_l28Pattern.f s i h = some (p, i', h') ∧ p ∈ pats ∧ 0 ≤ i' ∧ i' ≤ (s.length : Int) := by
 obtain ⟨r, i', h', e, r0, r1, i0, i1⟩ := below_val s i h 11 h0 h1 hs (by omega) (by omega); obtain ⟨n, rfl⟩ : ∃ n : Nat, r = (n : Int) := ⟨r.toNat, by omega⟩; have e' : ∀ n_ : Int, n_ = 11 → spec_l1Below.f s i h n_ = some ((n : Int), i', h') := by rintro _ rfl; exact e
 unfold spec_l28Pattern.f; rw [Option.bind_some, Option.bind_some, e' _ (by rfl), Option.bind_some]; have hn : n < 11 := by omega
 rcases (show n = 0 ∨ n = 1 ∨ n = 2 ∨ n = 3 ∨ n = 4 ∨ n = 5 ∨ n = 6 ∨ n = 7 ∨ n = 8 ∨ n = 9 ∨ n = 10 by omega) with rfl | rfl | rfl | rfl | rfl | rfl | rfl | rfl | rfl | rfl | rfl
 all_goals exact ⟨_, i', h', rfl, by dsimp only; decide, i0, i1⟩
theorem pats_len : ∀ p ∈ pats, p.length ≤ 6 := by decide
theorem wd_ev (s : List Int) (i h m : Int) (h0 : 0 ≤ i) (h1 : i ≤ s.length) (hs : s.length ≤ 1048576) (hm : 1 ≤ m) (hm2 : m ≤ 256) : ∃ l i' h', Ev (fun k => spec_l7Word.f k s i h m) (l, i', h') ∧ l.length ≤ 20 ∧ 0 ≤ i' ∧ i' ≤ (s.length : Int) := by
 have key : ∀ (n : Nat) (acc : List Int) (i h : Int), acc.length + n ≤ 12 → 0 ≤ i → i ≤ s.length → ∃ l i' h', Ev (fun k => spec_l7Word.l0 k m acc (n : Int) s i h) (l, i', h') ∧ l.length ≤ 20 ∧ 0 ≤ i' ∧ i' ≤ (s.length : Int) := by
  intro n
  induction n with
  | zero =>
   intro acc i h hn h0 h1; exact ⟨acc, i, h, Ev.step (fun k => by simp only [spec_l7Word.l0]; rw [_root_.if_neg (by omega)]) (Ev.some _), by omega, h0, h1⟩
  | succ n ih =>
   intro acc i h hn h0 h1; obtain ⟨r, i', h', e, r0, r1, i0, i1⟩ := below_val s i h m h0 h1 hs hm hm2; obtain ⟨l, i2, h2, hE, hl, j0, j1⟩ := ih (acc ++ [r]) i' h' (by simp; omega) i0 i1; refine ⟨l, i2, h2, Ev.step (fun k => by simp only [spec_l7Word.l0]; rw [_root_.if_pos (by omega), e, Option.bind_some, _root_.if_pos (by omega), w_id (a := ((n + 1 : Nat) : Int) - 1) (by omega) (by omega), show ((n + 1 : Nat) : Int) - 1 = (n : Int) from by omega]) hE, hl, j0, j1⟩
 obtain ⟨r, i', h', e, r0, r1, i0, i1⟩ := below_val s i h 12 h0 h1 hs (by omega) (by omega); obtain ⟨n, rfl⟩ : ∃ n : Nat, r = (n : Int) := ⟨r.toNat, by omega⟩; obtain ⟨l, i2, h2, hE, hl, j0, j1⟩ := key n [] i' h' (by simp; omega) i0 i1; unfold spec_l7Word.f; exact ⟨l, i2, h2, Ev.bind (Ev.val e) hE, hl, j0, j1⟩
theorem same_ev (x y : List Int) (hx : x.length ≤ 1048576) : Ev (fun k => laws_sameInts.f k x y) (decide (x = y)) := by
 unfold laws_sameInts.f; refine Ev.ite (fun hl => ?_) (fun hl => ?_)
 ·have key : ∀ i, i ≤ x.length → Ev (fun k => laws_sameInts.l0 k x y (i : Int)) (decide (x.drop i = y.drop i)) := by
   refine down x.length ?_ ?_
   ·refine Ev.step (fun k => by simp only [laws_sameInts.l0]; rw [_root_.if_neg (by omega)]) ?_; rw [List.drop_length, List.drop_eq_nil_of_le (by omega)]; exact Ev.some _
   ·intro i hi ih; have hy : i < y.length := by omega
    refine Ev.step (fun k => by simp only [laws_sameInts.l0]; rw [_root_.if_pos (by omega), _root_.if_pos (by omega), _root_.if_pos (by omega), wsucc (by omega), rd_get x i hi, rd_get y i hy]) ?_; rw [drop_eq x i hi, drop_eq y i hy]; refine Ev.ite (fun q => ?_) (fun q => ?_)
    ·have : decide (x[i] :: x.drop (i + 1) = y[i] :: y.drop (i + 1)) = decide (x.drop (i + 1) = y.drop (i + 1)) := decide_eq_decide.2 (by rw [q]; exact ⟨fun h => (List.cons.inj h).2, fun h => by rw [h]⟩); rw [this]; exact ih
    ·rw [decide_eq_false (by intro h; exact q (List.cons.inj h).1)]; exact Ev.some _
  exact key 0 (by omega)
 ·rw [decide_eq_false (by rintro rfl; exact hl rfl)]; exact Ev.some _
set_option maxRecDepth 100000
/-! Sequences: what the test says. -/
def rowOk (b : Int) (n : Nat) (r : List Int) : Bool := decide ((r.length : Int) = b) && r.all fun y => decide (0 ≤ y ∧ y < (n : Int))
def seqT (b : Int) (N : List (List Int)) (O : List Int) : Bool := decide (2 ≤ b ∧ b ≤ 4) && (decide (1 ≤ N.length ∧ N.length ≤ 16) && decide (O.length = N.length))
def seqO (O : List Int) : Bool := O.all fun y => decide (0 ≤ y ∧ y ≤ 3)
def isSeq (b : Int) (N : List (List Int)) (O : List Int) : Bool := N.all (rowOk b N.length) && (seqO O && seqT b N O)
theorem isSeq_ev (b : Int) (N : List (List Int)) (O : List Int) (hN : N.length ≤ 1000) (hr : ∀ r ∈ N, r.length ≤ 1000) (hO : O.length ≤ 1000) : Ev (fun k => spec_IsSequence.f k b N O) (isSeq b N O) := by
 have l2 : ∀ j, j ≤ O.length → Ev (fun k => spec_IsSequence.l2 k (j : Int) b N O) (seqO (O.drop j) && seqT b N O) := by
  refine down O.length ?_ ?_
  ·refine Ev.step (fun k => by simp only [spec_IsSequence.l2]; rw [_root_.if_neg (by omega)]) ?_; rw [List.drop_length, show seqO [] = true from rfl, Bool.true_and]; unfold seqT; refine Ev.bind (Ev.val (in_val _ _ _)) (Ev.ite (fun q => ?_) (fun q => ?_))
   ·rw [q, Bool.true_and]; refine Ev.bind (Ev.val (in_val _ _ _)) (Ev.ite (fun q2 => ?_) (fun q2 => ?_))
    ·have q3 := of_decide_eq_true q2; rw [decide_eq_true (show 1 ≤ N.length ∧ N.length ≤ 16 by omega), Bool.true_and]; refine Ev.same (Ev.some _) ?_; by_cases e : O.length = N.length
     ·rw [decide_eq_true e, e]; simp
     ·rw [decide_eq_false e]; exact beq_eq_false_iff_ne.2 (by omega)
    ·rw [decide_eq_false (show ¬ (1 ≤ N.length ∧ N.length ≤ 16) from fun h => q2 (decide_eq_true (by omega))), Bool.false_and]; exact Ev.some _
   ·rw [Bool.eq_false_iff.2 q, Bool.false_and]; exact Ev.some _
  ·intro j hj ih; rw [drop_eq O j hj]; unfold seqO at ih ⊢; rw [List.all_cons]; refine Ev.step (fun k => by simp only [spec_IsSequence.l2]; rw [_root_.if_pos (by omega), _root_.if_pos (by omega), rd_get O j hj, wsucc (by omega)]) ?_; refine Ev.bind (Ev.val (in_val _ _ _)) (Ev.ite (fun q => ?_) (fun q => ?_))
   ·rw [q, Bool.true_and]; exact ih
   ·rw [Bool.eq_false_iff.2 q, Bool.false_and, Bool.false_and]; exact Ev.some _
 have l0 : ∀ i, i ≤ N.length → Ev (fun k => spec_IsSequence.l0 k (i : Int) b N O) ((N.drop i).all (rowOk b N.length) && (seqO O && seqT b N O)) := by
  refine down N.length ?_ ?_
  ·refine Ev.step (fun k => by simp only [spec_IsSequence.l0]; rw [_root_.if_neg (by omega)]) ?_; rw [List.drop_length, List.all_nil, Bool.true_and]; have := l2 0 (by omega); rw [List.drop_zero] at this; exact this
  ·intro i hi ih; have hri := hr _ (List.getElem_mem hi); rw [drop_eq N i hi, List.all_cons]; refine Ev.step (fun k => by simp only [spec_IsSequence.l0]; rw [_root_.if_pos (by omega), _root_.if_pos (by omega), rdLL N i hi]) ?_; unfold rowOk; refine Ev.ite (fun q => ?_) (fun q => ?_)
   ·rw [decide_eq_true q, Bool.true_and]; have l1 : ∀ j, j ≤ N[i].length → Ev (fun k => spec_IsSequence.l1 k (i : Int) (j : Int) b N O) (((N[i].drop j).all fun y => decide (0 ≤ y ∧ y < (N.length : Int))) && ((N.drop (i + 1)).all (rowOk b N.length)) && (seqO O && seqT b N O)) := by
     refine down N[i].length ?_ ?_
     ·refine Ev.step (fun k => by simp only [spec_IsSequence.l1]; rw [_root_.if_pos (by omega), _root_.if_pos (by omega), rdLL N i hi, _root_.if_neg (by omega), wsucc (by omega)]) ?_; rw [List.drop_length, List.all_nil, Bool.true_and]; exact ih
     ·intro j hj ih2; rw [drop_eq N[i] j hj, List.all_cons]; refine Ev.step (fun k => by simp only [spec_IsSequence.l1]; rw [_root_.if_pos (by omega), _root_.if_pos (by omega), rdLL N i hi, _root_.if_pos (by omega), _root_.if_pos (by omega), rd_get N[i] j hj, wsucc (by omega)]) ?_; refine Ev.ite (fun q1 => ?_) (fun q1 => Ev.ite (fun q2 => ?_) (fun q2 => ?_))
      ·rw [decide_eq_false (by omega), Bool.false_and, Bool.false_and, Bool.false_and]; exact Ev.some _
      ·rw [decide_eq_false (by omega), Bool.false_and, Bool.false_and, Bool.false_and]; exact Ev.some _
      ·rw [decide_eq_true (by omega), Bool.true_and]; exact ih2
    exact l1 0 (by omega)
   ·rw [decide_eq_false q, Bool.false_and, Bool.false_and, Bool.false_and]; exact Ev.some _
 unfold spec_IsSequence.f isSeq; exact l0 0 (by omega)
theorem isSeq_gives {b : Int} {N : List (List Int)} {O : List Int} (h : isSeq b N O = true) : (2 ≤ b ∧ b ≤ 4) ∧ (1 ≤ N.length ∧ N.length ≤ 16) ∧ O.length = N.length ∧ ∀ i (hi : i < N.length), (N[i].length : Int) = b ∧ ∀ y ∈ N[i], 0 ≤ y ∧ y < (N.length : Int) := by
 unfold isSeq seqT at h; rw [Bool.and_eq_true, Bool.and_eq_true, Bool.and_eq_true, Bool.and_eq_true, List.all_eq_true] at h; obtain ⟨h1, _, h2, h3, h4⟩ := h; refine ⟨of_decide_eq_true h2, of_decide_eq_true h3, of_decide_eq_true h4, fun i hi => ?_⟩; have := h1 _ (List.getElem_mem hi); unfold rowOk at this; rw [Bool.and_eq_true, List.all_eq_true] at this; exact ⟨of_decide_eq_true this.1, fun y hy => of_decide_eq_true (this.2 y hy)⟩
def okP (b : Int) (v : Int) : Bool := spec_PowerOf.f 60 b 16 == some v
theorem okP_all : okP 2 65536 = true ∧ okP 3 43046721 = true ∧ okP 4 4294967296 = true := by decide +kernel
theorem okP_ev (b v : Int) (h : okP b v = true) : Ev (fun k => spec_PowerOf.f k b 16) v := Ev.of (spec_PowerOf.mono _ _) (eq_of_beq h)
theorem power_ev (b : Int) (hb : 2 ≤ b ∧ b ≤ 4) : ∃ B : Nat, b = (B : Int) ∧ Ev (fun k => spec_PowerOf.f k b 16) ((B ^ 16 : Nat) : Int) := by
 obtain ⟨p2, p3, p4⟩ := okP_all; rcases (show b = 2 ∨ b = 3 ∨ b = 4 by omega) with rfl | rfl | rfl
 ·exact ⟨2, rfl, okP_ev _ _ p2⟩
 ·exact ⟨3, rfl, okP_ev _ _ p3⟩
 ·exact ⟨4, rfl, okP_ev _ _ p4⟩
theorem digits_ev (B : Nat) (hB : 2 ≤ B ∧ B ≤ 4) (x : Nat) (hx : x < B ^ 16) : ∃ ds, Ev (fun k => spec_DigitsOf.f k (x : Int) (B : Int)) ds ∧ ds.length ≤ 16 ∧ ∀ d ∈ ds, 0 ≤ d ∧ d < (B : Int) := by
 have key : ∀ (m x : Nat) (acc : List Int), x < B ^ m → acc.length + m ≤ 16 → (∀ d ∈ acc, 0 ≤ d ∧ d < (B : Int)) → x ≤ 9223372036854775807 → ∃ ds, Ev (fun k => spec_DigitsOf.l0 k (x : Int) (B : Int) acc) ds ∧ ds.length ≤ 16 ∧ ∀ d ∈ ds, 0 ≤ d ∧ d < (B : Int) := by
  intro m
  induction m with
  | zero =>
   intro x acc hx ha hd _; exact ⟨acc, Ev.step (fun k => by simp only [spec_DigitsOf.l0]; rw [_root_.if_neg (by simp at hx; omega)]) (Ev.some _), by omega, hd⟩
  | succ m ih =>
   intro x acc hx ha hd hb; by_cases q : x = 0
   ·exact ⟨acc, Ev.step (fun k => by simp only [spec_DigitsOf.l0]; rw [_root_.if_neg (by omega)]) (Ev.some _), by omega, hd⟩
   ·have hm : x % B < B := Nat.mod_lt _ (by omega); have hq : x / B < B ^ m := by
     rw [Nat.div_lt_iff_lt_mul (by omega)]; rw [Nat.pow_succ] at hx; exact hx
    have hle : x / B ≤ x := Nat.div_le_self _ _
    obtain ⟨ds, hE, h1, h2⟩ := ih (x / B) (((x % B : Nat) : Int) :: acc) hq (by simp only [List.length_cons]; omega) (fun d hd' => by
     rcases List.mem_cons.1 hd' with rfl | hd'
     ·omega
     ·exact hd d hd') (by omega)
    refine ⟨ds, Ev.step (fun k => by
     simp only [spec_DigitsOf.l0]; rw [_root_.if_pos (by omega), _root_.if_neg (by omega), Option.bind_some, _root_.if_pos (by simp; omega), show Int.tmod (x : Int) (B : Int) = ((x % B : Nat) : Int) from by rw [Int.tmod_eq_emod_of_nonneg (by omega)]; exact (Int.natCast_emod x B).symm, show Int.tdiv (x : Int) (B : Int) = ((x / B : Nat) : Int) from by rw [Int.tdiv_eq_ediv_of_nonneg (by omega)]; exact (Int.natCast_ediv x B).symm, w_id (a := ((x / B : Nat) : Int)) (Int.le_trans (by decide) (Int.natCast_nonneg _)) (Int.le_trans (Int.ofNat_le.2 (Nat.le_trans hle hb)) (by decide))]
     rfl) hE, h1, h2⟩
 obtain ⟨B', hB', hP⟩ := power_ev (B : Int) (by omega); obtain rfl : B' = B := by omega
 have hbig : B' ^ 16 ≤ 4294967296 := Nat.le_trans (Nat.pow_le_pow_left hB.2 16) (by decide); obtain ⟨ds, hE, h1, h2⟩ := key 16 x [] hx (by simp) (by simp) (by omega); unfold spec_DigitsOf.f; refine ⟨ds, Ev.bind (Ev.val rfl) (Ev.if_neg (by omega) (Ev.bind (Ev.val (in_val _ _ _)) ?_)), h1, h2⟩; rw [decide_eq_true (by omega)]; refine Ev.if_pos rfl (Ev.bind hP ?_); rw [decide_eq_false (by omega)]; exact Ev.step (fun k => by simp only [spec_DigitsOf.j0]; rw [_root_.if_neg (by simp)]) hE
theorem areDigits_ev (b : Int) (hb : 2 ≤ b ∧ b ≤ 4) (ds : List Int) (hl : ds.length ≤ 16) (hd : ∀ d ∈ ds, 0 ≤ d ∧ d < b) : Ev (fun k => spec_AreDigits.f k ds b) true := by
 have key : ∀ i, i ≤ ds.length → Ev (fun k => spec_AreDigits.l0 k ds b (i : Int)) true := by
  refine down ds.length ?_ ?_
  ·refine Ev.step (fun k => by simp only [spec_AreDigits.l0]; rw [_root_.if_neg (by omega)]) ?_; refine Ev.bind (Ev.val (in_val _ _ _)) ?_; rw [decide_eq_true (by omega)]; refine Ev.if_pos rfl (Ev.same (Ev.some _) (decide_eq_true (by omega)))
  ·intro i hi ih; have := hd _ (List.getElem_mem hi); exact Ev.step (fun k => by simp only [spec_AreDigits.l0]; rw [_root_.if_pos (by omega), _root_.if_pos (by omega), rd_get ds i hi, _root_.if_neg (by omega), _root_.if_neg (by omega), wsucc (by omega)]) ih
 unfold spec_AreDigits.f; exact key 0 (by omega)
section seq
variable (b : Int) (N : List (List Int)) (O : List Int) (hN : N.length ≤ 1000) (hr : ∀ r ∈ N, r.length ≤ 1000) (hO : O.length ≤ 1000)
include hN hr hO
theorem state_ev (h : isSeq b N O = true) (ds : List Int) (hl : ds.length ≤ 16) (hd : ∀ d ∈ ds, 0 ≤ d ∧ d < b) : ∃ s, Ev (fun k => spec_StateAfter.f k b N O ds) s ∧ 0 ≤ s ∧ s < (N.length : Int) := by
 obtain ⟨hb, hn, ho, hrow⟩ := isSeq_gives h; have key : ∀ d i : Nat, i + d = ds.length → ∀ s : Int, 0 ≤ s → s < (N.length : Int) → ∃ s', Ev (fun k => spec_StateAfter.l0 k ds s (i : Int) b N O) s' ∧ 0 ≤ s' ∧ s' < (N.length : Int) := by
  intro d
  induction d with
  | zero =>
   intro i hi s h0 h1; exact ⟨s, Ev.step (fun k => by simp only [spec_StateAfter.l0]; rw [_root_.if_neg (by omega)]) (Ev.some _), h0, h1⟩
  | succ d ih =>
   intro i hi s h0 h1; have hil : i < ds.length := by omega
   obtain ⟨m, rfl⟩ : ∃ m : Nat, s = (m : Int) := ⟨s.toNat, by omega⟩; have hm : m < N.length := by omega
   have hdi := hd _ (List.getElem_mem hil); obtain ⟨hlen, hy⟩ := hrow m hm; obtain ⟨c, hc⟩ : ∃ c : Nat, ds[i] = (c : Int) := ⟨ds[i].toNat, by omega⟩; have hcl : c < N[m].length := by omega
   have hs' := hy _ (List.getElem_mem hcl); obtain ⟨s', hE, hs⟩ := ih (i + 1) (by omega) N[m][c] hs'.1 hs'.2; exact ⟨s', Ev.step (fun k => by simp only [spec_StateAfter.l0]; rw [_root_.if_pos (by omega), _root_.if_pos h0, _root_.if_pos h1, _root_.if_pos (by omega), rd_get ds i hil, hc, _root_.if_pos (by omega), rdLL N m hm, _root_.if_pos (by omega), rd_get N[m] c hcl, wsucc (by omega)]) hE, hs⟩
 obtain ⟨s, hE, hs⟩ := key ds.length 0 (by omega) 0 (by omega) (by omega); have e := isSeq_ev b N O hN hr hO; rw [h] at e; unfold spec_StateAfter.f; refine ⟨s, Ev.bind e (Ev.if_pos rfl (Ev.bind (areDigits_ev b hb ds hl hd) ?_)), hs⟩; exact Ev.step (fun k => by simp only [spec_StateAfter.j0]; rw [_root_.if_neg (by simp)]; rfl) hE
theorem term_ev (h : isSeq b N O = true) (x : Int) : ∃ t, Ev (fun k => spec_TermAt.f k b N O x) t := by
 obtain ⟨hb, hn, ho, hrow⟩ := isSeq_gives h; have e := isSeq_ev b N O hN hr hO; rw [h] at e; have no : Ev (fun k => spec_TermAt.j0 k x true b N O) (-1) := Ev.step (fun k => by simp only [spec_TermAt.j0]; rw [_root_.if_pos trivial]) (Ev.some _); unfold spec_TermAt.f; by_cases q : x < 0
 ·exact ⟨-1, Ev.if_pos q no⟩
 ·obtain ⟨B, rfl, hP⟩ := power_ev b hb; by_cases q2 : x ≥ ((B ^ 16 : Nat) : Int)
  ·refine ⟨-1, Ev.if_neg q (Ev.bind e (Ev.if_pos rfl (Ev.bind hP ?_)))⟩; rw [decide_eq_true q2]; exact no
  ·obtain ⟨m, rfl⟩ : ∃ m : Nat, x = (m : Int) := ⟨x.toNat, by omega⟩; obtain ⟨ds, hE, h1, h2⟩ := digits_ev B (by omega) m (by omega); obtain ⟨s, hs, s0, s1⟩ := state_ev (B : Int) N O hN hr hO h ds h1 h2; refine ⟨rd O s, Ev.if_neg q (Ev.bind e (Ev.if_pos rfl (Ev.bind hP ?_)))⟩; rw [decide_eq_false q2]; refine Ev.step (fun k => by simp only [spec_TermAt.j0]; rw [_root_.if_neg (by simp)]) ?_; exact Ev.bind hE (Ev.bind hs (Ev.if_pos s0 (Ev.if_pos (by omega) (Ev.some _))))
theorem prefix_ev (m : Int) : ∃ w, Ev (fun k => spec_PrefixOf.f k b N O m) w ∧ w.length ≤ 256 := by
 have e := isSeq_ev b N O hN hr hO; have key : ∀ (d j : Nat) (w : List Int), j + d = 256 → w.length = j → ∃ w', Ev (fun k => spec_PrefixOf.l0 k m w (j : Int) b N O) w' ∧ w'.length ≤ 256 := by
  intro d
  induction d with
  | zero =>
   intro j w hj hw; refine ⟨w, ?_, by omega⟩; by_cases q : (j : Int) < m
   ·exact Ev.step (fun k => by simp only [spec_PrefixOf.l0]; rw [_root_.if_pos q, _root_.if_neg (by omega)]) (Ev.some _)
   ·exact Ev.step (fun k => by simp only [spec_PrefixOf.l0]; rw [_root_.if_neg q]) (Ev.some _)
  | succ d ih =>
   intro j w hj hw; by_cases q : (j : Int) < m
   ·by_cases q2 : m ≤ 256
    ·cases q3 : isSeq b N O with
     | false =>
      rw [q3] at e; exact ⟨w, Ev.step (fun k => by simp only [spec_PrefixOf.l0]; rw [_root_.if_pos q, _root_.if_pos q2]) (Ev.bind e (Ev.if_neg Bool.false_ne_true (Ev.some _))), by omega⟩
     | true =>
      rw [q3] at e; obtain ⟨t, ht⟩ := term_ev b N O hN hr hO q3 (j : Int); obtain ⟨w', hE, hl⟩ := ih (j + 1) (w ++ [t]) (by omega) (by simp; omega); refine ⟨w', Ev.step (fun k => by simp only [spec_PrefixOf.l0]; rw [_root_.if_pos q, _root_.if_pos q2]) (Ev.bind e (Ev.if_pos rfl (Ev.bind ht (Ev.if_pos (show w.length < 17592186044416 by omega) ?_)))), hl⟩; exact Ev.congr (fun k => by rw [wsucc (by omega)]) hE
    ·exact ⟨w, Ev.step (fun k => by simp only [spec_PrefixOf.l0]; rw [_root_.if_pos q, _root_.if_neg q2]) (Ev.some _), by omega⟩
   ·exact ⟨w, Ev.step (fun k => by simp only [spec_PrefixOf.l0]; rw [_root_.if_neg q]) (Ev.some _), by omega⟩
 unfold spec_PrefixOf.f; exact key 256 0 [] (by omega) rfl
end seq
def SM (N : List (List Int)) (O : List Int) : Prop := N.length ≤ 6 ∧ (∀ r ∈ N, r.length ≤ 6) ∧ O.length ≤ 6
def nms : List ByteArray := [(⟨#[116, 104, 117, 101]⟩ : ByteArray), (⟨#[114, 117, 100, 105, 110]⟩ : ByteArray), (⟨#[112, 101, 114, 105, 111, 100]⟩ : ByteArray), (⟨#[112, 111, 119, 101, 114, 115]⟩ : ByteArray), (⟨#[99, 97, 110, 116, 111, 114]⟩ : ByteArray), (⟨#[109, 111, 100]⟩ : ByteArray)]
def nmv (x : ByteArray) : Bool := match spec_NamedSequence.f x with
 | some y => decide (y.2.1.length ≤ 6) && (y.2.1.all (fun r => decide (r.length ≤ 6)) && decide (y.2.2.1.length ≤ 6))
 | none => false
theorem nm_all : ∀ x ∈ nms, nmv x = true := by decide +kernel
theorem nmv_at {x : ByteArray} (h : nmv x = true) : ∃ y, spec_NamedSequence.f x = some y ∧ SM y.2.1 y.2.2.1 := by
 unfold nmv at h; split at h
 ·rename_i y hy; rw [Bool.and_eq_true, Bool.and_eq_true, List.all_eq_true] at h; exact ⟨y, hy, of_decide_eq_true h.1, fun r hr => of_decide_eq_true (h.2.1 r hr), of_decide_eq_true h.2.2⟩
 ·cases h
section draw
variable (s : List Int) (hs : s.length ≤ 1048576)
include hs
theorem l3r_ev (i h : Int) (h0 : 0 ≤ i) (h1 : i ≤ s.length) (b n : Nat) (hb : 2 ≤ b ∧ b ≤ 3) (hn : 1 ≤ n ∧ n ≤ 5) : ∃ N O i' h', Ev (fun k => spec_l3Random.f k s i h (b : Int) (n : Int)) ((b : Int), N, O, i', h') ∧ SM N O ∧ 0 ≤ i' ∧ i' ≤ (s.length : Int) := by
 have key : ∀ (d j : Nat) (N : List (List Int)) (O : List Int) (i h : Int), j + d = n → N.length = j → O.length = j → (∀ r ∈ N, r.length = b) → 0 ≤ i → i ≤ s.length → ∃ N' O' i' h', Ev (fun k => spec_l3Random.l0 k (b : Int) (n : Int) (j : Int) s i h (b : Int) N O) ((b : Int), N', O', i', h') ∧ SM N' O' ∧ 0 ≤ i' ∧ i' ≤ (s.length : Int) := by
  intro d
  induction d with
  | zero =>
   intro j N O i h hj hN hO hr h0 h1; obtain ⟨c, i', h', e, a0, a1⟩ := once_val s i h 2 h0 h1 hs (by omega) (by omega); cases c with
   | true =>
    have hx : 0 < N.length := by omega
    have e0 : rd_L2 N 0 = N[0] := rdLL N 0 hx; have hl := hr _ (List.getElem_mem hx); refine ⟨N.set 0 (N[0].set 0 0), O, i', h', Ev.step (fun k => by simp only [spec_l3Random.l0]; rw [_root_.if_neg (by omega), e, Option.bind_some, _root_.if_pos rfl, _root_.if_pos hx, e0, _root_.if_pos (by omega)]) (Ev.some _), ⟨by rw [List.length_set]; omega, fun r hr' => ?_, by omega⟩, a0, a1⟩; rcases List.mem_or_eq_of_mem_set hr' with q | rfl
    ·have := hr r q; omega
    ·rw [List.length_set]; omega
   | false => exact ⟨N, O, i', h', Ev.step (fun k => by simp only [spec_l3Random.l0]; rw [_root_.if_neg (by omega), e, Option.bind_some, _root_.if_neg (by simp)]) (Ev.some _), ⟨by omega, fun r q => by have := hr r q; omega, by omega⟩, a0, a1⟩
  | succ d ih =>
   intro j N O i h hj hN hO hr h0 h1; have row : ∀ (d2 c : Nat) (x : List Int) (i h : Int), c + d2 = b → x.length = c → 0 ≤ i → i ≤ s.length → ∃ N' O' i' h', Ev (fun k => spec_l3Random.l1 k (b : Int) (n : Int) (j : Int) x (c : Int) s i h (b : Int) N O) ((b : Int), N', O', i', h') ∧ SM N' O' ∧ 0 ≤ i' ∧ i' ≤ (s.length : Int) := by
    intro d2
    induction d2 with
    | zero =>
     intro c x i h hc hx h0 h1; obtain ⟨r, i1, g1, e1, r0, r1, a0, a1⟩ := below_val s i h 2 h0 h1 hs (by omega) (by omega); obtain ⟨t, i2, g2, e2, _, _, b0, b1⟩ := below_val s i1 g1 (2 + r) a0 a1 hs (by omega) (by omega)
     obtain ⟨N', O', i', h', hE, hS⟩ := ih (j + 1) (N ++ [x]) (O ++ [t]) i2 g2 (by omega) (by simp; omega) (by simp; omega) (by
      intro r hr'; rcases List.mem_append.1 hr' with q | q
      ·exact hr r q
      ·obtain rfl := List.mem_singleton.1 q; omega) b0 b1
     refine ⟨N', O', i', h', Ev.step (fun k => by simp only [spec_l3Random.l1]; rw [_root_.if_neg (by omega), _root_.if_pos (by omega), e1, Option.bind_some]; dsimp only; rw [w_id (a := 2 + r) (by omega) (by omega), e2, Option.bind_some, _root_.if_pos (by omega), wsucc (by omega)]) hE, hS⟩
    | succ d2 ih2 =>
     intro c x i h hc hx h0 h1; obtain ⟨r, i1, g1, e1, r0, r1, a0, a1⟩ := below_val s i h (n : Int) h0 h1 hs (by omega) (by omega); obtain ⟨N', O', i', h', hE, hS⟩ := ih2 (c + 1) (x ++ [r]) i1 g1 (by omega) (by simp; omega) a0 a1; exact ⟨N', O', i', h', Ev.step (fun k => by simp only [spec_l3Random.l1]; rw [_root_.if_pos (by omega), e1, Option.bind_some, _root_.if_pos (by omega), wsucc (by omega)]) hE, hS⟩
   obtain ⟨N', O', i', h', hE, hS⟩ := row b 0 [] i h (by omega) rfl h0 h1; exact ⟨N', O', i', h', Ev.step (fun k => by simp only [spec_l3Random.l0]; rw [_root_.if_pos (by omega)]; rfl) hE, hS⟩
 unfold spec_l3Random.f; exact key n 0 [] [] i h (by omega) rfl rfl (by simp) h0 h1
theorem name_val (i h : Int) (h0 : 0 ≤ i) (h1 : i ≤ s.length) : ∃ x i' h', spec_l1Pick.f s i h nms = some (x, i', h') ∧ x ∈ nms ∧ 0 ≤ i' ∧ i' ≤ (s.length : Int) := by
 obtain ⟨r, i2, g2, e2, r0, r1, b0, b1⟩ := below_val s i h (nms.length : Int) h0 h1 hs (by decide) (by decide); obtain ⟨n, rfl⟩ : ∃ n : Nat, r = (n : Int) := ⟨r.toNat, by omega⟩; have hn : n < nms.length := by omega
 unfold spec_l1Pick.f; rw [e2, Option.bind_some]; dsimp only; rw [_root_.if_pos r0, _root_.if_pos r1, rdOf_get _ _ n hn]; exact ⟨_, i2, g2, rfl, List.getElem_mem hn, b0, b1⟩
theorem l3d_ev (i h : Int) (h0 : 0 ≤ i) (h1 : i ≤ s.length) : ∃ b N O i' h', Ev (fun k => spec_l3Draw.f k s i h) (b, N, O, i', h') ∧ SM N O ∧ 0 ≤ i' ∧ i' ≤ (s.length : Int) := by
 obtain ⟨c, i1, g1, e1, a0, a1⟩ := once_val s i h 3 h0 h1 hs (by omega) (by omega); unfold spec_l3Draw.f; cases c with
 | true =>
  obtain ⟨x, i2, g2, e2, hx, b0, b1⟩ := name_val s hs i1 g1 a0 a1; obtain ⟨y, hy, hS⟩ := nmv_at (nm_all x hx); exact ⟨y.1, y.2.1, y.2.2.1, i2, g2, Ev.bind (Ev.val e1) (Ev.if_pos rfl (Ev.bind (Ev.val e2) (Ev.bind (Ev.val hy) (Ev.some _)))), hS, b0, b1⟩
 | false =>
  obtain ⟨r, i2, g2, e2, r0, r1, b0, b1⟩ := below_val s i1 g1 2 a0 a1 hs (by omega) (by omega); obtain ⟨t, i3, g3, e3, t0, t1, c0, c1⟩ := below_val s i2 g2 5 b0 b1 hs (by omega) (by omega); obtain ⟨B, hB⟩ : ∃ B : Nat, 2 + r = (B : Int) := ⟨(2 + r).toNat, by omega⟩; obtain ⟨n, hn⟩ : ∃ n : Nat, 1 + t = (n : Int) := ⟨(1 + t).toNat, by omega⟩; obtain ⟨N, O, i', h', hE, hS, d0, d1⟩ := l3r_ev s hs i3 g3 c0 c1 B n (by omega) (by omega); rw [← hB, ← hn] at hE; refine ⟨2 + r, N, O, i', h', Ev.bind (Ev.val e1) (Ev.if_neg (by simp) (Ev.bind (Ev.val e2) (Ev.bind (Ev.val e3) ?_))), hS, d0, d1⟩; dsimp only; rw [w_id (a := 2 + r) (by omega) (by omega), w_id (a := 1 + t) (by omega) (by omega)]; exact Ev.bind hE (Ev.some _)
theorem l8l_ev (i h : Int) (h0 : 0 ≤ i) (h1 : i ≤ s.length) : ∃ w i' h', Ev (fun k => spec_l8Long.f k s i h) (w, i', h') ∧ w.length ≤ 256 ∧ 0 ≤ i' ∧ i' ≤ (s.length : Int) := by
 obtain ⟨r, i1, g1, e1, r0, r1, a0, a1⟩ := below_val s i h 4 h0 h1 hs (by omega) (by omega); unfold spec_l8Long.f; by_cases q0 : r = 0
 ·obtain ⟨b, N, O, i2, g2, e2, ⟨hN, hr, hO⟩, b0, b1⟩ := l3d_ev s hs i1 g1 a0 a1; obtain ⟨t, i3, g3, e3, t0, t1, c0, c1⟩ := below_val s i2 g2 40 b0 b1 hs (by omega) (by omega); obtain ⟨w, hE, hw⟩ := prefix_ev b N O (by omega) (fun r h => by have := hr r h; omega) (by omega) (wrap64 (10 + t)); exact ⟨w, i3, g3, Ev.bind (Ev.val e1) (Ev.if_pos q0 (Ev.bind e2 (Ev.bind (Ev.val e3) (Ev.bind hE (Ev.some _))))), hw, c0, c1⟩
 by_cases q1 : r = 1
 ·obtain ⟨R, i2, g2, e2, hR, b0, b1⟩ := l7m_ev s i1 g1 a0 a1 hs; obtain ⟨t, i3, g3, e3, t0, t1, c0, c1⟩ := below_val s i2 g2 40 b0 b1 hs (by omega) (by omega); obtain ⟨w, c, hE, hw⟩ := fixed_ev R hR 0 (wrap64 (10 + t)); exact ⟨w, i3, g3, Ev.bind (Ev.val e1) (Ev.if_neg q0 (Ev.if_pos q1 (Ev.bind e2 (Ev.bind (Ev.val e3) (Ev.bind hE (Ev.some _)))))), hw, c0, c1⟩
 by_cases q2 : r = 2
 ·obtain ⟨w, i2, g2, e2, hw, b0, b1⟩ := wd_ev s i1 g1 2 a0 a1 hs (by omega) (by omega); refine ⟨w ++ w ++ w, i2, g2, Ev.bind (Ev.val e1) (Ev.if_neg q0 (Ev.if_neg q1 (Ev.if_pos q2 (Ev.bind e2 (Ev.bind (Ev.val rfl) (Ev.if_pos (by simp only [List.length_nil]; omega) (Ev.bind (Ev.val rfl) (Ev.if_pos (by rw [List.nil_append]; dsimp only; omega) (Ev.bind (Ev.val rfl) (Ev.if_pos (by rw [List.nil_append, List.length_append]; dsimp only; omega) ?_)))))))))), by rw [List.length_append, List.length_append]; omega, b0, b1⟩; exact Ev.some _
 ·obtain ⟨w, i2, g2, e2, hw, b0, b1⟩ := wd_ev s i1 g1 3 a0 a1 hs (by omega) (by omega); exact ⟨w, i2, g2, Ev.bind (Ev.val e1) (Ev.if_neg q0 (Ev.if_neg q1 (Ev.if_neg q2 (Ev.bind e2 (Ev.some _))))), by omega, b0, b1⟩
theorem l8a_ev (i h : Int) (h0 : 0 ≤ i) (h1 : i ≤ s.length) : ∃ w i' h', Ev (fun k => spec_l8Any.f k s i h) (w, i', h') ∧ w.length ≤ 257 ∧ 0 ≤ i' ∧ i' ≤ (s.length : Int) := by
 obtain ⟨w, i1, g1, e1, hw, a0, a1⟩ := l8l_ev s hs i h h0 h1; obtain ⟨c, i2, g2, e2, b0, b1⟩ := once_val s i1 g1 16 a0 a1 hs (by omega) (by omega); unfold spec_l8Any.f; cases c with
 | true =>
  obtain ⟨x, i3, g3, e3, c0, c1⟩ := pick_val s i2 g2 [(-1), 16] b0 b1 hs (by simp) (by simp); exact ⟨_, i3, g3, Ev.bind e1 (Ev.bind (Ev.val e2) (Ev.if_pos rfl (Ev.bind (Ev.val e3) (Ev.if_pos (by dsimp only; omega) (Ev.some _))))), by simp; omega, c0, c1⟩
 | false => exact ⟨w, i2, g2, Ev.bind e1 (Ev.bind (Ev.val e2) (Ev.if_neg (by simp) (Ev.some _))), by omega, b0, b1⟩
theorem l28w_ev (i h : Int) (h0 : 0 ≤ i) (h1 : i ≤ s.length) : ∃ w i' h', Ev (fun k => spec_l28Word.f k s i h) (w, i', h') ∧ w.length ≤ 257 ∧ 0 ≤ i' ∧ i' ≤ (s.length : Int) := by
 obtain ⟨w, i1, g1, e1, hw, a0, a1⟩ := l8a_ev s hs i h h0 h1; unfold spec_l28Word.f; by_cases q : (w.length : Int) > 20
 ·obtain ⟨c, i2, g2, e2, b0, b1⟩ := once_val s i1 g1 12 a0 a1 hs (by omega) (by omega); cases c with
  | true => exact ⟨w, i2, g2, Ev.bind e1 (Ev.if_pos q (Ev.bind (Ev.val e2) (Ev.if_pos rfl (Ev.some _)))), hw, b0, b1⟩
  | false => exact ⟨_, i2, g2, Ev.bind e1 (Ev.if_pos q (Ev.bind (Ev.val e2) (Ev.if_neg (by simp) (Ev.if_pos (by dsimp only; omega) (Ev.some _))))), by rw [List.length_take]; dsimp only; omega, b0, b1⟩
 ·exact ⟨w, i1, g1, Ev.bind e1 (Ev.if_neg q (Ev.some _)), hw, a0, a1⟩
end draw
theorem find_draw (s : List Int) (hs : s.length ≤ 1048576) : ∃ w p, Ev (fun k => spec_DrawFindPattern.f k s) (w, p) ∧ w.length ≤ 257 ∧ p ∈ pats := by
 obtain ⟨h, hnew⟩ := new_ev s hs; obtain ⟨w, i1, g1, e1, hw, a0, a1⟩ := l28w_ev s hs 0 h (by omega) (by omega); obtain ⟨p, i2, g2, e2, hp, b0, b1⟩ := pat_mem s i1 g1 a0 a1 hs; unfold spec_DrawFindPattern.f spec_l28Both.f; exact ⟨w, p, Ev.bind (Ev.bind hnew (Ev.bind e1 (Ev.bind (Ev.val e2) (Ev.some _)))) (Ev.some _), hw, hp⟩
/-- How long a match is. -/
def tot (L : List Int) : List Int → Nat
 | [] => 0
 | x :: p => (L.getD x.toNat 0).toNat + tot L p
theorem tot_append (L p q : List Int) : tot L (p ++ q) = tot L p + tot L q := by
 induction p with
 | nil => simp [tot]
 | cons x p ih => simp only [List.cons_append, tot, ih]; omega
theorem okL_at {p L : List Int} (h : okL p L = true) : isPat p = true ∧ L.length = nl p ∧ (∀ y ∈ L, 1 ≤ y ∧ y ≤ 40) ∧ ∀ x ∈ p, 0 ≤ x ∧ x < (L.length : Int) ∧ x < 3 := by
 unfold okL at h; rw [Bool.and_eq_true, Bool.and_eq_true, List.all_eq_true] at h; obtain ⟨h1, h2, h3⟩ := h; have h2 := of_decide_eq_true h2; obtain ⟨h0, h6, hn3, hn1⟩ := isPat_nl h1; refine ⟨h1, h2, fun y hy => of_decide_eq_true (h3 y hy), fun x hx => ?_⟩; have := (ngo_mem p 0 _ h0).1 x hx; omega
theorem tot_le (L : List Int) (hL : ∀ y ∈ L, 1 ≤ y ∧ y ≤ 40) (p : List Int) (hp : ∀ x ∈ p, 0 ≤ x ∧ x < (L.length : Int)) : p.length ≤ tot L p ∧ tot L p ≤ 40 * p.length := by
 induction p with
 | nil => simp [tot]
 | cons x p ih =>
  have h1 := ih (fun y hy => hp y (List.mem_cons_of_mem _ hy)); have h2 := hp x (List.mem_cons_self ..); have h3 : x.toNat < L.length := by omega
  have h4 := hL _ (List.getElem_mem h3); simp only [tot, List.length_cons]; rw [List.getD_eq_getElem?_getD, List.getElem?_eq_getElem h3]; simp only [Option.getD_some]; omega
theorem specMatchLength_ev (p L : List Int) (hp : p.length ≤ 1048576) (hL : L.length ≤ 1048576) : Ev (fun k => spec_MatchLength.f k p L) (if okL p L = true then (tot L p : Int) else -1) := by
 unfold spec_MatchLength.f; refine Ev.bind (specLengths_ev p L hp hL) ?_; refine Ev.ite (fun h => ?_) (fun h => ?_)
 ·rw [_root_.if_pos h]; obtain ⟨h1, h2, h3, h4⟩ := okL_at h; have h6 := (isPat_nl h1).2.1; have key : ∀ i, i ≤ p.length → Ev (fun k => spec_MatchLength.l0 k p L (tot L (p.take i) : Int) (i : Int)) (tot L p : Int) := by
   refine down p.length ?_ ?_
   ·refine Ev.step (fun k => by simp only [spec_MatchLength.l0]; rw [_root_.if_neg (by omega)]) ?_; rw [List.take_length]; exact Ev.some _
   ·intro i hi ih; have h5 := h4 p[i] (List.getElem_mem hi); obtain ⟨x, hx⟩ : ∃ x : Nat, p[i] = (x : Int) := ⟨p[i].toNat, by omega⟩; have hxl : x < L.length := by omega
    have h7 := h3 _ (List.getElem_mem hxl); obtain ⟨n, hn⟩ : ∃ n : Nat, L[x] = (n : Int) := ⟨L[x].toNat, by omega⟩; have h8 := (tot_le L h3 (p.take i) (fun y hy => ⟨(h4 y (List.mem_of_mem_take hy)).1, (h4 y (List.mem_of_mem_take hy)).2.1⟩)).2; rw [List.length_take] at h8; rw [take_succ p i hi, tot_append] at ih; simp only [tot] at ih; rw [hx, Int.toNat_natCast, List.getD_eq_getElem?_getD, List.getElem?_eq_getElem hxl, Option.getD_some, hn, Int.toNat_natCast] at ih
    refine Ev.step (fun k => by
     simp only [spec_MatchLength.l0]
     rw [_root_.if_pos (by omega), _root_.if_pos (by omega), rd_get p i hi, hx, _root_.if_pos (by omega), _root_.if_pos (by omega), rd_get L x hxl, hn, wsucc (i := i) (by omega), w_id (by omega) (by omega), show ((tot L (p.take i) : Nat) : Int) + (n : Int) = ((tot L (p.take i) + (n + 0) : Nat) : Int) from by omega]) ih
  have := key 0 (by omega); rw [List.take_zero] at this; exact this
 ·rw [_root_.if_neg h]; exact Ev.some _
/-- Held against the word: does a pattern match at a place with lengths. -/
def mAt (w p : List Int) (at_ : Nat) (L : List Int) : Bool := okL p L && (decide (at_ ≤ w.length) && mgo w L p at_ (List.replicate L.length none))
theorem mgo_long (w L : List Int) (p : List Int) : ∀ i us, i ≤ w.length → w.length < i + tot L p → mgo w L p i us = false := by
 induction p with
 | nil => intro i us h1 h2; simp only [tot] at h2; omega
 | cons x p ih =>
  intro i us h1 h2; simp only [tot] at h2; simp only [mgo]; by_cases q : w.length < i + (L.getD x.toNat 0).toNat
  ·rw [_root_.if_pos q]
  ·rw [_root_.if_neg q]; split
   ·exact ih _ _ (by omega) (by omega)
   ·split
    ·exact ih _ _ (by omega) (by omega)
    ·rfl
/-- What the two ways keep in mind tells the same. -/
def Same (w L : List Int) (us : List (Option (List Int))) (fs : List Int) : Prop :=
 us.length = L.length ∧ fs.length = 3 ∧ ∀ j : Nat, j < L.length → match us.getD j none with
  | none => fs.getD j 0 < 0
  | some u => 0 ≤ fs.getD j 0 ∧ (fs.getD j 0).toNat + (L.getD j 0).toNat ≤ w.length ∧ u = (w.take ((fs.getD j 0).toNat + (L.getD j 0).toNat)).drop (fs.getD j 0).toNat
theorem sgo_mgo (w L : List Int) (p : List Int) (hp : ∀ x ∈ p, 0 ≤ x ∧ x < (L.length : Int) ∧ x < 3) : ∀ i us fs, Same w L us fs → i + tot L p ≤ w.length → sgo w L p i fs = some (mgo w L p i us) := by
 induction p with
 | nil => intro i us fs _ _; rfl
 | cons x p ih =>
  intro i us fs hS ht; obtain ⟨hl, hf, hS⟩ := hS; have hx := hp x (List.mem_cons_self ..); have hx' : x.toNat < L.length := by omega
  have ih := ih (fun y hy => hp y (List.mem_cons_of_mem _ hy)); simp only [tot] at ht; simp only [sgo, mgo]; have h1 := hS x.toNat hx'; have hn : ¬ w.length < i + (L.getD x.toNat 0).toNat := by omega
  rw [_root_.if_neg hn, _root_.if_neg hn]; cases hu : us.getD x.toNat none with
  | none =>
   rw [hu] at h1; simp only at h1 ⊢; rw [_root_.if_pos h1]; refine ih _ _ _ ⟨by rw [List.length_set]; exact hl, by rw [List.length_set]; exact hf, fun j hj => ?_⟩ (by omega); have h2 := hS j hj; by_cases e : x.toNat = j
   ·subst e; have e1 : ∀ V, (us.set x.toNat (some V)).getD x.toNat none = some V := fun V => by rw [List.getD_eq_getElem?_getD, List.getElem?_set_self (by omega)]; rfl
    have e2 : (fs.set x.toNat (i : Int)).getD x.toNat 0 = (i : Int) := by rw [List.getD_eq_getElem?_getD, List.getElem?_set_self (by omega)]; rfl
    rw [e1, e2]; simp only [Int.toNat_natCast]; exact ⟨by omega, by omega, trivial⟩
   ·have e1 : ∀ V, (us.set x.toNat (some V)).getD j none = us.getD j none := fun V => by rw [List.getD_eq_getElem?_getD, List.getElem?_set_ne e, ← List.getD_eq_getElem?_getD]
    have e2 : (fs.set x.toNat (i : Int)).getD j 0 = fs.getD j 0 := by rw [List.getD_eq_getElem?_getD, List.getElem?_set_ne e, ← List.getD_eq_getElem?_getD]
    rw [e1, e2]; exact h2
  | some u =>
   rw [hu] at h1; simp only at h1 ⊢; obtain ⟨h2, h3, h4⟩ := h1; rw [_root_.if_neg (show ¬ fs.getD x.toNat 0 < 0 by omega), _root_.if_neg (show ¬ w.length < (fs.getD x.toNat 0).toNat + (L.getD x.toNat 0).toNat by omega), ← h4]; by_cases e : u = (w.take (i + (L.getD x.toNat 0).toNat)).drop i
   ·rw [_root_.if_pos e, _root_.if_pos e]; exact ih _ _ _ ⟨hl, hf, hS⟩ (by omega)
   ·rw [_root_.if_neg e, _root_.if_neg e]
theorem mAt_len {w p L : List Int} {at_ : Nat} (h : mAt w p at_ L = true) : okL p L = true ∧ at_ + tot L p ≤ w.length := by
 unfold mAt at h; rw [Bool.and_eq_true, Bool.and_eq_true] at h; obtain ⟨h1, h2, h3⟩ := h; have h2 := of_decide_eq_true h2; refine ⟨h1, ?_⟩; apply Nat.le_of_not_lt; intro q; rw [mgo_long w L p at_ _ h2 q] at h3; cases h3
theorem implMatchAt_ev (w p : List Int) (at_ : Nat) (L : List Int) (hw : w.length ≤ 1000000) (hp : p.length ≤ 1048576) (hL : L.length ≤ 1048576) : Ev (fun k => impl_MatchAt.f k w p (at_ : Int) L) (mAt w p at_ L) := by
 unfold impl_MatchAt.f mAt; refine Ev.bind (implLengths_ev p L hp hL) ?_; by_cases h : okL p L = true
 ·obtain ⟨h1, h2, h3, h4⟩ := okL_at h; rw [h, Bool.true_and]; by_cases h5 : at_ ≤ w.length
  ·rw [decide_eq_true h5, Bool.true_and]; have hok : matOk w p L := ⟨fun x hx => ⟨(h4 x hx).1, (h4 x hx).2.1⟩, h3, hw, by have := (isPat_nl h1).2.1; omega, by have := (isPat_nl h1).2.2.1; omega⟩; refine Ev.if_pos ⟨rfl, by omega, by omega⟩ (Ev.if_pos hok ?_); rw [Int.toNat_natCast]; exact Ev.some _
  ·rw [decide_eq_false h5, Bool.false_and]; exact Ev.if_neg (fun q => h5 (by omega)) (Ev.some _)
 ·rw [Bool.eq_false_iff.2 h, Bool.false_and]; exact Ev.if_neg (by simp) (Ev.some _)
theorem specMatchAt_ev (w p : List Int) (at_ : Nat) (L : List Int) (hw : w.length ≤ 1000000) (hp : p.length ≤ 1048576) (hL : L.length ≤ 1048576) : Ev (fun k => spec_MatchAt.f k w p (at_ : Int) L) (mAt w p at_ L) := by
 unfold spec_MatchAt.f; refine Ev.bind (specMatchLength_ev p L hp hL) ?_; by_cases h : okL p L = true
 ·rw [_root_.if_pos h]; obtain ⟨h1, h2, h3, h4⟩ := okL_at h; have h6 := (isPat_nl h1).2.1; have h7 := (tot_le L h3 p (fun y hy => ⟨(h4 y hy).1, (h4 y hy).2.1⟩)).2; by_cases h5 : at_ ≤ w.length
  ·refine Ev.if_neg (by omega) (Ev.if_neg (fun q => q ⟨hw, by omega⟩) ?_); unfold mAt; rw [h, decide_eq_true h5, Bool.true_and, Bool.true_and]; by_cases h8 : w.length < at_ + tot L p
   ·rw [mgo_long w L p at_ _ h5 h8]; exact Ev.if_pos (by omega) (Ev.some _)
   ·have hok : smatOk w p L := ⟨h4, h3, hw, by omega, by have := (isPat_nl h1).2.2.1; omega⟩; refine Ev.if_neg (by omega) (Ev.if_pos hok ?_); rw [Int.toNat_natCast, sgo_mgo w L p h4 at_ (List.replicate L.length none) [-1, -1, -1] ⟨List.length_replicate, rfl, fun j hj => ?_⟩ (by omega)]
    ·exact Ev.some _
    ·rw [List.getD_eq_getElem?_getD]; have hj3 : j < 3 := by have := (isPat_nl h1).2.2.1; omega
     simp only [List.getElem?_replicate, hj, if_true, Option.getD_some]; rcases j with _ | _ | _ | j
     ·decide
     ·decide
     ·decide
     ·omega
  ·unfold mAt; rw [decide_eq_false h5, Bool.false_and, Bool.and_false]; exact Ev.if_pos (by omega) (Ev.some _)
 ·rw [_root_.if_neg h]; unfold mAt; rw [Bool.eq_false_iff.2 h, Bool.false_and]; exact Ev.if_pos (by omega) (Ev.some _)
/-- The first of the lists that begin as pre, go on with a number from a to K and d more from 1 to K, at which F tells something. -/
def srch (K : Nat) (F : List Int → Option (List Int)) : Nat → List Int → Nat → Option (List Int)
 | 0, pre, a => (List.range' a (K + 1 - a)).findSome? fun (j : Nat) => F (pre ++ [(j : Int)])
 | d + 1, pre, a => (List.range' a (K + 1 - a)).findSome? fun (j : Nat) => srch K F d (pre ++ [(j : Int)]) 1
def inner (K : Nat) (F : List Int → Option (List Int)) : Nat → List Int → Nat → Option (List Int)
 | 0, pre, j => F (pre ++ [(j : Int)])
 | d + 1, pre, j => srch K F d (pre ++ [(j : Int)]) 1
theorem srch_def (K : Nat) (F : List Int → Option (List Int)) (d : Nat) (pre : List Int) (a : Nat) : srch K F d pre a = (List.range' a (K + 1 - a)).findSome? (inner K F d pre) := by cases d <;> rfl
theorem srch_end (K : Nat) (F : List Int → Option (List Int)) (d : Nat) (pre : List Int) (a : Nat) (h : K < a) : srch K F d pre a = none := by
 rw [srch_def, show K + 1 - a = 0 from by omega]; rfl
theorem srch_step (K : Nat) (F : List Int → Option (List Int)) (d : Nat) (pre : List Int) (a : Nat) (h : a ≤ K) : srch K F d pre a = (inner K F d pre a).or (srch K F d pre (a + 1)) := by
 rw [srch_def, srch_def, show K + 1 - a = (K + 1 - (a + 1)) + 1 from by omega, List.range'_succ, List.findSome?_cons]; cases inner K F d pre a <;> rfl
theorem srch_some (K : Nat) (F : List Int → Option (List Int)) : ∀ d pre a, (srch K F d pre a).isSome = true ↔ ∃ (j : Nat) (s : List Int), a ≤ j ∧ j ≤ K ∧ s.length = d ∧ (∀ y ∈ s, 1 ≤ y ∧ y ≤ (K : Int)) ∧ (F (pre ++ (j : Int) :: s)).isSome = true := by
 intro d
 induction d with
 | zero =>
  intro pre a; rw [srch_def, List.findSome?_isSome_iff]; constructor
  ·rintro ⟨j, hj, h⟩; rw [List.mem_range'_1] at hj; exact ⟨j, [], hj.1, by omega, rfl, by simp, h⟩
  ·rintro ⟨j, s, h1, h2, h3, _, h4⟩; obtain rfl := List.length_eq_zero_iff.1 h3; exact ⟨j, by rw [List.mem_range'_1]; omega, h4⟩
 | succ d ih =>
  intro pre a; rw [srch_def, List.findSome?_isSome_iff]; constructor
  ·rintro ⟨j, hj, h⟩; rw [List.mem_range'_1] at hj; obtain ⟨i, s, h1, h2, h3, h4, h5⟩ := (ih _ _).1 h; refine ⟨j, (i : Int) :: s, hj.1, by omega, by simp [h3], fun y hy => ?_, by simpa using h5⟩; rcases List.mem_cons.1 hy with rfl | hy
   ·omega
   ·exact h4 y hy
  ·rintro ⟨j, s, h1, h2, h3, h4, h5⟩; cases s with
   | nil => simp at h3
   | cons i s =>
    have hi := h4 i (List.mem_cons_self ..); refine ⟨j, by rw [List.mem_range'_1]; omega, (ih _ _).2 ⟨i.toNat, s, by omega, by omega, by simpa using h3, fun y hy => h4 y (List.mem_cons_of_mem _ hy), ?_⟩⟩; rw [show ((i.toNat : Nat) : Int) = i from by omega]; simpa using h5
theorem srch_none (K : Nat) (F : List Int → Option (List Int)) (d : Nat) (pre : List Int) (a : Nat) (h : ∀ (j : Nat) (s : List Int), a ≤ j → j ≤ K → s.length = d → F (pre ++ (j : Int) :: s) = none) : srch K F d pre a = none := by
 cases q : srch K F d pre a with
 | none => rfl
 | some x =>
  obtain ⟨j, s, h1, h2, h3, h4, h5⟩ := (srch_some K F d pre a).1 (by rw [q]; rfl); rw [h j s h1 h2 h3] at h5; cases h5
/-- Numbers above K' are tried in vain. -/
theorem srch_cut (K K' : Nat) (hK : K' ≤ K) (F : List Int → Option (List Int)) (hF : ∀ L, (∃ y ∈ L, (K' : Int) < y) → F L = none) : ∀ d pre a, srch K F d pre a = srch K' F d pre a := by
 intro d
 induction d with
 | zero =>
  intro pre a; by_cases ha : a ≤ K + 1
  ·have key : ∀ b, b ≤ K + 1 → srch K F 0 pre b = srch K' F 0 pre b := by
    refine down (K + 1) ?_ ?_
    ·rw [srch_end _ _ _ _ _ (by omega), srch_end _ _ _ _ _ (by omega)]
    ·intro b hb ih; by_cases q : b ≤ K'
     ·rw [srch_step _ _ _ _ _ (by omega), srch_step _ _ _ _ _ q, ih]; rfl
     ·rw [srch_end K' _ _ _ _ (by omega)]; refine srch_none _ _ _ _ _ (fun j s h1 h2 h3 => hF _ ⟨(j : Int), by simp, by omega⟩)
   exact key a ha
  ·rw [srch_end _ _ _ _ _ (by omega), srch_end _ _ _ _ _ (by omega)]
 | succ d ih =>
  intro pre a; by_cases ha : a ≤ K + 1
  ·have key : ∀ b, b ≤ K + 1 → srch K F (d + 1) pre b = srch K' F (d + 1) pre b := by
    refine down (K + 1) ?_ ?_
    ·rw [srch_end _ _ _ _ _ (by omega), srch_end _ _ _ _ _ (by omega)]
    ·intro b hb ih2; by_cases q : b ≤ K'
     ·rw [srch_step _ _ _ _ _ (by omega), srch_step _ _ _ _ _ q, ih2]; simp only [inner]; rw [ih]
     ·rw [srch_end K' _ _ _ _ (by omega)]; refine srch_none _ _ _ _ _ (fun j s h1 h2 h3 => hF _ ⟨(j : Int), by simp, by omega⟩)
   exact key a ha
  ·rw [srch_end _ _ _ _ _ (by omega), srch_end _ _ _ _ _ (by omega)]
theorem odo1 (K : Nat) (F : List Int → Option (List Int)) (P : Nat → Option (List Int) → Prop) (hend : P (K + 1) none) (h1 : ∀ a, a ≤ K → ∀ v, P (a + 1) v → P a ((F [(a : Int)]).or v)) : P 1 (srch K F 0 [] 1) := by
 have key : ∀ a, a ≤ K + 1 → P a (srch K F 0 [] a) := by
  refine down (K + 1) ?_ ?_
  ·rw [srch_end _ _ _ _ _ (by omega)]; exact hend
  ·intro a ha ih; rw [srch_step _ _ _ _ _ (by omega)]; exact h1 a (by omega) _ ih
 exact key 1 (by omega)
theorem odo2 (K : Nat) (F : List Int → Option (List Int)) (P : Nat → Nat → Option (List Int) → Prop) (hend : ∀ b, P (K + 1) b none) (h1 : ∀ a b, a ≤ K → b < K → ∀ v, P a (b + 1) v → P a b ((F [(a : Int), (b : Int)]).or v)) (h2 : ∀ a, a ≤ K → ∀ v, P (a + 1) 1 v → P a K ((F [(a : Int), (K : Int)]).or v)) : P 1 1 (srch K F 1 [] 1) := by
 have key : ∀ a, a ≤ K + 1 → 1 ≤ a → P a 1 (srch K F 1 [] a) := by
  refine down (K + 1) ?_ ?_
  ·intro _; rw [srch_end _ _ _ _ _ (by omega)]; exact hend 1
  ·intro a ha ih ha1; have ih := ih (by omega); have in_ : ∀ b, b ≤ K → P a b ((srch K F 0 [(a : Int)] b).or (srch K F 1 [] (a + 1))) := by
    refine down K ?_ ?_
    ·rw [srch_step _ _ _ _ _ (Nat.le_refl _), srch_end _ _ _ _ _ (by omega), Option.or_none]; exact h2 a (by omega) _ ih
    ·intro b hb ih2; rw [srch_step _ _ _ _ _ (by omega), Option.or_assoc]; exact h1 a b (by omega) hb _ ih2
   rw [srch_step _ _ _ _ _ (by omega)]; exact in_ 1 (by omega)
 exact key 1 (by omega) (by omega)
theorem odo3 (K : Nat) (F : List Int → Option (List Int)) (P : Nat → Nat → Nat → Option (List Int) → Prop) (hend : ∀ b c, P (K + 1) b c none) (h1 : ∀ a b c, a ≤ K → b ≤ K → c < K → ∀ v, P a b (c + 1) v → P a b c ((F [(a : Int), (b : Int), (c : Int)]).or v)) (h2 : ∀ a b, a ≤ K → b < K → ∀ v, P a (b + 1) 1 v → P a b K ((F [(a : Int), (b : Int), (K : Int)]).or v)) (h3 : ∀ a, a ≤ K → ∀ v, P (a + 1) 1 1 v → P a K K ((F [(a : Int), (K : Int), (K : Int)]).or v)) : P 1 1 1 (srch K F 2 [] 1) := by
 have key : ∀ a, a ≤ K + 1 → 1 ≤ a → P a 1 1 (srch K F 2 [] a) := by
  refine down (K + 1) ?_ ?_
  ·intro _; rw [srch_end _ _ _ _ _ (by omega)]; exact hend 1 1
  ·intro a ha ih ha1; have ih := ih (by omega); have mid_ : ∀ b, b ≤ K → P a b 1 ((srch K F 1 [(a : Int)] b).or (srch K F 2 [] (a + 1))) := by
    refine down K ?_ ?_
    ·have in_ : ∀ c, c ≤ K → P a K c ((srch K F 0 [(a : Int), (K : Int)] c).or (srch K F 2 [] (a + 1))) := by
      refine down K ?_ ?_
      ·rw [srch_step _ _ _ _ _ (Nat.le_refl _), srch_end _ _ _ _ _ (by omega), Option.or_none]; exact h3 a (by omega) _ ih
      ·intro c hc ih2; rw [srch_step _ _ _ _ _ (by omega), Option.or_assoc]; exact h1 a K c (by omega) (Nat.le_refl _) hc _ ih2
     rw [srch_step _ _ _ _ _ (Nat.le_refl _), srch_end K F 1 _ _ (by omega), Option.or_none]; exact in_ 1 (by omega)
    ·intro b hb ih2; have in_ : ∀ c, c ≤ K → P a b c ((srch K F 0 [(a : Int), (b : Int)] c).or ((srch K F 1 [(a : Int)] (b + 1)).or (srch K F 2 [] (a + 1)))) := by
      refine down K ?_ ?_
      ·rw [srch_step _ _ _ _ _ (Nat.le_refl _), srch_end _ _ _ _ _ (by omega), Option.or_none]; exact h2 a b (by omega) hb _ ih2
      ·intro c hc ih3; rw [srch_step _ _ _ _ _ (by omega), Option.or_assoc]; exact h1 a b c (by omega) (by omega) hc _ ih3
     rw [srch_step _ _ _ _ _ (by omega), Option.or_assoc]; exact in_ 1 (by omega)
   rw [srch_step _ _ _ _ _ (by omega)]; exact mid_ 1 (by omega)
 exact key 1 (by omega) (by omega)
def FA (w p : List Int) (at_ : Nat) (L : List Int) : Option (List Int) := if mAt w p at_ L = true then some L else none
def mres : Option (List Int) → List Int × Bool
 | none => ([], false)
 | some L => (L, true)
theorem implML_leaf (w p : List Int) (at_ : Nat) (hw : w.length ≤ 1000000) (hp : p.length ≤ 1048576) (h : isPat p = true) (L : List Int) (hL : L.length = nl p) : Ev (fun k => impl_matchLengths.f k w p (at_ : Int) L) (L, mAt w p at_ L) := by
 refine Ev.step (fun k => by simp only [impl_matchLengths.f]; rfl) ?_; have := (isPat_nl h).2.2.1; refine Ev.bind (implLetters_ev p hp) (Ev.if_pos (by rw [_root_.if_pos h, hL]) (Ev.bind (implMatchAt_ev w p at_ L hw hp (by omega)) (Ev.some _)))
theorem implML_step (w p : List Int) (at_ : Nat) (hw : w.length ≤ 1000000) (hat : at_ ≤ w.length) (hp : p.length ≤ 1048576) (h : isPat p = true) : ∀ d (L : List Int), L.length + d + 1 = nl p → Ev (fun k => impl_matchLengths.f k w p (at_ : Int) L) (mres (srch (w.length - at_) (FA w p at_) d L 1)) := by
 have h3 := (isPat_nl h).2.2.1; have loop : ∀ d (L : List Int), L.length + d + 1 = nl p → (∀ a : Nat, Ev (fun k => impl_matchLengths.f k w p (at_ : Int) (L ++ [(a : Int)])) (match inner (w.length - at_) (FA w p at_) d L a with | none => ((if d = 0 then L ++ [(a : Int)] else []), false) | some L' => (L', true))) → Ev (fun k => impl_matchLengths.f k w p (at_ : Int) L) (mres (srch (w.length - at_) (FA w p at_) d L 1)) := by
  intro d L hL hin; have key : ∀ a, a ≤ w.length - at_ + 1 → Ev (fun k => impl_matchLengths.l0 k w p (at_ : Int) L (a : Int)) (mres (srch (w.length - at_) (FA w p at_) d L a)) := by
   refine down (w.length - at_ + 1) ?_ ?_
   ·rw [srch_end _ _ _ _ _ (by omega)]; refine Ev.step (fun k => by simp only [impl_matchLengths.l0]; rw [w_id (by omega) (by omega), _root_.if_neg (by omega)]) ?_; exact Ev.some _
   ·intro a ha ih; refine Ev.step (fun k => by simp only [impl_matchLengths.l0, slices_Clone_int_int.f]; rw [w_id (by omega) (by omega), _root_.if_pos (by omega), _root_.if_pos (show L.length < 17592186044416 by omega), Option.bind_some, _root_.if_pos (show L.length < 17592186044416 by omega), wsucc (i := a) (by omega)]) ?_; rw [srch_step _ _ _ _ _ (by omega)]; have hb := hin a; refine Ev.bind hb ?_; cases inner (w.length - at_) (FA w p at_) d L a with
    | none => exact Ev.if_neg (by simp) ih
    | some L' => exact Ev.if_pos rfl (Ev.some _)
  refine Ev.step (fun k => by simp only [impl_matchLengths.f]; rfl) ?_; refine Ev.bind (implLetters_ev p hp) (Ev.if_neg (by rw [_root_.if_pos h]; omega) ?_); exact key 1 (by omega)
 intro d
 induction d with
 | zero =>
  intro L hL; refine loop 0 L hL (fun a => ?_); have := implML_leaf w p at_ hw hp h (L ++ [(a : Int)]) (by simp; omega); refine Ev.same this ?_; simp only [inner, FA]; by_cases q : mAt w p at_ (L ++ [(a : Int)]) = true
  ·rw [_root_.if_pos q, q]
  ·rw [_root_.if_neg q, Bool.eq_false_iff.2 q]; rfl
 | succ d ih =>
  intro L hL; refine loop (d + 1) L hL (fun a => ?_); refine Ev.same (ih (L ++ [(a : Int)]) (by simp; omega)) ?_; simp only [inner]; cases srch (w.length - at_) (FA w p at_) d (L ++ [(a : Int)]) 1 <;> rfl
/-- The first match from a place on. -/
def fFrom (w p : List Int) (a : Nat) : Option (Nat × List Int) := (List.range' a (w.length - a)).findSome? fun i => (srch (w.length - i) (FA w p i) (nl p - 1) [] 1).map fun L => (i, L)
theorem fFrom_end (w p : List Int) (a : Nat) (h : w.length ≤ a) : fFrom w p a = none := by
 unfold fFrom; rw [show w.length - a = 0 from by omega]; rfl
theorem fFrom_step (w p : List Int) (a : Nat) (h : a < w.length) : fFrom w p a = ((srch (w.length - a) (FA w p a) (nl p - 1) [] 1).map fun L => (a, L)).or (fFrom w p (a + 1)) := by
 unfold fFrom; rw [show w.length - a = (w.length - (a + 1)) + 1 from by omega, List.range'_succ, List.findSome?_cons, show w.length - (a + 1) + 1 = w.length - a from by omega]; cases srch (w.length - a) (FA w p a) (nl p - 1) [] 1 <;> rfl
def fres : Option (Nat × List Int) → Int × List Int × Bool
 | none => (0, [], false)
 | some (i, L) => ((i : Int), L, true)
def fnd (w p : List Int) : Option (Nat × List Int) := if isPat p = true ∧ w.length ≤ 24 then fFrom w p 0 else none
theorem implFind_ev (w p : List Int) (hw : w.length ≤ 1048576) (hp : p.length ≤ 1048576) : Ev (fun k => impl_FindPattern.f k w p) (fres (fnd w p)) := by
 have bad : ∀ b, b = true → Ev (fun k => impl_FindPattern.j0 k w p b) (fres none) := fun b hb => by
  refine Ev.step (fun k => by simp only [impl_FindPattern.j0]; rw [_root_.if_pos hb]) ?_; exact Ev.some _
 unfold impl_FindPattern.f fnd; refine Ev.bind (implIsPattern_ev p hp) ?_; by_cases h : isPat p = true
 ·refine Ev.if_pos h ?_; by_cases h2 : w.length ≤ 24
  ·rw [_root_.if_pos ⟨h, h2⟩, decide_eq_false (by omega)]; have hn := isPat_nl h; have key : ∀ a, a ≤ w.length → Ev (fun k => impl_FindPattern.l0 k w p (w.length : Int) (a : Int)) (fres (fFrom w p a)) := by
    refine down w.length ?_ ?_
    ·refine Ev.step (fun k => by simp only [impl_FindPattern.l0]; rw [_root_.if_neg (by omega)]) ?_; rw [fFrom_end _ _ _ (Nat.le_refl _)]; exact Ev.some _
    ·intro a ha ih; refine Ev.step (fun k => by simp only [impl_FindPattern.l0]; rw [_root_.if_pos (by omega), wsucc (i := a) (by omega)]) ?_; rw [fFrom_step _ _ _ ha]; refine Ev.bind (implML_step w p a (by omega) (by omega) hp h (nl p - 1) [] (by simp only [List.length_nil]; omega)) ?_; cases srch (w.length - a) (FA w p a) (nl p - 1) [] 1 with
     | none => exact Ev.if_neg (by simp [mres]) ih
     | some L => exact Ev.if_pos rfl (Ev.some _)
   refine Ev.step (fun k => by simp only [impl_FindPattern.j0]; rw [_root_.if_neg (by simp)]) ?_; exact key 0 (by omega)
  ·rw [_root_.if_neg (fun q => h2 q.2), decide_eq_true (by omega)]; exact bad _ rfl
 ·rw [_root_.if_neg (fun q => h q.1)]; exact Ev.if_neg h (bad _ rfl)
theorem implAvoids_ev (w p : List Int) (hw : w.length ≤ 1048576) (hp : p.length ≤ 1048576) : Ev (fun k => impl_AvoidsPattern.f k w p) (decide (isPat p = true ∧ w.length ≤ 24 ∧ fnd w p = none)) := by
 unfold impl_AvoidsPattern.f; refine Ev.bind (implIsPattern_ev p hp) ?_; refine Ev.ite (fun h => ?_) (fun h => ?_)
 ·refine Ev.ite (fun h2 => ?_) (fun h2 => ?_)
  ·rw [decide_eq_false (by omega)]; exact Ev.some _
  ·refine Ev.bind (implFind_ev w p hw hp) (Ev.same (Ev.some _) ?_); cases q : fnd w p with
   | none => rw [decide_eq_true ⟨h, by omega, rfl⟩]; rfl
   | some x => rw [decide_eq_false (by simp)]; obtain ⟨i, L⟩ := x; rfl
 ·rw [decide_eq_false (fun q => h q.1)]; exact Ev.some _
theorem tot_mem (L p : List Int) (x : Int) (hx : x ∈ p) : (L.getD x.toNat 0).toNat ≤ tot L p := by
 induction p with
 | nil => cases hx
 | cons y p ih =>
  simp only [tot]; rcases List.mem_cons.1 hx with rfl | hx
  ·omega
  ·have := ih hx; omega
theorem mAt_small {w p : List Int} {at_ : Nat} {L : List Int} (h : mAt w p at_ L = true) : ∀ y ∈ L, y ≤ ((w.length - at_ : Nat) : Int) := by
 obtain ⟨h1, h2⟩ := mAt_len h; obtain ⟨h3, h4, h5, h6⟩ := okL_at h1; intro y hy; obtain ⟨j, hj, rfl⟩ := List.getElem_of_mem hy; have hm := (ngo_mem p 0 _ (isPat_nl h3).1).2 j (by omega) (by omega); have := tot_mem L p _ hm; rw [Int.toNat_natCast, List.getD_eq_getElem?_getD, List.getElem?_eq_getElem hj, Option.getD_some] at this; omega
/-- The reference tries all lengths up to the word's own. -/
theorem srch_all (w p : List Int) (at_ : Nat) (d : Nat) (pre : List Int) (a : Nat) : srch w.length (FA w p at_) d pre a = srch (w.length - at_) (FA w p at_) d pre a := by
 refine srch_cut _ _ (by omega) _ (fun L ⟨y, hy, hlt⟩ => ?_) d pre a; unfold FA; refine _root_.if_neg (fun h => ?_); have := mAt_small h y hy; omega
/-- The three lengths, as the reference keeps them. -/
def abc (a b c : Nat) : List Int := [(a : Int), (b : Int), (c : Int)]
theorem abc_len (a b c : Nat) : (abc a b c).length = 3 := rfl
theorem rdA0 (a b c : Nat) : rd (abc a b c) 0 = (a : Int) := rfl
theorem rdA1 (a b c : Nat) : rd (abc a b c) 1 = (b : Int) := rfl
theorem rdA2 (a b c : Nat) : rd (abc a b c) 2 = (c : Int) := rfl
theorem setA0 (a b c v : Nat) : (abc a b c).set 0 (v : Int) = abc v b c := rfl
theorem setA1 (a b c v : Nat) : (abc a b c).set 1 (v : Int) = abc a v c := rfl
theorem oneA1 (a b c : Nat) : (abc a b c).set (Int.toNat 1) 1 = abc a 1 c := rfl
theorem oneA2 (a b c : Nat) : (abc a b c).set (Int.toNat 2) 1 = abc a b 1 := rfl
theorem dec1 : wrap64 ((1 : Int) - 1) = 0 := by unfold wrap64; omega
theorem dec2 : wrap64 ((2 : Int) - 1) = 1 := by unfold wrap64; omega
section find
variable (w p : List Int) (hw : w.length ≤ 24) (hp : p.length ≤ 1048576)
include hw
theorem specFP_carry1 (m at_ a b c : Nat) (R : Int × List Int × Bool) (h : Ev (fun k => spec_FindPattern.l1 k w p (m : Int) (at_ : Int) (abc (a + 1) b c)) R) : Ev (fun k => spec_FindPattern.l2 k w p (m : Int) (at_ : Int) (abc (a + 1) b c) 0) R :=
 have _ := hw
 Ev.step (fun k => by simp only [spec_FindPattern.l2]; rw [_root_.if_neg (by omega)]) h
theorem specFP_carry2 (m at_ a b c : Nat) (hb : b ≤ w.length) (ha : a ≤ w.length) (R : Int × List Int × Bool) (h : Ev (fun k => spec_FindPattern.l1 k w p (m : Int) (at_ : Int) (if b < w.length then abc a (b + 1) c else abc (a + 1) 1 c)) R) : Ev (fun k => spec_FindPattern.l2 k w p (m : Int) (at_ : Int) (abc a (b + 1) c) 1) R := by
 by_cases q : b < w.length
 ·rw [_root_.if_pos q] at h; refine Ev.step (fun k => by simp only [spec_FindPattern.l2]; rw [_root_.if_pos (by omega), _root_.if_pos (by omega), _root_.if_pos (by rw [abc_len]; omega), rdA1, _root_.if_neg (by omega)]) h
 ·rw [_root_.if_neg q] at h; refine Ev.step (fun k => by simp only [spec_FindPattern.l2]; rw [_root_.if_pos (by omega), _root_.if_pos (by omega), _root_.if_pos (by rw [abc_len]; omega), rdA1, _root_.if_pos (by omega), oneA1, dec1, Option.bind_some, _root_.if_pos (by omega), _root_.if_pos (by rw [abc_len]; omega), show (0 : Int).toNat = 0 from rfl, rdA0, wsucc (i := a) (by omega), setA0]) (specFP_carry1 w p hw m at_ a 1 c R h)
theorem specFP_carry3 (m at_ a b c : Nat) (hc : c ≤ w.length) (hb : b ≤ w.length) (ha : a ≤ w.length) (R : Int × List Int × Bool) (h : Ev (fun k => spec_FindPattern.l1 k w p (m : Int) (at_ : Int) (if c < w.length then abc a b (c + 1) else if b < w.length then abc a (b + 1) 1 else abc (a + 1) 1 1)) R) : Ev (fun k => spec_FindPattern.l2 k w p (m : Int) (at_ : Int) (abc a b (c + 1)) 2) R := by
 by_cases q : c < w.length
 ·rw [_root_.if_pos q] at h; refine Ev.step (fun k => by simp only [spec_FindPattern.l2]; rw [_root_.if_pos (by omega), _root_.if_pos (by omega), _root_.if_pos (by rw [abc_len]; omega), rdA2, _root_.if_neg (by omega)]) h
 ·rw [_root_.if_neg q] at h; refine Ev.step (fun k => by simp only [spec_FindPattern.l2]; rw [_root_.if_pos (by omega), _root_.if_pos (by omega), _root_.if_pos (by rw [abc_len]; omega), rdA2, _root_.if_pos (by omega), oneA2, dec2, Option.bind_some, _root_.if_pos (by omega), _root_.if_pos (by rw [abc_len]; omega), show (1 : Int).toNat = 1 from rfl, rdA1, wsucc (i := b) (by omega), setA1]) (specFP_carry2 w p hw m at_ a b 1 hb ha R h)
/-- One round: what is tried, and what comes next. -/
theorem specFP_round (at_ m : Nat) (L3 : List Int) (hp : p.length ≤ 1048576) (hl : L3.length = 3) (hm : m ≤ 3) (hm1 : 1 ≤ m) (h0 : rd L3 0 ≤ (w.length : Int)) (hx : ∀ y ∈ L3, 0 ≤ y ∧ y ≤ 1000) (R : Int × List Int × Bool) (v : Option (List Int)) (hR : ∀ L, FA w p at_ (L3.take m) = some L → R = ((at_ : Int), L, true))
  (h : FA w p at_ (L3.take m) = none → Ev (fun k => spec_FindPattern.l2 k w p (m : Int) (at_ : Int) (L3.set (m - 1) (rd L3 ((m - 1 : Nat) : Int) + 1)) ((m - 1 : Nat) : Int)) R) : Ev (fun k => spec_FindPattern.l1 k w p (m : Int) (at_ : Int) L3) R := by
 refine Ev.step (fun k => by simp only [spec_FindPattern.l1]; rw [_root_.if_pos (by omega), _root_.if_pos h0, _root_.if_pos (by omega), _root_.if_pos (by omega), Int.toNat_natCast]) ?_; refine Ev.bind (specMatchAt_ev w p at_ (L3.take m) (by omega) hp (by rw [List.length_take]; omega)) ?_; unfold FA at hR h; by_cases q : mAt w p at_ (L3.take m) = true
 ·rw [_root_.if_pos q] at hR; rw [hR _ rfl]; refine Ev.if_pos q (Ev.bind (Ev.some _) (Ev.bind (Ev.some _) (Ev.if_pos (by rw [List.length_take]; simp; omega) (Ev.some _))))
 ·rw [_root_.if_neg q] at h; have e : wrap64 ((m : Int) - 1) = ((m - 1 : Nat) : Int) := by rw [w_id (by omega) (by omega)]; omega
  have hy : rd L3 ((m - 1 : Nat) : Int) + 1 ≤ 1001 ∧ 0 ≤ rd L3 ((m - 1 : Nat) : Int) := by
   rw [rd_get L3 (m - 1) (by omega)]; have := hx _ (List.getElem_mem (show m - 1 < L3.length by omega)); omega
  refine Ev.if_neg q ?_; refine Ev.congr (fun k => by rw [e, _root_.if_pos (by omega), _root_.if_pos (by omega), Int.toNat_natCast, w_id (by omega) (by omega)]) (h rfl)
theorem specFP_loop (at_ : Nat) (hp : p.length ≤ 1048576) (hP : isPat p = true) (hat : at_ < w.length) (R : Int × List Int × Bool) (h : Ev (fun k => spec_FindPattern.l0 k w p (nl p : Int) ((at_ + 1 : Nat) : Int)) R) :
  Ev (fun k => spec_FindPattern.l1 k w p (nl p : Int) (at_ : Int) [1, 1, 1]) (match srch w.length (FA w p at_) (nl p - 1) [] 1 with | none => R | some L => ((at_ : Int), L, true)) := by
 obtain ⟨h0, h6, h3, h1⟩ := isPat_nl hP; have hend : ∀ b c, Ev (fun k => spec_FindPattern.l1 k w p (nl p : Int) (at_ : Int) (abc (w.length + 1) b c)) R := fun b c =>
  Ev.step (fun k => by simp only [spec_FindPattern.l1]; rw [_root_.if_pos (by rw [abc_len]; omega), rdA0, _root_.if_neg (by omega), wsucc (i := at_) (by omega)]) h
 have hx : ∀ a b c : Nat, a ≤ w.length → b ≤ w.length → c ≤ w.length → ∀ y ∈ abc a b c, 0 ≤ y ∧ y ≤ 1000 := by
  intro a b c ha hb hc y hy; simp only [abc, List.mem_cons, List.not_mem_nil, or_false] at hy; rcases hy with rfl | rfl | rfl <;> omega
 have out : ∀ (F v : Option (List Int)) L, F = some L → (match F.or v with | none => R | some L => ((at_ : Int), L, true)) = ((at_ : Int), L, true) := by rintro _ v L rfl; rfl
 have nxt : ∀ (F v : Option (List Int)), F = none → (match F.or v with | none => R | some L => ((at_ : Int), L, true)) = (match v with | none => R | some L => ((at_ : Int), L, true)) := by rintro _ v rfl; rfl
 rcases (show nl p = 1 ∨ nl p = 2 ∨ nl p = 3 by omega) with e | e | e
 ·rw [e] at hend ⊢; refine odo1 w.length (FA w p at_) (fun a v => Ev (fun k => spec_FindPattern.l1 k w p ((1 : Nat) : Int) (at_ : Int) (abc a 1 1)) (match v with | none => R | some L => ((at_ : Int), L, true))) (hend 1 1) ?_; intro a ha v hv; refine specFP_round w p hw at_ 1 (abc a 1 1) hp rfl (by omega) (by omega) (by rw [rdA0]; omega) (hx a 1 1 ha (by omega) (by omega)) _ v (fun L hL => out _ _ _ hL) (fun hn => ?_); have hn' : FA w p at_ [(a : Int)] = none := hn; rw [nxt _ _ hn']; exact specFP_carry1 w p hw 1 at_ a 1 1 _ hv
 ·rw [e] at hend ⊢; refine odo2 w.length (FA w p at_) (fun a b v => Ev (fun k => spec_FindPattern.l1 k w p ((2 : Nat) : Int) (at_ : Int) (abc a b 1)) (match v with | none => R | some L => ((at_ : Int), L, true))) (fun b => hend b 1) ?_ ?_
  ·intro a b ha hb v hv; refine specFP_round w p hw at_ 2 (abc a b 1) hp rfl (by omega) (by omega) (by rw [rdA0]; omega) (hx a b 1 ha (by omega) (by omega)) _ v (fun L hL => out _ _ _ hL) (fun hn => ?_); have hn' : FA w p at_ [(a : Int), (b : Int)] = none := hn; rw [nxt _ _ hn']; exact specFP_carry2 w p hw 2 at_ a b 1 (by omega) ha _ (by rw [_root_.if_pos hb]; exact hv)
  ·intro a ha v hv; refine specFP_round w p hw at_ 2 (abc a w.length 1) hp rfl (by omega) (by omega) (by rw [rdA0]; omega) (hx a w.length 1 ha (by omega) (by omega)) _ v (fun L hL => out _ _ _ hL) (fun hn => ?_); have hn' : FA w p at_ [(a : Int), (w.length : Int)] = none := hn; rw [nxt _ _ hn']; exact specFP_carry2 w p hw 2 at_ a w.length 1 (by omega) ha _ (by rw [_root_.if_neg (by omega)]; exact hv)
 ·rw [e] at hend ⊢; refine odo3 w.length (FA w p at_) (fun a b c v => Ev (fun k => spec_FindPattern.l1 k w p ((3 : Nat) : Int) (at_ : Int) (abc a b c)) (match v with | none => R | some L => ((at_ : Int), L, true))) hend ?_ ?_ ?_
  ·intro a b c ha hb hc v hv; refine specFP_round w p hw at_ 3 (abc a b c) hp rfl (by omega) (by omega) (by rw [rdA0]; omega) (hx a b c ha (by omega) (by omega)) _ v (fun L hL => out _ _ _ hL) (fun hn => ?_); have hn' : FA w p at_ [(a : Int), (b : Int), (c : Int)] = none := hn; rw [nxt _ _ hn']; exact specFP_carry3 w p hw 3 at_ a b c (by omega) hb ha _ (by rw [_root_.if_pos hc]; exact hv)
  ·intro a b ha hb v hv; refine specFP_round w p hw at_ 3 (abc a b w.length) hp rfl (by omega) (by omega) (by rw [rdA0]; omega) (hx a b w.length ha (by omega) (by omega)) _ v (fun L hL => out _ _ _ hL) (fun hn => ?_); have hn' : FA w p at_ [(a : Int), (b : Int), (w.length : Int)] = none := hn; rw [nxt _ _ hn']; exact specFP_carry3 w p hw 3 at_ a b w.length (by omega) (by omega) ha _ (by rw [_root_.if_neg (by omega), _root_.if_pos hb]; exact hv)
  ·intro a ha v hv; refine specFP_round w p hw at_ 3 (abc a w.length w.length) hp rfl (by omega) (by omega) (by rw [rdA0]; omega) (hx a w.length w.length ha (by omega) (by omega)) _ v (fun L hL => out _ _ _ hL) (fun hn => ?_); have hn' : FA w p at_ [(a : Int), (w.length : Int), (w.length : Int)] = none := hn; rw [nxt _ _ hn']; exact specFP_carry3 w p hw 3 at_ a w.length w.length (by omega) (by omega) ha _ (by rw [_root_.if_neg (by omega), _root_.if_neg (by omega)]; exact hv)
end find
theorem specFind_ev (w p : List Int) (hw : w.length ≤ 1048576) (hp : p.length ≤ 1048576) : Ev (fun k => spec_FindPattern.f k w p) (fres (fnd w p)) := by
 have bad : ∀ b, b = true → Ev (fun k => spec_FindPattern.j0 k w p b) (fres none) := fun b hb => by
  refine Ev.step (fun k => by simp only [spec_FindPattern.j0]; rw [_root_.if_pos hb]) ?_; exact Ev.some _
 unfold spec_FindPattern.f fnd; refine Ev.bind (specIsPattern_ev p hp) ?_; by_cases h : isPat p = true
 ·refine Ev.if_pos h ?_; by_cases h2 : w.length ≤ 24
  ·rw [_root_.if_pos ⟨h, h2⟩, decide_eq_false (by omega)]; have key : ∀ a, a ≤ w.length → Ev (fun k => spec_FindPattern.l0 k w p (nl p : Int) (a : Int)) (fres (fFrom w p a)) := by
    refine down w.length ?_ ?_
    ·refine Ev.step (fun k => by simp only [spec_FindPattern.l0]; rw [_root_.if_neg (by omega)]) ?_; rw [fFrom_end _ _ _ (Nat.le_refl _)]; exact Ev.some _
    ·intro a ha ih; refine Ev.step (fun k => by simp only [spec_FindPattern.l0]; rw [_root_.if_pos (by omega)]) ?_; rw [fFrom_step _ _ _ ha, ← srch_all]; refine Ev.same (specFP_loop w p h2 a hp h ha _ ih) ?_; cases srch w.length (FA w p a) (nl p - 1) [] 1 <;> rfl
   refine Ev.step (fun k => by simp only [spec_FindPattern.j0]; rw [_root_.if_neg (by simp)]) ?_; exact Ev.bind (specLetters_ev p h) (key 0 (by omega))
  ·rw [_root_.if_neg (fun q => h2 q.2), decide_eq_true (by omega)]; exact bad _ rfl
 ·rw [_root_.if_neg (fun q => h q.1)]; exact Ev.if_neg h (bad _ rfl)
theorem specAvoids_ev (w p : List Int) (hw : w.length ≤ 1048576) (hp : p.length ≤ 1048576) : Ev (fun k => spec_AvoidsPattern.f k w p) (decide (isPat p = true ∧ w.length ≤ 24 ∧ fnd w p = none)) := by
 unfold spec_AvoidsPattern.f; refine Ev.bind (specFind_ev w p hw hp) (Ev.bind (specIsPattern_ev p hp) ?_); refine Ev.ite (fun h => ?_) (fun h => ?_)
 ·refine Ev.ite (fun h2 => ?_) (fun h2 => ?_)
  ·refine Ev.same (Ev.some _) ?_; cases q : fnd w p with
   | none => rw [decide_eq_true ⟨h, by omega, rfl⟩]; rfl
   | some x => rw [decide_eq_false (by simp)]; obtain ⟨i, L⟩ := x; rfl
  ·rw [decide_eq_false (by omega)]; exact Ev.some _
 ·rw [decide_eq_false (fun q => h q.1)]; exact Ev.some _
section ends
variable (w p : List Int) (hw : w.length ≤ 1000)
include hw
end ends
/-- No match anywhere. -/
def noM (w p : List Int) : Prop := ∀ i L, mAt w p i L = false
theorem fnd_none (w p : List Int) (hP : isPat p = true) (hw : w.length ≤ 24) : fnd w p = none ↔ noM w p := by
 have hn := (isPat_nl hP).2.2.2; unfold fnd; rw [_root_.if_pos ⟨hP, hw⟩]; unfold fFrom; rw [List.findSome?_eq_none_iff]; constructor
 ·intro h i L; cases q : mAt w p i L with
  | false => rfl
  | true =>
   obtain ⟨q1, q2⟩ := mAt_len q; obtain ⟨h4, h5, h6, h7⟩ := okL_at q1; have h8 := (tot_le L h6 p (fun y hy => ⟨(h7 y hy).1, (h7 y hy).2.1⟩)).1; have h9 : 1 ≤ p.length := (ngo_pos p _ (isPat_nl hP).1).1 hn; have h10 := h i (by rw [List.mem_range'_1]; omega); have hs := mAt_small q; have : (srch (w.length - i) (FA w p i) (nl p - 1) [] 1).isSome = true := by
    rw [srch_some]; cases L with
    | nil => simp only [List.length_nil] at h5; omega
    | cons y s =>
     have hy := h6 y (List.mem_cons_self ..); have hy2 := hs y (List.mem_cons_self ..); refine ⟨y.toNat, s, by omega, by omega, by simp only [List.length_cons] at h5; omega, fun z hz => ⟨(h6 z (List.mem_cons_of_mem _ hz)).1, hs z (List.mem_cons_of_mem _ hz)⟩, ?_⟩; have e : ([] : List Int) ++ ((y.toNat : Nat) : Int) :: s = y :: s := by rw [List.nil_append, show ((y.toNat : Nat) : Int) = y from by omega]
     rw [e]; unfold FA; rw [_root_.if_pos q]; rfl
   cases hq : srch (w.length - i) (FA w p i) (nl p - 1) [] 1 with
   | none => rw [hq] at this; cases this
   | some x => rw [hq] at h10; cases h10
 ·intro h i _; cases q : srch (w.length - i) (FA w p i) (nl p - 1) [] 1 with
  | none => rfl
  | some x =>
   have := (srch_some (w.length - i) (FA w p i) (nl p - 1) [] 1).1 (by rw [q]; rfl); obtain ⟨j, s, _, _, _, _, h5⟩ := this; unfold FA at h5; rw [h i _] at h5; simp at h5
end Go.Proofs.Ythkkpdgadfhijaa.M
/- Powers, squares and overlaps in a word: program and reference find the same. No condition. -/
namespace Go.Proofs.Ythkkpdgadfhijaa.M
open Go.RowKit Go.Proofs.YthkkpdgadfhijaaW.PrintWords Go.Proofs.YthkkpdgadfhijaaW.PrintMore Go.Proofs.Ythkkpdgadfhijaa.K
/-- L letters from i on are those p further on. -/
def per (w : List Int) (p i L : Nat) : Prop := ∀ t, t < L → i + t + p < w.length ∧ w.getD (i + t) 0 = w.getD (i + t + p) 0
theorem per_zero (w : List Int) (p i : Nat) : per w p i 0 := fun t h => by omega
theorem per_le {w : List Int} {p i L M : Nat} (h : per w p i L) (hm : M ≤ L) : per w p i M := fun t ht => h t (by omega)
theorem per_succ {w : List Int} {p i L : Nat} (h : per w p i L) (h1 : i + L + p < w.length) (h2 : w.getD (i + L) 0 = w.getD (i + L + p) 0) : per w p i (L + 1) := fun t ht => by
 by_cases e : t = L
 ·subst e; exact ⟨h1, h2⟩
 ·exact h t (by omega)
theorem per_bound {w : List Int} {p i L : Nat} (h : per w p i L) (hl : 0 < L) : i + L + p ≤ w.length := by
 have := (h (L - 1) (by omega)).1; omega
theorem rd_nat (xs : List Int) (n : Int) (i : Nat) (h : n = (i : Int)) : rd xs n = xs.getD i 0 := by rw [h, rd_at]
theorem l10_ev (w : List Int) (i p : Nat) (hp : 1 ≤ p) (hw : w.length ≤ 1048576) (hip : i + p < w.length) : ∃ M : Nat, per w p i M ∧ ¬ per w p i (M + 1) ∧ Ev (fun k => spec_l10Match.f k w (i : Int) (p : Int)) ((p + M : Nat) : Int) := by
 have key : ∀ d t, i + p + t + d = w.length → per w p i t → ∃ M : Nat, per w p i M ∧ ¬ per w p i (M + 1) ∧ Ev (fun k => spec_l10Match.l0 k w (i : Int) (p : Int) ((p + t : Nat) : Int)) ((p + M : Nat) : Int) := by
  intro d
  induction d with
  | zero =>
   intro t hd ht; refine ⟨t, ht, fun h => by have := per_bound h (by omega); omega, ?_⟩; refine Ev.step (fun k => by simp only [spec_l10Match.l0]; rw [w_id (by omega) (by omega), _root_.if_neg (by omega)]) (Ev.same (Ev.some _) ?_); unfold mn; rw [w_id (by omega) (by omega)]; split <;> omega
  | succ d ih =>
   intro t hd ht; by_cases q : w.getD (i + t) 0 = w.getD (i + t + p) 0
   ·obtain ⟨M, h1, h2, h3⟩ := ih (t + 1) (by omega) (per_succ ht (by omega) q); refine ⟨M, h1, h2, ?_⟩
    refine Ev.step (fun k => by
     simp only [spec_l10Match.l0]
     rw [w_id (a := (i : Int) + ((p + t : Nat) : Int)) (by omega) (by omega), w_id (a := (i : Int) + ((p + t : Nat) : Int) - (p : Int)) (by omega) (by omega), _root_.if_pos (by omega), _root_.if_pos (by omega), _root_.if_pos (by omega), _root_.if_pos (by omega),
      _root_.if_pos (by rw [rd_nat w _ (i + t + p) (by omega), rd_nat w _ (i + t) (by omega), q]), wsucc (by omega)]; rfl) h3
   ·refine ⟨t, ht, fun h => q (h t (by omega)).2, ?_⟩
    refine Ev.step (fun k => by
     simp only [spec_l10Match.l0]
     rw [w_id (a := (i : Int) + ((p + t : Nat) : Int)) (by omega) (by omega), w_id (a := (i : Int) + ((p + t : Nat) : Int) - (p : Int)) (by omega) (by omega), _root_.if_pos (by omega), _root_.if_pos (by omega), _root_.if_pos (by omega), _root_.if_pos (by omega),
      _root_.if_neg (by rw [rd_nat w _ (i + t + p) (by omega), rd_nat w _ (i + t) (by omega)]; exact fun e => q e.symm)]) (Ev.same (Ev.some _) ?_)
    unfold mn; rw [w_id (by omega) (by omega)]; split <;> omega
 obtain ⟨M, h1, h2, h3⟩ := key (w.length - (i + p)) 0 (by omega) (per_zero _ _ _); exact ⟨M, h1, h2, h3⟩
/-- There is a part that is long enough against one of its periods. -/
def PW (w : List Int) (a b : Nat) : Prop := w.length ≤ 128 ∧ ∃ i p L, 1 ≤ p ∧ i + p < w.length ∧ per w p i L ∧ p * a ≤ (p + L) * b
open Classical in
noncomputable def hasPower (w : List Int) (a b : Nat) : Bool := decide (PW w a b)
open Classical in
theorem hasPower_iff (w : List Int) (a b : Nat) : hasPower w a b = true ↔ PW w a b := by unfold hasPower; exact decide_eq_true_iff
theorem hasPower_no (w : List Int) (a b : Nat) (h : ¬ PW w a b) : hasPower w a b = false := Bool.eq_false_iff.2 (fun q => h ((hasPower_iff w a b).1 q))
theorem l1In_val (a b c : Int) : spec_l1In.f a b c = some (decide (b ≤ a ∧ a ≤ c)) := by
 unfold spec_l1In.f; by_cases q : a ≥ b
 ·rw [_root_.if_pos q]; simp [q]
 ·rw [_root_.if_neg q]; simp; omega
theorem specPower_ev (w : List Int) (a b : Nat) (ha : 2 ≤ a ∧ a ≤ 20) (hb : 1 ≤ b ∧ b < a) (hw : w.length ≤ 1048576) : Ev (fun k => spec_HasPower.f k w (a : Int) (b : Int)) (hasPower w a b) := by
 unfold spec_HasPower.f; refine Ev.bind (Ev.val (l1In_val _ _ _)) ?_; rw [decide_eq_true (by omega)]; refine Ev.if_pos rfl ?_; refine Ev.bind (Ev.val (l1In_val _ _ _)) ?_; rw [w_id (by omega) (by omega), decide_eq_true (by omega)]; refine Ev.step (fun k => by simp only [spec_HasPower.j0]; rw [_root_.if_neg (by decide)]) ?_; by_cases h128 : w.length ≤ 128
 ·have inner : ∀ (i : Nat) (r : Bool), i < w.length → (r = true → PW w a b) → ((∀ p L, 1 ≤ p → i + p < w.length → per w p i L → ¬ p * a ≤ (p + L) * b) → Ev (fun k => spec_HasPower.l0 k w (a : Int) (b : Int) ((i + 1 : Nat) : Int)) r) → (r = false → ∀ p L, 1 ≤ p → i + p < w.length → per w p i L → ¬ p * a ≤ (p + L) * b) →
    ∀ d p, p + d = w.length → 1 ≤ p → (∀ q L, 1 ≤ q → q < p → i + q < w.length → per w q i L → ¬ q * a ≤ (q + L) * b) → Ev (fun k => spec_HasPower.l1 k w (a : Int) (b : Int) (i : Int) (p : Int)) r := by
   intro i r hi hr0 hr hr1 d
   induction d with
   | zero =>
    intro p hpd hp hno; refine Ev.step (fun k => by simp only [spec_HasPower.l1]; rw [w_id (a := (i : Int) + (p : Int)) (by omega) (by omega), _root_.if_neg (by omega), wsucc (by omega)]) (hr (fun q L h1 h2 h3 => hno q L h1 (by omega) h2 h3))
   | succ d ih =>
    intro p hpd hp hno; by_cases q : i + p < w.length
    ·obtain ⟨M, g1, g2, g3⟩ := l10_ev w i p hp hw q; refine Ev.step (fun k => by simp only [spec_HasPower.l1]; rw [w_id (a := (i : Int) + (p : Int)) (by omega) (by omega), _root_.if_pos (by omega)]) ?_; have hMw : M ≤ w.length := by
      by_cases e : M = 0
      ·omega
      ·have := per_bound g1 (by omega); omega
     refine Ev.bind g3 ?_; have e1 : wrap64 (((p + M : Nat) : Int) * (b : Int)) = (((p + M) * b : Nat) : Int) := by
      have h2 : (p + M) * b ≤ 256 * 20 := Nat.mul_le_mul (show p + M ≤ 256 from by omega) (show b ≤ 20 from by omega); have h3 : (p + M) * b ≤ 100000 := Nat.le_trans h2 (by decide); clear h2; rw [← Int.natCast_mul]; exact w_id (by omega) (by omega)
     have e2 : wrap64 ((p : Int) * (a : Int)) = ((p * a : Nat) : Int) := by
      have h2 : p * a ≤ 256 * 20 := Nat.mul_le_mul (show p ≤ 256 from by omega) (show a ≤ 20 from by omega); have h3 : p * a ≤ 100000 := Nat.le_trans h2 (by decide); clear h2; rw [← Int.natCast_mul]; exact w_id (by omega) (by omega)
     rw [e1, e2]; refine Ev.ite (fun c => ?_) (fun c => ?_)
     ·refine Ev.same (Ev.some true) ?_; cases r with
      | true => rfl
      | false => exact absurd (Int.ofNat_le.1 c) (hr1 rfl p M hp q g1)
     ·refine Ev.congr (fun k => by rw [wsucc (by omega)]) (ih (p + 1) (by omega) (by omega) (fun q' L h1 h2 h3 h4 h5 => ?_)); by_cases e : q' = p
      ·subst e; have hLM : L ≤ M := by
        rcases Nat.lt_or_ge M L with hlt | hge
        ·exact absurd (per_le h4 (show M + 1 ≤ L from hlt)) g2
        ·exact hge
       exact c (Int.ofNat_le.2 (Nat.le_trans h5 (Nat.mul_le_mul_right b (Nat.add_le_add_left hLM q'))))
      ·exact hno q' L h1 (by omega) h3 h4 h5
    ·refine Ev.step (fun k => by simp only [spec_HasPower.l1]; rw [w_id (a := (i : Int) + (p : Int)) (by omega) (by omega), _root_.if_neg (by omega), wsucc (by omega)]) (hr (fun q' L h1 h2 h3 => hno q' L h1 (by omega) h2 h3))
  have outer : ∀ r : Bool, (r = true ↔ PW w a b) → ∀ i, i ≤ w.length → (∀ j p L, j < i → 1 ≤ p → j + p < w.length → per w p j L → ¬ p * a ≤ (p + L) * b) → Ev (fun k => spec_HasPower.l0 k w (a : Int) (b : Int) (i : Int)) r := by
   intro r hr; refine down w.length ?_ ?_
   ·intro hno; refine Ev.step (fun k => by simp only [spec_HasPower.l0]; rw [_root_.if_neg (by omega)]) ?_; refine Ev.step (fun k => by simp only [spec_HasPower.j2]; rw [_root_.if_neg (by decide)]) (Ev.same (Ev.some false) ?_); cases r with
    | false => rfl
    | true =>
     obtain ⟨_, i, p, L, h1, h2, h3, h4⟩ := hr.1 rfl; exact absurd h4 (hno i p L (by omega) h1 h2 h3)
   ·intro i hi ih hno; refine Ev.step (fun k => by simp only [spec_HasPower.l0]; rw [_root_.if_pos (by omega), decide_eq_true (by omega)]) ?_; refine Ev.step (fun k => by simp only [spec_HasPower.j2]; rw [_root_.if_pos trivial]) ?_; refine inner i r hi (fun e => hr.1 e) (fun h => ih (fun j p L hj h1 h2 h3 => ?_)) (fun e p L h1 h2 h3 h4 => ?_) (w.length - 1) 1 (by omega) (Nat.le_refl _) (fun q L h1 h2 => by omega)
    ·by_cases e : j = i
     ·subst e; exact h p L h1 h2 h3
     ·exact hno j p L (by omega) h1 h2 h3
    ·have := hr.2 ⟨h128, i, p, L, h1, h2, h3, h4⟩; rw [e] at this; cases this
  exact outer _ (hasPower_iff w a b) 0 (by omega) (fun j p L h => by omega)
 ·have hf : hasPower w a b = false := hasPower_no _ _ _ (fun h => h128 h.1); rw [hf]; refine Ev.step (fun k => by simp only [spec_HasPower.l0]; rw [_root_.if_pos (by omega), decide_eq_false (by omega)]) ?_; exact Ev.step (fun k => by simp only [spec_HasPower.j2]; rw [_root_.if_neg (by decide)]) (Ev.some _)
theorem specSquare_ev (w : List Int) (hw : w.length ≤ 1048576) : Ev (fun k => spec_HasSquare.f k w) (hasPower w 2 1) := by
 unfold spec_HasSquare.f; exact Ev.bind (specPower_ev w 2 1 (by omega) (by omega) hw) (Ev.some _)
end Go.Proofs.Ythkkpdgadfhijaa.M
/- The pattern of squares: a short word avoids it just where it has no square. No condition. -/
namespace Go.Proofs.Ythkkpdgadfhijaa.M
open Go.RowKit Go.Proofs.YthkkpdgadfhijaaW.PrintWords Go.Proofs.Ythkkpdgadfhijaa.K
set_option linter.unusedVariables false
theorem isPat_sq : isPat [0, 0] = true := by decide
theorem nl_sq : nl [0, 0] = 1 := by decide
theorem okL_sq (L : List Int) : okL [0, 0] L = true ↔ ∃ p : Nat, L = [(p : Int)] ∧ 1 ≤ p ∧ p ≤ 40 := by
 unfold okL; rw [isPat_sq, nl_sq, Bool.true_and, Bool.and_eq_true, decide_eq_true_eq, List.all_eq_true]; constructor
 ·rintro ⟨h1, h2⟩; obtain ⟨y, rfl⟩ := List.length_eq_one_iff.1 h1; have := of_decide_eq_true (h2 y (List.mem_cons_self ..)); exact ⟨y.toNat, by rw [show ((y.toNat : Nat) : Int) = y from by omega], by omega, by omega⟩
 ·rintro ⟨p, rfl, h1, h2⟩; refine ⟨rfl, fun x hx => ?_⟩; rw [List.mem_singleton.1 hx]; exact decide_eq_true (by omega)
theorem per_drop (w : List Int) (p i : Nat) : per w p i p ∧ 1 ≤ p ↔ (i + p + p ≤ w.length ∧ (w.take (i + p)).drop i = (w.take (i + p + p)).drop (i + p)) ∧ 1 ≤ p := by
 constructor
 ·rintro ⟨h, hp⟩; have hb := per_bound h (by omega); refine ⟨⟨hb, List.ext_getElem (by simp; omega) (fun t h1 h2 => ?_)⟩, hp⟩; simp only [List.length_drop, List.length_take] at h1 h2; have := (h t (by omega)).2; rw [List.getD_eq_getElem?_getD, List.getD_eq_getElem?_getD, List.getElem?_eq_getElem (by omega), List.getElem?_eq_getElem (by omega)] at this; simp only [Option.getD_some] at this; rw [List.getElem_drop, List.getElem_take, List.getElem_drop, List.getElem_take, this]; congr 1; omega
 ·rintro ⟨⟨hb, h⟩, hp⟩; refine ⟨fun t ht => ⟨by omega, ?_⟩, hp⟩; have h1 : ((w.take (i + p)).drop i)[t]? = ((w.take (i + p + p)).drop (i + p))[t]? := by rw [h]
  rw [List.getElem?_drop, List.getElem?_drop, List.getElem?_take_of_lt (by omega), List.getElem?_take_of_lt (by omega)] at h1; rw [List.getD_eq_getElem?_getD, List.getD_eq_getElem?_getD, h1, show i + t + p = i + p + t from by omega]
theorem mAt_sq (w : List Int) (i p : Nat) (hp : 1 ≤ p ∧ p ≤ 40) : mAt w [0, 0] i [(p : Int)] = true ↔ per w p i p := by
 have hL : okL [0, 0] [(p : Int)] = true := (okL_sq _).2 ⟨p, rfl, hp⟩; have hd := per_drop w p i; have e0 : (([(p : Int)] : List Int).getD (0 : Int).toNat 0).toNat = p := by simp
 unfold mAt; rw [hL, Bool.true_and, Bool.and_eq_true, decide_eq_true_eq]; simp only [mgo, e0]; by_cases h1 : w.length < i + p
 ·rw [if_pos h1]; constructor
  ·rintro ⟨_, h⟩; cases h
  ·intro h; have := per_bound h (by omega); omega
 ·rw [if_neg h1]; have e1 : (List.replicate ([(p : Int)] : List Int).length (none : Option (List Int))).getD (0 : Int).toNat none = none := rfl; rw [e1]; simp only; by_cases h2 : w.length < i + p + p
  ·rw [if_pos h2]; constructor
   ·rintro ⟨_, h⟩; cases h
   ·intro h; have := per_bound h (by omega); omega
  ·rw [if_neg h2]; have e2 : ((List.replicate ([(p : Int)] : List Int).length (none : Option (List Int))).set (0 : Int).toNat (some ((w.take (i + p)).drop i))).getD (0 : Int).toNat none = some ((w.take (i + p)).drop i) := rfl; rw [e2]; simp only; by_cases h3 : (w.take (i + p)).drop i = (w.take (i + p + p)).drop (i + p)
   ·rw [if_pos h3]; exact ⟨fun _ => (hd.2 ⟨⟨by omega, h3⟩, hp.1⟩).1, fun _ => ⟨by omega, rfl⟩⟩
   ·rw [if_neg h3]; constructor
    ·rintro ⟨_, h⟩; cases h
    ·intro h; exact absurd (hd.1 ⟨h, hp.1⟩).1.2 h3
theorem noM_sq (w : List Int) (hw : w.length ≤ 24) : noM w [0, 0] ↔ hasPower w 2 1 = false := by
 rw [Bool.eq_false_iff, Ne, hasPower_iff]; constructor
 ·rintro h ⟨_, i, p, L, h1, h2, h3, h4⟩; have h5 : per w p i p := per_le h3 (by omega); have h6 := per_bound h5 (by omega); have := (mAt_sq w i p ⟨h1, by omega⟩).2 h5; rw [h] at this; cases this
 ·intro h i L; cases q : mAt w [0, 0] i L with
  | false => rfl
  | true =>
   obtain ⟨p, rfl, h1, h2⟩ := (okL_sq L).1 (mAt_len q).1; have h3 := (mAt_sq w i p ⟨h1, h2⟩).1 q; have h4 := per_bound h3 (by omega); exact absurd ⟨by omega, i, p, p, h1, by omega, h3, by omega⟩ h
set_option maxRecDepth 100000
theorem srch_val (K : Nat) (F : List Int → Option (List Int)) : ∀ d pre a v, srch K F d pre a = some v → ∃ L, F L = some v := by
 intro d
 induction d with
 | zero =>
  intro pre a v h; rw [srch_def] at h; obtain ⟨j, _, hj⟩ := List.exists_of_findSome?_eq_some h; exact ⟨_, hj⟩
 | succ d ih =>
  intro pre a v h; rw [srch_def] at h; obtain ⟨j, _, hj⟩ := List.exists_of_findSome?_eq_some h; exact ih _ _ _ hj
theorem fnd_some {w p : List Int} {i : Nat} {L : List Int} (h : fnd w p = some (i, L)) : mAt w p i L = true := by
 unfold fnd at h; split at h
 ·unfold fFrom at h; obtain ⟨j, _, hj⟩ := List.exists_of_findSome?_eq_some h; rw [Option.map_eq_some_iff] at hj; obtain ⟨v, hv, he⟩ := hj; obtain ⟨rfl, rfl⟩ := Prod.mk.inj he; obtain ⟨L', hL⟩ := srch_val _ _ _ _ _ _ hv; unfold FA at hL; split at hL
  ·rename_i q; obtain rfl := Option.some.inj hL; exact q
  ·cases hL
 ·cases h
theorem mgo_drop (x : Int) (w L : List Int) (p : List Int) : ∀ i us, mgo (x :: w) L p (i + 1) us = mgo w L p i us := by
 induction p with
 | nil => intro i us; rfl
 | cons y p ih =>
  intro i us; simp only [mgo]; have e : i + 1 + (L.getD y.toNat 0).toNat = i + (L.getD y.toNat 0).toNat + 1 := by omega
  rw [e, List.take_succ_cons, List.drop_succ_cons]; by_cases q : w.length < i + (L.getD y.toNat 0).toNat
  ·rw [_root_.if_pos q, _root_.if_pos (by rw [List.length_cons]; omega)]
  ·rw [_root_.if_neg q, _root_.if_neg (by rw [List.length_cons]; omega)]; split
   ·rw [ih]
   ·rw [ih]
theorem noM_drop {x : Int} {w p : List Int} (h : noM (x :: w) p) : noM w p := fun i L => by
 have := h (i + 1) L; unfold mAt at this ⊢; rw [mgo_drop] at this; rw [show decide (i ≤ w.length) = decide (i + 1 ≤ (x :: w).length) from decide_eq_decide.2 (by rw [List.length_cons]; omega)]; exact this
theorem implMatchLength_ev (p L : List Int) (hp : p.length ≤ 1048576) (hL : L.length ≤ 1048576) : Ev (fun k => impl_MatchLength.f k p L) (if okL p L = true then (tot L p : Int) else -1) := by
 unfold impl_MatchLength.f; refine Ev.bind (implLengths_ev p L hp hL) ?_; refine Ev.ite (fun h => ?_) (fun h => ?_)
 ·rw [_root_.if_pos h]; obtain ⟨h1, h2, h3, h4⟩ := okL_at h; have h6 := (isPat_nl h1).2.1; have key : ∀ i, i ≤ p.length → Ev (fun k => impl_MatchLength.l0 k L (tot L (p.take i) : Int) p (p.length : Int) (i : Int)) (tot L p : Int) := by
   refine down p.length ?_ ?_
   ·refine Ev.step (fun k => by simp only [impl_MatchLength.l0]; rw [_root_.if_neg (by omega)]) ?_; rw [List.take_length]; exact Ev.some _
   ·intro i hi ih; have h5 := h4 p[i] (List.getElem_mem hi); obtain ⟨x, hx⟩ : ∃ x : Nat, p[i] = (x : Int) := ⟨p[i].toNat, by omega⟩; have hxl : x < L.length := by omega
    have h7 := h3 _ (List.getElem_mem hxl); obtain ⟨n, hn⟩ : ∃ n : Nat, L[x] = (n : Int) := ⟨L[x].toNat, by omega⟩; have h8 := (tot_le L h3 (p.take i) (fun y hy => ⟨(h4 y (List.mem_of_mem_take hy)).1, (h4 y (List.mem_of_mem_take hy)).2.1⟩)).2; rw [List.length_take] at h8; rw [take_succ p i hi, tot_append] at ih; simp only [tot] at ih; rw [hx, Int.toNat_natCast, List.getD_eq_getElem?_getD, List.getElem?_eq_getElem hxl, Option.getD_some, hn, Int.toNat_natCast] at ih
    refine Ev.step (fun k => by
     simp only [impl_MatchLength.l0]
     rw [_root_.if_pos (by omega), _root_.if_pos (by omega), _root_.if_pos (by omega), rd_get p i hi, hx, _root_.if_pos (by omega), _root_.if_pos (by omega), rd_get L x hxl, hn, wsucc (i := i) (by omega), w_id (by omega) (by omega), show ((tot L (p.take i) : Nat) : Int) + (n : Int) = ((tot L (p.take i) + (n + 0) : Nat) : Int) from by omega]) ih
  have := key 0 (by omega); rw [List.take_zero] at this; exact this
 ·rw [_root_.if_neg h]; exact Ev.some _
theorem both_at (w p : List Int) (a : Int) (L : List Int) (hw : w.length ≤ 1000000) (hp : p.length ≤ 1048576) (hL : L.length ≤ 1048576) : ∃ b, Ev (fun k => impl_MatchAt.f k w p a L) b ∧ Ev (fun k => spec_MatchAt.f k w p a L) b := by
 by_cases q : 0 ≤ a
 ·obtain ⟨n, rfl⟩ : ∃ n : Nat, a = (n : Int) := ⟨a.toNat, by omega⟩; exact ⟨_, implMatchAt_ev w p n L hw hp hL, specMatchAt_ev w p n L hw hp hL⟩
 ·refine ⟨false, ?_, ?_⟩
  ·unfold impl_MatchAt.f; exact Ev.bind (implLengths_ev p L hp hL) (Ev.if_neg (fun h => q h.2.1) (Ev.some _))
  ·unfold spec_MatchAt.f; exact Ev.bind (specMatchLength_ev p L hp hL) (Ev.if_pos (Or.inr (Or.inl (by omega))) (Ev.some _))
def dblOk (p : List Int) : Bool := (impl_IsDoubled.f 60 p).isSome && impl_IsDoubled.f 60 p == spec_IsDoubled.f 60 p
theorem dbl_all : ∀ p ∈ pats, dblOk p = true := by decide +kernel
theorem dbl_ev {p : List Int} (hp : p ∈ pats) : ∃ b, Ev (fun k => impl_IsDoubled.f k p) b ∧ Ev (fun k => spec_IsDoubled.f k p) b := by
 have h := dbl_all p hp; unfold dblOk at h; rw [Bool.and_eq_true] at h; obtain ⟨b, hb⟩ := Option.isSome_iff_exists.1 h.1; have e := eq_of_beq h.2; rw [hb] at e; exact ⟨b, Ev.of (impl_IsDoubled.mono _) hb, Ev.of (spec_IsDoubled.mono _) e.symm⟩
def letOk (p : List Int) : Bool := match spec_l28Letters.f 60 p with
 | some n => decide (0 ≤ n ∧ n ≤ 3)
 | none => false
theorem let_all : ∀ p ∈ pats, letOk p = true := by decide +kernel
theorem let_ev {p : List Int} (hp : p ∈ pats) : ∃ n : Nat, Ev (fun k => spec_l28Letters.f k p) (n : Int) ∧ n ≤ 3 := by
 have h := let_all p hp; unfold letOk at h; split at h
 ·rename_i n hn; have h := of_decide_eq_true h; refine ⟨n.toNat, ?_, by omega⟩; rw [show ((n.toNat : Nat) : Int) = n by omega]; exact Ev.of (spec_l28Letters.mono _) hn
 ·cases h
theorem at_draw (s : List Int) (hs : s.length ≤ 1048576) : ∃ w p a L, Ev (fun k => spec_DrawMatchAt.f k s) (w, p, a, L) ∧ w.length ≤ 257 ∧ p ∈ pats ∧ L.length ≤ 3 := by
 obtain ⟨h, hnew⟩ := new_ev s hs; obtain ⟨w, i1, g1, e1, hw, a0, a1⟩ := l28w_ev s hs 0 h (by omega) (by omega); obtain ⟨p, i2, g2, e2, hp, b0, b1⟩ := pat_mem s i1 g1 a0 a1 hs; have hp6 := pats_len p hp; have hF := specFind_ev w p (by omega) (by omega); obtain ⟨n, hn, hn3⟩ := let_ev hp; have loop : ∀ (d j : Nat) (L : List Int) (i g : Int), j + d = n → L.length = j → 0 ≤ i → i ≤ s.length → ∃ a L', Ev (fun k => spec_DrawMatchAt.l0 k w p L (j : Int) s i g) (w, p, a, L') ∧ L'.length ≤ 3 := by
  intro d
  induction d with
  | zero =>
   intro j L i g hj hL h0 h1; obtain ⟨r, i', g', e, _⟩ := below_val s i g 10 h0 h1 hs (by omega) (by omega); refine ⟨wrap64 (r - 1), L, Ev.step (fun k => by simp only [spec_DrawMatchAt.l0]; rfl) (Ev.bind hn ?_), by omega⟩; refine Ev.if_neg (by omega) (Ev.bind (Ev.val e) ?_); exact Ev.some _
  | succ d ih =>
   intro j L i g hj hL h0 h1; obtain ⟨r, i', g', e, _, _, c0, c1⟩ := below_val s i g 4 h0 h1 hs (by omega) (by omega); obtain ⟨a, L', hE, hl⟩ := ih (j + 1) (L ++ [r]) i' g' (by omega) (by simp; omega) c0 c1; refine ⟨a, L', Ev.step (fun k => by simp only [spec_DrawMatchAt.l0]; rfl) (Ev.bind hn (Ev.if_pos (show (j : Int) < (n : Int) by omega) (Ev.bind (Ev.val e) (Ev.if_pos (show L.length < 17592186044416 by omega) ?_)))), hl⟩; dsimp only; rw [wsucc (by omega)]; exact hE
 have j0f : ∀ (i g : Int) (a : Int) (L : List Int), 0 ≤ i → i ≤ s.length → ∃ a' L', Ev (fun k => spec_DrawMatchAt.j0 k w p false s i g a L) (w, p, a', L') ∧ L'.length ≤ 3 := fun i g a L h0 h1 => by
  obtain ⟨a', L', hE, hl⟩ := loop n 0 [] i g (by omega) rfl h0 h1; exact ⟨a', L', Ev.step (fun k => by simp only [spec_DrawMatchAt.j0]; rw [_root_.if_neg (by simp)]; rfl) hE, hl⟩
 unfold spec_DrawMatchAt.f; cases hf : fnd w p with
 | none =>
  rw [hf] at hF; obtain ⟨a', L', hE, hl⟩ := j0f i2 g2 0 [] b0 b1; exact ⟨w, p, a', L', Ev.bind hnew (Ev.bind e1 (Ev.bind (Ev.val e2) (Ev.bind hF (Ev.if_neg Bool.false_ne_true hE)))), hw, hp, hl⟩
 | some v =>
  obtain ⟨i, L⟩ := v; rw [hf] at hF; have hm := okL_at (mAt_len (fnd_some hf)).1; have h3 := (isPat_nl hm.1).2.2.1; obtain ⟨c, i3, g3, e3, c0, c1⟩ := once_val s i2 g2 2 b0 b1 hs (by omega) (by omega); cases c with
  | true =>
   refine ⟨w, p, (i : Int), L, Ev.bind hnew (Ev.bind e1 (Ev.bind (Ev.val e2) (Ev.bind hF (Ev.if_pos rfl (Ev.bind (Ev.val e3) ?_))))), hw, hp, by omega⟩; exact Ev.step (fun k => by simp only [spec_DrawMatchAt.j0]; rw [_root_.if_pos trivial]; rfl) (Ev.some _)
  | false =>
   obtain ⟨a', L', hE, hl⟩ := j0f i3 g3 (i : Int) L c0 c1; exact ⟨w, p, a', L', Ev.bind hnew (Ev.bind e1 (Ev.bind (Ev.val e2) (Ev.bind hF (Ev.if_pos rfl (Ev.bind (Ev.val e3) hE))))), hw, hp, hl⟩
theorem len_draw (s : List Int) (hs : s.length ≤ 1048576) : ∃ p L, Ev (fun k => spec_DrawMatchLength.f k s) (p, L) ∧ p ∈ pats ∧ L.length ≤ 3 := by
 obtain ⟨w, p, a, L, hE, hw, hp, hL⟩ := at_draw s hs; unfold spec_DrawMatchLength.f; exact ⟨p, L, Ev.bind hE (Ev.some _), hp, hL⟩
theorem lawFp : laws_FnPatterns.Pure := by
 intro s _ hs _; have main : Ev (fun k => laws_FnPatterns.f k s) true := by
  unfold laws_FnPatterns.f; refine Ev.bind (Ev.val rfl) ?_; refine Ev.ite (fun _ => Ev.some _) (fun q => ?_); have hs : s.length ≤ 1048576 := by
   have : ¬ (s.length : Int) > 1048576 := fun h => q (decide_eq_true h)
   omega
  obtain ⟨w, p, hD, hw, hp⟩ := find_draw s hs; have hp6 := pats_len p hp; have hpl : p.length ≤ 1048576 := by omega
  have hwl : w.length ≤ 1048576 := by omega
  have iF := implFind_ev w p hwl hpl; have sF := specFind_ev w p hwl hpl; have iA := implAvoids_ev w p hwl hpl; have sA := specAvoids_ev w p hwl hpl; have iP := implIsPattern_ev p hpl; have sP := specIsPattern_ev p hpl; obtain ⟨d, iD, sD⟩ := dbl_ev hp; have j3 : Ev (fun k => laws_FnPatterns.j3 k s false) true := by
   refine Ev.step (fun k => by simp only [laws_FnPatterns.j3]; rw [_root_.if_neg (by simp)]) ?_; obtain ⟨w2, p2, a, L, hE, hw2, hp2, hL⟩ := at_draw s hs; obtain ⟨p3, L3, hE3, hp3, hL3⟩ := len_draw s hs; have l2 := pats_len p2 hp2; have l3 := pats_len p3 hp3; obtain ⟨b, ib, sb⟩ := both_at w2 p2 a L (by omega) (by omega) (by omega); refine Ev.bind hE (Ev.bind hE3 (Ev.bind ib (Ev.bind sb (Ev.if_pos (beq_self_eq_true b) ?_)))); refine Ev.bind (implMatchLength_ev p3 L3 (by omega) (by omega)) (Ev.bind (specMatchLength_ev p3 L3 (by omega) (by omega)) (Ev.same (Ev.some _) (beq_self_eq_true _)))
  have j2 : Ev (fun k => laws_FnPatterns.j2 k s w p (decide (isPat p = true ∧ w.length ≤ 24 ∧ fnd w p = none)) false) true := by
   refine Ev.step (fun k => by simp only [laws_FnPatterns.j2]; rw [_root_.if_neg (by simp)]) ?_; refine Ev.ite (fun q1 => ?_) (fun _ => j3); obtain ⟨g1, g2, g3⟩ := of_decide_eq_true q1; refine Ev.ite (fun q2 => Ev.if_pos (by omega) ?_) (fun _ => j3); cases hc : w with
   | nil => rw [hc] at q2; simp at q2
   | cons x t =>
    rw [hc] at g2 g3; have hn := noM_drop ((fnd_none _ p g1 g2).1 g3); have ht : t.length ≤ 24 := by rw [List.length_cons] at g2; omega
    have e := implAvoids_ev t p (by omega) hpl; rw [decide_eq_true ⟨g1, ht, (fnd_none _ p g1 ht).2 hn⟩] at e; exact Ev.bind e j3
  have j1 : Ev (fun k => laws_FnPatterns.j1 k s w p (decide (isPat p = true ∧ w.length ≤ 24 ∧ fnd w p = none)) false) true := by
   refine Ev.step (fun k => by simp only [laws_FnPatterns.j1]; rw [_root_.if_neg (by simp)]) ?_; refine Ev.ite (fun q1 => ?_) (fun _ => j2); refine Ev.bind (same_ev p [0, 0] hpl) (Ev.ite (fun q2 => ?_) (fun _ => j2)); have q2 := of_decide_eq_true q2; have h24 : w.length ≤ 24 := by omega
   refine Ev.bind (specSquare_ev w hwl) ?_; have : ((decide (isPat p = true ∧ w.length ≤ 24 ∧ fnd w p = none)) == hasPower w 2 1) = false := by
    rw [q2]; have hsq := noM_sq w h24; have hfn := fnd_none w [0, 0] isPat_sq h24; cases hh : hasPower w 2 1 with
    | false => rw [decide_eq_true ⟨isPat_sq, h24, hfn.2 (hsq.2 hh)⟩]; rfl
    | true =>
     rw [decide_eq_false]
     ·rfl
     ·rintro ⟨_, _, h3⟩; have := hsq.1 (hfn.1 h3); rw [hh] at this; cases this
   rw [this]; exact j2
  have j0 : Ev (fun k => laws_FnPatterns.j0 k s w p (fres (fnd w p)).2.2 false) true := by
   refine Ev.step (fun k => by simp only [laws_FnPatterns.j0]; rw [_root_.if_neg (by simp)]) ?_; refine Ev.bind iA (Ev.bind sA (Ev.if_neg (by rw [bne_self_eq_false]; simp) ?_)); refine Ev.ite (fun q1 => ?_) (fun _ => j1); rw [show (fres (fnd w p)).2.2 = false from by rw [(of_decide_eq_true q1).2.2]; rfl]; exact j1
  have hl : (fres (fnd w p)).2.1.length ≤ 1048576 := by
   cases hf : fnd w p with
   | none => simp [fres]
   | some v =>
    obtain ⟨i, L⟩ := v; have hm := okL_at (mAt_len (fnd_some hf)).1; have h3 := (isPat_nl hm.1).2.2.1; show L.length ≤ _; omega
  have e1 := same_ev (fres (fnd w p)).2.1 (fres (fnd w p)).2.1 hl; rw [decide_eq_true rfl] at e1; refine Ev.bind hD (Ev.bind iF (Ev.bind sF (Ev.if_neg (by rw [bne_self_eq_false]; simp) (Ev.if_pos rfl (Ev.bind e1 (Ev.if_pos rfl (Ev.bind iP (Ev.bind sP (Ev.if_neg (by rw [bne_self_eq_false]; simp) (Ev.bind iD (Ev.bind sD (Ev.if_neg (by rw [bne_self_eq_false]; simp) ?_)))))))))))); cases hf : fnd w p with
  | none =>
   rw [hf] at j0; exact Ev.if_neg Bool.false_ne_true j0
  | some v =>
   obtain ⟨i, L⟩ := v; rw [hf] at j0; have hm := okL_at (mAt_len (fnd_some hf)).1; have h3 := (isPat_nl hm.1).2.2.1; have em := implMatchAt_ev w p i L (by omega) hpl (by omega); rw [fnd_some hf] at em; exact Ev.if_pos rfl (Ev.bind em j0)
 obtain ⟨k, hk⟩ := main.rounds; exact ⟨k, hk⟩
end Go.Proofs.Ythkkpdgadfhijaa.M
/- FnPatterns: the plain law of the statement, out of what program and reference come to. No condition. -/
namespace Go.Proofs.Ythkkpdgadfhijaa.Pure
open Go.RowKit Go.Proofs.Ythkkpdgadfhijaa.M Go.Proofs.YthkkpdgadfhijaaW.PrintWords Go.Proofs.YthkkpdgadfhijaaW.PrintLast
theorem FnPatterns : laws_FnPatterns.Pure := lawFp
end Go.Proofs.Ythkkpdgadfhijaa.Pure
