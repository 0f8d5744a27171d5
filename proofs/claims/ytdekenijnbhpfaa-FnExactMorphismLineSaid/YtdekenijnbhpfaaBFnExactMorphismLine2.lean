/- Texts of the claim on FnExactMorphismLine, joined (part 2 of 6): walks of the functions, what they come to, and in the last part the row. No condition of mine. -/
import Derived.Test.YtdekenijnbhpfaaBFnExactMorphismLine0
import Derived.Test.YtdekenijnbhpfaaBFnExactMorphismLine1
namespace Go.Proofs.Ytdekenijnbhpfaa.M
open Go.RowKit Go.Proofs.Ytdekenijnbhpfaa.KW Go.Proofs.YtdekenijnbhpfaaW.PrintWords Go.Proofs.YtdekenijnbhpfaaW.PrintLast Go.Proofs.YtdekenijnbhpfaaW.PrintMore
attribute [local go_sem] max2_int min2_int max_two min_two max_three min_three max_four min_four
set_option linter.unusedVariables false
set_option linter.unusedSimpArgs false
/-- Which letters vanish: one round from the letter x on. -/
def vgo : List (List Int) → Nat → List Bool → List Bool
 | [], _, o => o
 | r :: rs, x, o => vgo rs (x + 1) (if r.any (fun y => !o.getD y.toNat false) then o else o.set x true)
def vrn (im : List (List Int)) : Nat → List Bool → List Bool
 | 0, o => o
 | n + 1, o => vrn im n (vgo im 0 o)
def vanV (im : List (List Int)) : List Bool := vrn im im.length (List.replicate im.length false)
def grOk (im : List (List Int)) : Prop := 1 ≤ im.length ∧ im.length ≤ 16 ∧ ∀ r ∈ im, r.length ≤ 8 ∧ ∀ y ∈ r, 0 ≤ y ∧ y < (im.length : Int)
instance (im : List (List Int)) : Decidable (grOk im) := by unfold grOk; exact inferInstance
theorem vgo_len : ∀ (im : List (List Int)) (x : Nat) (o : List Bool), (vgo im x o).length = o.length
 | [], _, _ => rfl
 | r :: rs, x, o => by rw [vgo, vgo_len rs]; split <;> simp
theorem vrn_len (im : List (List Int)) : ∀ (n : Nat) (o : List Bool), (vrn im n o).length = o.length
 | 0, _ => rfl
 | n + 1, o => by rw [vrn, vrn_len im n, vgo_len]
theorem vrn_succ (im : List (List Int)) : ∀ (n : Nat) (o : List Bool), vrn im (n + 1) o = vgo im 0 (vrn im n o)
 | 0, _ => rfl
 | n + 1, o => by rw [vrn, vrn_succ im n]; rfl
theorem vgo_step (im : List (List Int)) (x : Nat) (h : x < im.length) (o : List Bool) : vgo (im.drop x) x o = vgo (im.drop (x + 1)) (x + 1) (if im[x].any (fun y => !o.getD y.toNat false) then o else o.set x true) := by
 rw [List.drop_eq_getElem_cons h, vgo]
/-- A letter brought into range. -/
def clp (n : Nat) (x : Int) : Int := if 0 ≤ x ∧ x < (n : Int) then x else 0
theorem clp_id {n : Nat} {x : Int} (h : 0 ≤ x ∧ x < (n : Int)) : clp n x = x := if_pos h
theorem clp_in (n : Nat) (x : Int) (hn : 1 ≤ n) : 0 ≤ clp n x ∧ clp n x < (n : Int) := by unfold clp; split <;> omega
theorem any_congr' {α : Type} (l : List α) (p q : α → Bool) (h : ∀ x ∈ l, p x = q x) : l.any p = l.any q := by
 induction l with
 | nil => rfl
 | cons a l ih => rw [List.any_cons, List.any_cons, h a (List.mem_cons_self ..), ih (fun x hx => h x (List.mem_cons_of_mem _ hx))]
/-- The closure: is the letter one that does not vanish, told by the marks o in memory. -/
theorem impl_IsGrowing_pred (F : FuncId) (hF : F = 90 ∨ F = 78) (g gs cap : Nat) (n : Nat) (hn : 1 ≤ n) (o : List Bool) (hlo : o.length = n) (w : World) (hB : g < w.heap.size) (hS : gs < w.heap.size) (hcell : w.cell? ⟨g, 0, none⟩ = some (.slice (some ⟨gs, 0, none⟩) n cap)) (hrow : ∀ i : Nat, i < n → w.cell? ⟨gs, i, none⟩ = some (.bool (rdOf false o (i : Int)))) :
  PredAt Try.prog F #[.pointer (some ⟨g, 0, none⟩)] (fun x : Int => Value.int .i64 (clp n x)) (fun x => !o.getD (clp n x).toNat false) w := fun W x hb => by
 show FnGives Try.prog F #[.pointer (some ⟨g, 0, none⟩)] #[Value.int .i64 (clp n x)] (.bool (!o.getD (clp n x).toNat false)) W; have hx := clp_in n x hn; generalize clp n x = y at hx ⊢; obtain ⟨i, rfl⟩ : ∃ i : Nat, y = (i : Int) := ⟨y.toNat, by omega⟩; have hi : i < n := by omega
 have hc : W.cell? ⟨g, 0, none⟩ = some (.slice (some ⟨gs, 0, none⟩) n cap) := (hb.cell (p := ⟨g, 0, none⟩) hB).trans hcell; have hr : W.cell? ⟨gs, i, none⟩ = some (.bool (rdOf false o (i : Int))) := (hb.cell (p := ⟨gs, i, none⟩) hS).trans (hrow i hi); have e : rdOf false o (i : Int) = o.getD i false := by unfold rdOf; rw [Int.toNat_natCast]
 rw [e] at hr; rw [Int.toNat_natCast]; generalize o.getD i false = b at hr ⊢; have p0 : decide (0 ≤ (i : Int)) = true := by simp
 have p1 : decide ((i : Int) < (n : Int)) = true := by simp; omega
 clear hcell hrow hb hB hS hx hlo e; rcases hF with rfl | rfl
 ·show Calls Try.prog 90 #[.int .i64 (i : Int), .pointer (some ⟨g, 0, none⟩)] W _; go_enter Try.func90, Try.ntmps90; go_wp2
  all_goals (go_ret; exact ⟨by simp_all, 0, rfl⟩)
 ·show Calls Try.prog 78 #[.int .i64 (i : Int), .pointer (some ⟨g, 0, none⟩)] W _; go_enter Try.func78, Try.ntmps78; go_wp2
  all_goals (go_ret; exact ⟨by simp_all, 0, rfl⟩)
theorem spot_none {w : World} {ad : Addr} {v : Value} (h : w.cell? ad = some v) : ad.spot = none := by
 obtain ⟨bk, o, sp⟩ := ad; cases sp with
 | none => rfl
 | some s => simp [World.cell?] at h; split at h <;> cases h
/-- slices.ContainsFunc with one of the two closures. -/
theorem impl_IsGrowing_cf (F : FuncId) (hF : F = 90 ∨ F = 78) (g gs cap : Nat) (n : Nat) (hn : 1 ≤ n) (o : List Bool) (hlo : o.length = n) (w : World) (hB : g < w.heap.size) (hS : gs < w.heap.size) (hcell : w.cell? ⟨g, 0, none⟩ = some (.slice (some ⟨gs, 0, none⟩) n cap)) (hrow : ∀ i : Nat, i < n → w.cell? ⟨gs, i, none⟩ = some (.bool (rdOf false o (i : Int))))
  (A : Option Addr) (c : Nat) (l : List Int) (hC : (Kd.int .i64).C w A l.length l) (hin : ∀ y ∈ l, 0 ≤ y ∧ y < (n : Int)) :
  Calls Try.prog 77 #[.slice A l.length c, .func (.func F) #[] #[.pointer (some ⟨g, 0, none⟩)]] w fun e w' => e = .returned (.bool (l.any fun y => !o.getD y.toNat false)) ∧ ∃ q, w' = w.drewN q := by
 have eg : ∀ args w, (callFunc F args).run Try.prog w = .ok (.enter F args) w := by
  rcases hF with rfl | rfl
  ·exact enters_of Try.func90 (by kernel_rfl) rfl
  ·exact enters_of Try.func78 (by kernel_rfl) rfl
 cases l with
 | nil =>
  refine (Try.slices_ContainsFunc_empty (α := Int) A c _ w).mono ?_; rintro e w' ⟨rfl, rfl⟩; exact ⟨rfl, 0, rfl⟩
 | cons x l =>
  obtain ⟨ad, rfl, hc⟩ := Kd.at_int hC 0 (by omega) (by simp only [List.length_cons]; omega); have hsp := spot_none hc; obtain ⟨bk, of, sp⟩ := ad; have hsp' : sp = none := by
   have : ((0 : Int)).toNat = 0 := rfl; rw [this] at hsp; simpa [Addr.add] using hsp
  subst hsp'
  have hh := Try.slices_ContainsFunc (fun y : Int => Value.int .i64 (clp n y)) (fun y => !o.getD (clp n y).toNat false) F #[.pointer (some ⟨g, 0, none⟩)] eg bk of (x :: l).length c (x :: l) w (impl_IsGrowing_pred F hF g gs cap n hn o hlo w hB hS hcell hrow) (Nat.le_refl _) (Kd.C_max hC) (fun j hj => by
   obtain ⟨ad2, e2, h2⟩ := Kd.at_int hC (j : Int) (by omega) (by omega); obtain rfl := Option.some.inj e2; rw [K.rd_get _ j hj, Int.toNat_natCast] at h2; have e4 : (⟨bk, of, none⟩ : Addr).add j = ⟨bk, of + j, none⟩ := by
    unfold Addr.add; by_cases q : j = 0
    ·subst q; simp
    ·simp [q]
   have e5 : (x :: l)[j]! = (x :: l)[j] := getElem!_pos (x :: l) j hj
   rw [e5, clp_id (hin _ (List.getElem_mem hj)), ← e4]; exact h2)
  refine hh.mono ?_; rintro e w' ⟨rfl, q, rfl⟩; refine ⟨?_, q, rfl⟩; rw [List.take_length]; congr 2; exact any_congr' _ _ _ (fun y hy => by rw [clp_id (hin y hy)])
set_option maxHeartbeats 4000000 in
set_option maxRecDepth 100000 in
theorem impl_IsGrowing_van (A0 : Option Addr) (c0 : Nat) (l0 : List (List Int)) (w : World) (hr0 : Kd.C (Kd.slice 3 (Kd.int .i64)) w A0 l0.length l0) (hc0 : l0.length ≤ c0) (hok : grOk l0) :
  Calls Try.prog 76 #[.agg #[.slice A0 l0.length c0]] w fun e w' => ∃ v0_ : Value, e = .returned (v0_) ∧ Kd.R Kd.bool 4 w' w.heap.size (fun _ => True) v0_ (vanV l0) ∧ Below w.heap.size w w' := by
 have HR0 := aM hr0; have HC0 := aM hc0; have HK := aM hok; clear hr0 hc0 hok; have HB := aM (Below.refl w.heap.size w); go_enter Try.func76, Try.ntmps76; go_wp2_with ((with_reducible refine gate_dst (N := 1) rfl ?_); refine Aside0.out ?_); refine aM ?_; (try (refine gate_guard (by rfl) ?_; dsimp only)); refine box_event ?hg (N := 1) ?hd (cs := #[.slice A0 l0.length c0]) (t := 27) ?hr ?_
 case hd => rfl
 case hg => rfl
 case hr => first | (go_simp; done) | (go_simp; rfl)
 intro gm hg w1 hbox hb; have BM := aM hbox; replace HB := aM (below_step HB.out hb); have GM := aM (show w.heap.size ≤ gm by rw [hg]; exact Nat.le_refl _); clear hbox hb hg; have hcm := (blk_cell BM.out 0).trans rfl; have hlen : l0.length ≤ 16 := HK.out.2.1; go_wp2_with ((with_reducible refine gate_dst (N := 9) rfl ?_); refine Aside0.out ?_); refine aM ?_; refine Kd.R_make Kd.bool (w0 := w) w.heap.size 4 rfl (N := 9) rfl 78 _ _ rfl (l0.length : Int) rfl rfl Try.underlying78 (.bool false) 1 (by kernel_rfl) rfl (by decide) (by omega) false (ok := fun _ => True) (okp := fun _ => True) rfl (fun _ hk => hk) trivial (by omega) (by rw [Int.toNat_natCast]; omega) HB.out (by have := HB.out.size; omega) ?_; intro v9 w2 ho2 hb2 hg2 _; rw [Int.toNat_natCast] at ho2; have HL1 := HK.out.1; obtain ⟨gs, cap, rfl, hs1, hs2, cells9, hs3⟩ := Kd.R_form ho2 (by rw [List.length_replicate]; omega); rw [List.length_replicate] at *; have HO := aM ho2; replace BM := aM (blk_grown BM.out hg2 (by simp)); replace HB := aM hb2; have GS := aM hs1; have NS := aM (show gs ≠ gm from fun e => by subst e; have := BM.out.symm.trans hs3; simp at this); have HS2 := aM hs2; clear ho2 hb2 hg2 hs1 hs2 hs3 hcm; go_wp2_with ((with_reducible refine gate_dst (N := 3) rfl ?_); refine Aside0.out ?_); refine aM ?_; refine box_event ?hg (N := 3) ?hd (cs := #[.slice none 0 0]) (t := 78) ?hr ?_
 case hd => rfl
 case hg => rfl
 case hr => first | (go_simp; done) | (go_simp; rfl)
 intro go hg w3 hbox hb; have BO := aM hbox; have GO := aM (show w.heap.size ≤ go by rw [hg]; exact HB.out.size); have hgo : gs < go := by rw [hg]; exact HS2.out
 have NM := aM (show gm ≠ go from fun e => by have := blk_lt BM.out; omega); replace HO := aM (Kd.R_below HO.out hb); replace BM := aM (blk_below (g := gm) (o := .cells #[.slice A0 l0.length c0] 27 (0, 0)) BM.out hb); replace HB := aM (below_step HB.out hb); clear hbox hb hg; have NO := aM (show go ≠ gs from fun e => by rw [e] at hgo; omega); clear hgo; have hco := (blk_cell BO.out 0).trans rfl; have hfo := blk_frozen BO.out 0; go_wp2_with ((with_reducible refine gate_store (t := 78) (p := 3) rfl ?_); refine Aside0.out ?_); refine aM ?_; refine store_event (t := 78) (p := 3) (v := ?vo) (w1 := (w3.setCell ⟨go, 0, none⟩ (.slice (some ⟨gs, 0, none⟩) l0.length cap))) ?hg ?ho ?hn ?hr ?_
 case ho => rfl
 case hg => rfl
 case hn => rfl
 case hr => first | (go_simp; done) | (go_simp; rfl)
 intro w4 hw4
 replace HO := aM (show Kd.R Kd.bool 4 w4 w.heap.size (fun _ => True) (.slice (some ⟨gs, 0, none⟩) l0.length cap) (List.replicate l0.length false) from by
  rw [hw4]; exact Kd.R_mono (Kd.R_far (Kd.R_far1 HO.out rfl (by intro e; exact NO.out (Option.some.inj e))) (fun k hk => hk.2) _) (fun _ _ => trivial))
 replace BO := aM (show w4.heap[go]? = some (.cells #[.slice (some ⟨gs, 0, none⟩) l0.length cap] 78 (0, 0)) from by rw [hw4]; exact blk_put BO.out 0 _ rfl); replace BM := aM (show w4.heap[gm]? = some (.cells #[.slice A0 l0.length c0] 27 (0, 0)) from by rw [hw4]; exact blk_far BM.out (fun e => (by have e' : gm = go := e; exact NM.out e')) _); replace HB := aM (show Below w.heap.size w w4 from by rw [hw4]; exact below_set HB.out GO.out); clear hw4 hco hfo; have hcm := (blk_cell BM.out 0).trans rfl; go_wp2_with fail; clear hcm; go_loopw [13] (fun v13 wr => ∃ a : Nat, a ≤ l0.length ∧ v13 = .int .i64 a ∧ Aside0 (Kd.R Kd.bool 4 wr w.heap.size (fun _ => True) (.slice (some ⟨gs, 0, none⟩) l0.length cap) (vrn l0 a (List.replicate l0.length false))) ∧ Aside0 (wr.heap[go]? = some (.cells #[.slice (some ⟨gs, 0, none⟩) l0.length cap] 78 (0, 0))) ∧ Aside0 (wr.heap[gm]? = some (.cells #[.slice A0 l0.length c0] 27 (0, 0))) ∧ Aside0 (Below w.heap.size w wr)) (fun v13 _ => l0.length - (intOf v13).toNat)
 case atStart => exact ⟨0, Nat.zero_le _, rfl, HO, BO, BM, HB⟩
 case round =>
  clear HO BO BM HB; obtain ⟨a, ha, rfl, HO, BO, BM, HB⟩ := hrel; by_cases hlt : a < l0.length
  ·have hcm := (blk_cell BM.out 0).trans rfl; go_wp2_with fail; clear hcm; go_loopw [18] (fun v18 wi => ∃ (x : Nat) (o : List Bool), x ≤ l0.length ∧ v18 = .int .i64 x ∧ Aside0 (o.length = l0.length) ∧ Aside0 (vgo (l0.drop x) x o = vrn l0 (a + 1) (List.replicate l0.length false)) ∧ Aside0 (Kd.R Kd.bool 4 wi w.heap.size (fun _ => True) (.slice (some ⟨gs, 0, none⟩) l0.length cap) (o)) ∧ Aside0 (wi.heap[go]? = some (.cells #[.slice (some ⟨gs, 0, none⟩) l0.length cap] 78 (0, 0))) ∧ Aside0 (wi.heap[gm]? = some (.cells #[.slice A0 l0.length c0] 27 (0, 0))) ∧ Aside0 (Below w.heap.size w wi)) (fun v18 _ => l0.length - (intOf v18).toNat)
   case atStart => exact ⟨0, vrn l0 a (List.replicate l0.length false), Nat.zero_le _, rfl, ⟨by rw [vrn_len, List.length_replicate]⟩, ⟨by rw [vrn_succ]; rfl⟩, HO, BO, BM, HB⟩
   case round =>
    clear HO BO BM HB; obtain ⟨x, o, hx, rfl, HOL, HV, HO, BO, BM, HB⟩ := hrel; by_cases hlx : x < l0.length
    ·obtain ⟨ad, A5, c5, hA, hx0, hl5, hC5⟩ := at_L1 HR0.out (x : Int) (by omega) (by omega); subst hA; have hx1 := pw_cell_below HB.out hx0; have hrow : rd_L1 l0 (x : Int) = l0[x] := by unfold rd_L1; rw [Int.toNat_natCast, List.getD_eq_getElem?_getD, List.getElem?_eq_getElem hlx]; rfl
     rw [hrow] at hx1 hl5 hC5; rw [Int.toNat_natCast] at hx1; have HC5 := aM (Kd.C_below hC5 HB.out); have HST := aM (vgo_step l0 x hlx o); have HIN := aM (HK.out.2.2 l0[x] (List.getElem_mem hlx)).2; clear hx0 hl5 hC5 hrow; generalize l0[x] = row at *; go_wp2_with fail; refine (impl_IsGrowing_cf 90 (.inl rfl) go gs cap l0.length HL1 o HOL.out _ (blk_lt BO.out) (Kd.R_lt HO.out gs rfl) ((blk_cell BO.out 0).trans rfl) (fun i hi => ?_) A5 c5 row HC5.out HIN.out).mono ?_
     ·have := (Kd.R_celln (enc := Value.bool) (h1 := fun _ => rfl) false HO.out (i : Int) (by omega) (by omega)).1
      rwa [Int.toNat_natCast] at this
     rintro e_ w5 ⟨rfl, q5, hw5⟩; replace HO := aM (show Kd.R Kd.bool 4 w5 w.heap.size (fun _ => True) (.slice (some ⟨gs, 0, none⟩) l0.length cap) o from by rw [hw5]; exact Kd.R_drewN HO.out _); replace BO := aM (show w5.heap[go]? = some (.cells #[.slice (some ⟨gs, 0, none⟩) l0.length cap] 78 (0, 0)) from by rw [hw5]; exact blk_drewN BO.out _); replace BM := aM (show w5.heap[gm]? = some (.cells #[.slice (some ad) l0.length c0] 27 (0, 0)) from by rw [hw5]; exact blk_drewN BM.out _); replace HB := aM (show Below w.heap.size w w5 from by rw [hw5]; exact pw_below_drewN HB.out _); clear hw5 hx1 HC5 HIN; generalize (row.any fun y => !o.getD y.toNat false) = b5 at *; cases b5 with
     | true =>
      go_wp2_with fail; go_roundw
      case rel => exact ⟨x + 1, o, by omega, by go_num, HOL, ⟨by rw [← HV.out, HST.out]; simp⟩, HO, BO, BM, HB⟩
      case measure => simp [intOf]; omega
     | false =>
      have hco := (blk_cell BO.out 0).trans rfl; obtain ⟨hxw, hfw⟩ := Kd.R_celln (enc := Value.bool) (h1 := fun _ => rfl) false HO.out (x : Int) (by omega) (by omega); rw [Int.toNat_natCast] at hxw hfw; go_wp2_with ((with_reducible refine gate_store (t := 4) (p := 29) rfl ?_); refine Aside0.out ?_); refine aM ?_; refine store_event (t := 4) (p := 29) (v := ?vo2) (w1 := (w5.setCell ⟨gs, x, none⟩ (.bool true))) ?hg ?ho ?hn ?hr ?_
      case ho => rfl
      case hg => rfl
      case hn => rfl
      case hr => first | (go_simp; done) | (go_simp; rfl)
      intro w6 hw6; have HP := (Kd.R_putg (enc := Value.bool) (h1 := fun _ => rfl) HO.out (x : Int) true).1; rw [Int.toNat_natCast] at HP; replace HO := aM (show Kd.R Kd.bool 4 w6 w.heap.size (fun _ => True) (.slice (some ⟨gs, 0, none⟩) l0.length cap) (o.set x true) from by rw [hw6]; exact HP); replace BO := aM (show w6.heap[go]? = some (.cells #[.slice (some ⟨gs, 0, none⟩) l0.length cap] 78 (0, 0)) from by rw [hw6]; exact blk_far BO.out NO.out _); replace BM := aM (show w6.heap[gm]? = some (.cells #[.slice (some ad) l0.length c0] 27 (0, 0)) from by rw [hw6]; exact blk_far BM.out (fun e => NS.out e.symm) _); replace HB := aM (show Below w.heap.size w w6 from by rw [hw6]; exact below_set HB.out GS.out); clear hw6 HP hco hxw hfw; go_wp2_with fail; go_roundw
      case rel => exact ⟨x + 1, o.set x true, by omega, by go_num, ⟨by rw [List.length_set]; exact HOL.out⟩, ⟨by rw [← HV.out, HST.out]; simp⟩, HO, BO, BM, HB⟩
      case measure => simp [intOf]; omega
    ·have hoe : o = vrn l0 (a + 1) (List.replicate l0.length false) := by
      rw [← HV.out, List.drop_eq_nil_of_le (by omega)]; rfl
     rw [hoe] at HO; clear hoe HV HOL; go_wp2_with fail; go_roundw
     case rel => exact ⟨a + 1, by omega, by go_num, HO, BO, BM, HB⟩
     case measure => simp [intOf]; omega
  ·obtain rfl : a = l0.length := by omega
   have hco := (blk_cell BO.out 0).trans rfl; go_wp2_with fail; go_ret; exact ⟨_, rfl, HO.out, HB.out⟩
def impl_IsGrowing.f (k : Nat) (l0_0 : List (List Int)) (a1 : Int) : Option Bool := (impl_IsMorphism.f k l0_0).bind fun t => if t = true ∧ 0 ≤ a1 ∧ a1 < (l0_0.length : Int) then (if grOk l0_0 then (if 2 ≤ (l0_0.getD a1.toNat []).length ∧ (l0_0.getD a1.toNat []).getD 0 0 = a1 then some (((l0_0.getD a1.toNat []).drop 1).any fun y => !(vanV l0_0).getD y.toNat false) else some false) else none) else some false
set_option maxHeartbeats 4000000 in
set_option maxRecDepth 100000 in
theorem impl_IsGrowing.calls (k : Nat) (A0_0 : Option Addr) (c0_0 : Nat) (l0_0 : List (List Int)) (a1 : Int) (r : Bool) (w : World) (hr0_0 : Kd.C (Kd.slice 3 (Kd.int .i64)) w A0_0 l0_0.length l0_0) (hc0_0 : l0_0.length ≤ c0_0) (h : impl_IsGrowing.f k l0_0 a1 = some r) :
  Calls Try.prog 59 #[.agg #[.slice A0_0 l0_0.length c0_0], .int .i64 a1] w fun e w' => e = .returned (.bool r) ∧ Below w.heap.size w w' := by
 have HR0 := aM hr0_0; have HC0 := aM hc0_0; clear hr0_0 hc0_0; unfold impl_IsGrowing.f at h; have h_ := Option.bind_eq_some_iff.mp h; clear h; obtain ⟨t, ht, h⟩ := h_; have HT := aM ht; have HH := aM h; clear ht h; have HB := aM (Below.refl w.heap.size w); go_enter Try.func59, Try.ntmps59; go_wp2_with ((with_reducible refine gate_dst (N := 2) rfl ?_); refine Aside0.out ?_); refine aM ?_; (try (refine gate_guard (by rfl) ?_; dsimp only)); refine box_event ?hg (N := 2) ?hd (cs := #[.slice A0_0 l0_0.length c0_0]) (t := 27) ?hr ?_
 case hd => rfl
 case hg => rfl
 case hr => first | (go_simp; done) | (go_simp; rfl)
 intro gm hg w1 hbox hb; have BM := aM hbox; replace HB := aM (below_step HB.out hb); clear hbox hb hg; have hcm := (blk_cell BM.out 0).trans rfl; go_wp2_with fail; refine (impl_IsMorphism.calls k A0_0 c0_0 l0_0 t w1 (Kd.C_below HR0.out HB.out) HC0.out HT.out).mono ?_; rintro e_ w2 ⟨rfl, hb2⟩; replace BM := aM (blk_below (g := gm) (o := .cells #[.slice A0_0 l0_0.length c0_0] 27 (0, 0)) BM.out hb2); replace HB := aM (below_step HB.out hb2); clear hb2 hcm; have hcm := (blk_cell BM.out 0).trans rfl; by_cases hp : t = true ∧ 0 ≤ a1 ∧ a1 < (l0_0.length : Int); rotate_left
 ·have hr : false = r := by
   have h := HH.out; rw [if_neg hp] at h; exact Option.some.inj h
  subst hr; clear HH HT; cases t with
  | false =>
   go_wp2_with fail; go_ret; exact ⟨rfl, HB.out⟩
  | true =>
   by_cases h0 : a1 < 0
   ·have d0 : decide (a1 < 0) = true := decide_eq_true h0; go_wp2_with fail; go_ret; exact ⟨rfl, HB.out⟩
   ·have h1 : (l0_0.length : Int) ≤ a1 := by
     by_cases q : (l0_0.length : Int) ≤ a1
     ·exact q
     ·exact absurd ⟨rfl, by omega, by omega⟩ hp
    have d0 : decide (a1 < 0) = false := decide_eq_false h0; have d1 : decide ((l0_0.length : Int) ≤ a1) = true := decide_eq_true h1; clear hp; go_wp2_with fail; go_ret; exact ⟨rfl, HB.out⟩
 ·obtain ⟨rfl, h0, h1⟩ := hp; have h := HH.out; rw [if_pos ⟨rfl, h0, h1⟩] at h; obtain ⟨a, rfl⟩ : ∃ a : Nat, a1 = (a : Int) := ⟨a1.toNat, by omega⟩; have hla : a < l0_0.length := by omega
  have d0 : decide ((a : Int) < 0) = false := by simp
  have d1 : decide ((l0_0.length : Int) ≤ (a : Int)) = false := by simp; omega
  by_cases hg : grOk l0_0; rotate_left; (rw [if_neg hg] at h; cases h); rw [if_pos hg, Int.toNat_natCast, List.getD_eq_getElem?_getD, List.getElem?_eq_getElem hla, Option.getD_some] at h; obtain ⟨ad, A5, c5, hA, hx0, hl5, hC5⟩ := at_L1 HR0.out (a : Int) (by omega) (by omega); subst hA; have hx1 := pw_cell_below HB.out hx0; have hrow : rd_L1 l0_0 (a : Int) = l0_0[a] := by unfold rd_L1; rw [Int.toNat_natCast, List.getD_eq_getElem?_getD, List.getElem?_eq_getElem hla]; rfl
  rw [hrow] at hx1 hl5 hC5; rw [Int.toNat_natCast] at hx1; have HCW := aM hC5; have HC5 := aM (Kd.C_below hC5 HB.out); have HL5 := aM hl5; have HIN := aM (hg.2.2 l0_0[a] (List.getElem_mem hla)).2; have HG := aM hg; clear hx0 hl5 hC5 hrow hg HH HT; generalize l0_0[a] = row at *; have HF := aM h; clear h; by_cases h2 : 2 ≤ row.length; rotate_left
  ·have hr : false = r := by
    have h := HF.out; rw [if_neg (fun q => h2 q.1)] at h; exact Option.some.inj h
   subst hr; have d2 : decide ((row.length : Int) < 2) = true := decide_eq_true (by omega); go_wp2_with fail; go_ret; exact ⟨rfl, HB.out⟩
  have d2 : decide ((row.length : Int) < 2) = false := decide_eq_false (by omega); obtain ⟨ad5, e5, hx5⟩ := Kd.at_int HC5.out 0 (by omega) (by omega); subst e5; have e0 : rd row 0 = row.getD 0 0 := by simp [rd]
  rw [e0, show ((0 : Int)).toNat = 0 from rfl, Addr.add_zero'] at hx5; by_cases h3 : row.getD 0 0 = (a : Int); rotate_left
  ·have hr : false = r := by
    have h := HF.out; rw [if_neg (fun q => h3 q.2)] at h; exact Option.some.inj h
   subst hr; have d3 : (row.getD 0 0 != (a : Int)) = true := bne_iff_ne.mpr h3; generalize row.getD 0 0 = y0 at *; go_wp2_with fail; go_ret; exact ⟨rfl, HB.out⟩
  have d3 : ((row.getD 0 0) != (a : Int)) = false := bne_eq_false_iff_eq.mpr h3; have hr : ((row.drop 1).any fun y => !(vanV l0_0).getD y.toNat false) = r := by
   have h := HF.out; rw [if_pos ⟨h2, h3⟩] at h; exact Option.some.inj h
  have HRR := aM hr; rw [h3] at hx5 d3; clear hr HF e0 h3; go_wp2_with fail; refine (impl_IsGrowing_van (some ad) c0_0 l0_0 w2 (Kd.C_below HR0.out HB.out) HC0.out HG.out).mono ?_; rintro e_ w3 ⟨v37, rfl, ho3, hb3⟩; have hvl : (vanV l0_0).length = l0_0.length := by unfold vanV; rw [vrn_len, List.length_replicate]
  have HV := aM hvl; obtain ⟨gs, cap, rfl, hs1, hs2, cells9, hs3⟩ := Kd.R_form ho3 (by omega); rw [hvl] at ho3 ⊢; have HO := aM ho3; have HS2 := aM hs2; replace BM := aM (blk_below (g := gm) (o := .cells #[.slice (some ad) l0_0.length c0_0] 27 (0, 0)) BM.out hb3); replace HB := aM (below_step HB.out hb3); replace HC5 := aM (Kd.C_below HC5.out hb3); clear ho3 hb3 hs1 hs2 hs3 hx1 hx5 hcm; go_wp2_with ((with_reducible refine gate_dst (N := 6) rfl ?_); refine Aside0.out ?_); refine aM ?_; refine box_event ?hg2 (N := 6) ?hd2 (cs := #[.slice none 0 0]) (t := 78) ?hr2 ?_
  case hd2 => rfl
  case hg2 => rfl
  case hr2 => first | (go_simp; done) | (go_simp; rfl)
  intro go hg w4 hbox hb; have BO := aM hbox; have GO := aM (show w.heap.size ≤ go by rw [hg]; exact HB.out.size); have NO := aM (show go ≠ gs from fun e => by have := HS2.out; omega); have GSB := aM (show gs < w4.heap.size from Nat.lt_of_lt_of_le HS2.out hb.size); replace HO := aM (Kd.R_below HO.out hb); replace HB := aM (below_step HB.out hb); replace HC5 := aM (Kd.C_below HC5.out hb); clear hbox hb hg HS2 BM; have hco := (blk_cell BO.out 0).trans rfl; have hfo := blk_frozen BO.out 0; go_wp2_with ((with_reducible refine gate_store (t := 78) (p := 6) rfl ?_); refine Aside0.out ?_); refine aM ?_; refine store_event (t := 78) (p := 6) (v := ?vo) (w1 := (w4.setCell ⟨go, 0, none⟩ (.slice (some ⟨gs, 0, none⟩) l0_0.length cap))) ?hg3 ?ho3 ?hn3 ?hr3 ?_
  case ho3 => rfl
  case hg3 => rfl
  case hn3 => rfl
  case hr3 => first | (go_simp; done) | (go_simp; rfl)
  intro w5 hw5; have hne : some go ≠ (Value.slice (some ⟨gs, 0, none⟩) l0_0.length cap).ownBlock := fun e => NO.out (Option.some.inj (show some go = some gs from e))
  replace HO := aM (show Kd.R Kd.bool 4 w5 w2.heap.size (fun _ => True) (.slice (some ⟨gs, 0, none⟩) l0_0.length cap) (vanV l0_0) from by
   rw [hw5]; exact Kd.R_mono (Kd.R_far (Kd.R_far1 HO.out rfl hne) (fun k hk => hk.2) _) (fun _ _ => trivial))
  replace BO := aM (show w5.heap[go]? = some (.cells #[.slice (some ⟨gs, 0, none⟩) l0_0.length cap] 78 (0, 0)) from by rw [hw5]; exact blk_put BO.out 0 _ rfl); replace HB := aM (show Below w.heap.size w w5 from by rw [hw5]; exact below_set HB.out GO.out); replace HC5 := aM (Kd.C_below HCW.out HB.out); clear hw5 hne hco hfo; obtain ⟨i031, hi031, _, hsz31, _⟩ := info_parts info3; have hcut := cut_from (P := Try.prog) 31 3 .i64 Try.underlying31 hi031 1 hsz31 (some ad5) row.length c5 1 (by omega) (by omega); have hC6 := Kd.C_drop (m := 1) (c := c5) HC5.out (by omega) HL5.out; rw [show ((1 : Int)).toNat = 1 from rfl, show row.length - 1 = (row.drop 1).length by rw [List.length_drop]] at hcut; have HIN6 := aM (fun y hy => HIN.out y (List.mem_of_mem_drop (i := 1) hy)); replace hC6 : (Kd.int .i64).C w5 (if c5 = 1 then some ad5 else (some ad5).map (·.add (1 * 1))) (row.drop 1).length (row.drop 1) := hC6; generalize (if c5 = 1 then some ad5 else (some ad5).map (·.add (1 * 1))) = A6 at hcut hC6; have HC6 := aM hC6; clear hC6 hi031 hsz31; generalize row.drop 1 = tl at *; go_wp2_with fail; refine (impl_IsGrowing_cf 78 (.inr rfl) go gs cap l0_0.length HG.out.1 (vanV l0_0) HV.out _ (blk_lt BO.out) (Kd.R_lt HO.out gs rfl) ((blk_cell BO.out 0).trans rfl) (fun i hi => ?_) A6 (c5 - 1) tl HC6.out HIN6.out).mono ?_
  ·have := (Kd.R_celln (enc := Value.bool) (h1 := fun _ => rfl) false HO.out (i : Int) (by omega) (by omega)).1
   rwa [Int.toNat_natCast] at this
  rintro e_ w6 ⟨rfl, q6, rfl⟩; rw [HRR.out]; go_wp2_with fail; go_ret; exact ⟨rfl, pw_below_drewN HB.out _⟩
end Go.Proofs.Ytdekenijnbhpfaa.M
/- Letters that vanish, growing letters, fixed words: program and reference tell the same. No condition but sizes. -/
namespace Go.Proofs.Ytdekenijnbhpfaa.M
open Go.RowKit Go.Proofs.YtdekenijnbhpfaaW.PrintWords Go.Proofs.Ytdekenijnbhpfaa.K
set_option linter.unusedVariables false
set_option linter.unusedSimpArgs false
def rw_ (im : List (List Int)) (y : Nat) : List Int := im.getD y []
/-- After k steps nothing is left of the letter y. -/
def emp (im : List (List Int)) : Nat → Nat → Bool
 | 0, _ => false
 | k + 1, y => (rw_ im y).all fun z => emp im k z.toNat
theorem emp_up (im : List (List Int)) : ∀ k y, emp im k y = true → emp im (k + 1) y = true
 | 0, y, h => by cases h
 | k + 1, y, h => by
  simp only [emp, List.all_eq_true] at h ⊢; exact fun z hz => by have := emp_up im k z.toNat (h z hz); simpa only [emp, List.all_eq_true] using this
theorem emp_le (im : List (List Int)) {k j : Nat} (h : k ≤ j) (y : Nat) (e : emp im k y = true) : emp im j y = true := by
 induction j with
 | zero =>
  obtain rfl : k = 0 := by omega
  exact e
 | succ j ih =>
  by_cases q : k = j + 1
  ·subst q; exact e
  ·exact emp_up im j y (ih (by omega))
def inN (im : List (List Int)) : Prop := ∀ r ∈ im, ∀ y ∈ r, 0 ≤ y ∧ y < (im.length : Int)
theorem rw_in {im : List (List Int)} (h : inN im) (y : Nat) : ∀ z ∈ rw_ im y, z.toNat < im.length := by
 intro z hz; unfold rw_ at hz; by_cases q : y < im.length
 ·rw [List.getD_eq_getElem?_getD, List.getElem?_eq_getElem q] at hz; have := h _ (List.getElem_mem q) z hz; omega
 ·rw [List.getD_eq_getElem?_getD, List.getElem?_eq_none (by omega)] at hz; cases hz
def stab (im : List (List Int)) (k : Nat) : Prop := ∀ y, y < im.length → emp im (k + 1) y = true → emp im k y = true
theorem stab_up {im : List (List Int)} (hin : inN im) {k : Nat} (h : stab im k) : stab im (k + 1) := by
 intro y hy e; simp only [emp, List.all_eq_true] at e ⊢; exact fun z hz => h z.toNat (rw_in hin y z hz) (by simpa only [emp, List.all_eq_true] using e z hz)
theorem stab_le {im : List (List Int)} (hin : inN im) {k : Nat} (h : stab im k) : ∀ d, stab im (k + d)
 | 0 => h
 | d + 1 => stab_up hin (stab_le hin h d)
theorem stab_all {im : List (List Int)} (hin : inN im) {k : Nat} (h : stab im k) (y : Nat) (hy : y < im.length) : ∀ d, emp im (k + d) y = true → emp im k y = true
 | 0, e => e
 | d + 1, e => stab_all hin h y hy d (stab_le hin h d y hy e)
theorem countP_lt' {α : Type} (p q : α → Bool) : ∀ (l : List α), (∀ x ∈ l, p x = true → q x = true) → (∃ x ∈ l, q x = true ∧ p x = false) → l.countP p < l.countP q
 | [], _, h => by obtain ⟨x, hx, _⟩ := h; cases hx
 | a :: l, h1, h2 => by
  have hle : l.countP p ≤ l.countP q := List.countP_mono_left (fun x hx => h1 x (List.mem_cons_of_mem _ hx)); rw [List.countP_cons, List.countP_cons]; obtain ⟨x, hx, hq, hp⟩ := h2; rcases List.mem_cons.1 hx with rfl | hx
  ·rw [hq, hp]; simp; omega
  ·have := countP_lt' p q l (fun x hx => h1 x (List.mem_cons_of_mem _ hx)) ⟨x, hx, hq, hp⟩; by_cases pa : p a = true
   ·rw [pa, h1 a (List.mem_cons_self ..) pa]; omega
   ·rw [_root_.if_neg pa]; split <;> omega
theorem stab_n {im : List (List Int)} (hin : inN im) : stab im im.length := by
 have key : ∀ k, (∃ j, j ≤ k ∧ stab im j) ∨ k + 1 ≤ (List.range im.length).countP (emp im (k + 1)) := by
  intro k
  induction k with
  | zero =>
   by_cases q : stab im 0
   ·exact .inl ⟨0, Nat.le_refl _, q⟩
   ·refine .inr ?_; unfold stab at q; simp only [Classical.not_forall] at q; obtain ⟨y, hy, e1, _⟩ := q; exact List.countP_pos_iff.2 ⟨y, List.mem_range.2 hy, e1⟩
  | succ k ih =>
   rcases ih with ⟨j, hj, hs⟩ | ih
   ·exact .inl ⟨j, by omega, hs⟩
   ·by_cases q : stab im (k + 1)
    ·exact .inl ⟨k + 1, Nat.le_refl _, q⟩
    ·refine .inr ?_; have q' := q; unfold stab at q'; simp only [Classical.not_forall] at q'; obtain ⟨y, hy, e1, e2⟩ := q'; have := countP_lt' (emp im (k + 1)) (emp im (k + 1 + 1)) (List.range im.length) (fun x _ h => emp_up im _ x h) ⟨y, List.mem_range.2 hy, e1, by simpa using e2⟩; omega
 rcases key im.length with ⟨j, hj, hs⟩ | h
 ·obtain ⟨d, hd⟩ : ∃ d, im.length = j + d := ⟨im.length - j, by omega⟩; have := stab_le hin hs d; rw [← hd] at this; exact this
 ·have := List.countP_le_length (p := emp im (im.length + 1)) (l := List.range im.length); rw [List.length_range] at this; omega
theorem emp_n {im : List (List Int)} (hin : inN im) {k : Nat} {y : Nat} (hy : y < im.length) (e : emp im k y = true) : emp im im.length y = true := by
 by_cases q : k ≤ im.length
 ·exact emp_le im q y e
 ·obtain ⟨d, hd⟩ : ∃ d, k = im.length + d := ⟨k - im.length, by omega⟩; rw [hd] at e; exact stab_all hin (stab_n hin) y hy d e
/-! The program's marks. -/
theorem vgo_mono : ∀ (im : List (List Int)) (x : Nat) (o : List Bool) (y : Nat), o.getD y false = true → (vgo im x o).getD y false = true
 | [], _, _, _, h => h
 | r :: rs, x, o, y, h => by
  rw [vgo]; refine vgo_mono rs (x + 1) _ y ?_; split
  ·exact h
  ·rw [List.getD_eq_getElem?_getD, List.getElem?_set]; by_cases q : x = y
   ·subst q; by_cases l : x < o.length
    ·simp [l]
    ·rw [List.getD_eq_getElem?_getD, List.getElem?_eq_none (by omega)] at h; cases h
   ·rw [_root_.if_neg q, ← List.getD_eq_getElem?_getD]; exact h
def sound (im : List (List Int)) (o : List Bool) : Prop := ∀ y, o.getD y false = true → ∃ k, emp im k y = true
def compl (im : List (List Int)) (r : Nat) (o : List Bool) : Prop := ∀ y, y < im.length → emp im r y = true → o.getD y false = true
theorem sound_bound {im : List (List Int)} {o : List Bool} (h : sound im o) : ∀ (l : List Int), (∀ z ∈ l, o.getD z.toNat false = true) → ∃ k, ∀ z ∈ l, emp im k z.toNat = true
 | [], _ => ⟨0, fun z hz => by cases hz⟩
 | a :: l, hl => by
  obtain ⟨k1, h1⟩ := h a.toNat (hl a (List.mem_cons_self ..)); obtain ⟨k2, h2⟩ := sound_bound h l (fun z hz => hl z (List.mem_cons_of_mem _ hz)); refine ⟨max k1 k2, fun z hz => ?_⟩; rcases List.mem_cons.1 hz with rfl | hz
  ·exact emp_le im (Nat.le_max_left ..) _ h1
  ·exact emp_le im (Nat.le_max_right ..) _ (h2 z hz)
theorem any_no {l : List Int} {o : List Bool} (h : ¬ (l.any fun y => !o.getD y.toNat false) = true) : ∀ z ∈ l, o.getD z.toNat false = true := by
 intro z hz; by_cases q : o.getD z.toNat false = true
 ·exact q
 ·exact absurd (List.any_eq_true.2 ⟨z, hz, by simp at q; simp [q]⟩) h
theorem vgo_sound (im : List (List Int)) : ∀ (d x : Nat) (o : List Bool), x + d = im.length → sound im o → sound im (vgo (im.drop x) x o) := by
 intro d
 induction d with
 | zero => intro x o hx h; rw [List.drop_eq_nil_of_le (by omega)]; exact h
 | succ d ih =>
  intro x o hx h; rw [vgo_step im x (by omega)]; refine ih (x + 1) _ (by omega) ?_; split
  ·exact h
  ·rename_i q; intro y hy; rw [List.getD_eq_getElem?_getD, List.getElem?_set] at hy; by_cases e : x = y
   ·subst e; obtain ⟨k, hk⟩ := sound_bound h im[x] (any_no q); refine ⟨k + 1, ?_⟩; simp only [emp, List.all_eq_true]; intro z hz; unfold rw_ at hz; rw [List.getD_eq_getElem?_getD, List.getElem?_eq_getElem (by omega)] at hz; exact hk z hz
   ·rw [_root_.if_neg e, ← List.getD_eq_getElem?_getD] at hy; exact h y hy
theorem vgo_compl (im : List (List Int)) (hin : inN im) (r : Nat) : ∀ (d x : Nat) (o : List Bool), x + d = im.length → o.length = im.length → compl im r o → ∀ y, x ≤ y → y < im.length → emp im (r + 1) y = true → (vgo (im.drop x) x o).getD y false = true := by
 intro d
 induction d with
 | zero => intro x o hx _ _ y h1 h2; omega
 | succ d ih =>
  intro x o hx hl h y h1 h2 e; rw [vgo_step im x (by omega)]; by_cases q : y = x
  ·subst q; have ha : ¬ (im[y].any fun z => !o.getD z.toNat false) = true := by
    rw [List.any_eq_true]; rintro ⟨z, hz, hz2⟩; simp only [emp, List.all_eq_true] at e; have hz' : z ∈ rw_ im y := by unfold rw_; rw [List.getD_eq_getElem?_getD, List.getElem?_eq_getElem h2]; exact hz
    have := h z.toNat (rw_in hin y z hz') (e z hz'); rw [this] at hz2; cases hz2
   rw [_root_.if_neg ha]; refine vgo_mono _ _ _ y ?_; rw [List.getD_eq_getElem?_getD, List.getElem?_set_self (by omega)]; rfl
  ·refine ih (x + 1) _ (by omega) (by split <;> simp [hl]) ?_ y (by omega) h2 e; intro z hz ez; have := h z hz ez; split
   ·exact this
   ·rw [List.getD_eq_getElem?_getD, List.getElem?_set]; by_cases c : x = z
    ·subst c; rw [_root_.if_pos rfl, _root_.if_pos (by omega)]; rfl
    ·rw [_root_.if_neg c, ← List.getD_eq_getElem?_getD]; exact this
theorem vrn_spec (im : List (List Int)) (hin : inN im) : ∀ (n : Nat), sound im (vrn im n (List.replicate im.length false)) ∧ compl im n (vrn im n (List.replicate im.length false))
 | 0 => by
  refine ⟨fun y hy => ?_, fun y _ e => by cases e⟩; simp only [vrn] at hy; rw [List.getD_eq_getElem?_getD, List.getElem?_replicate] at hy; split at hy <;> cases hy
 | n + 1 => by
  obtain ⟨h1, h2⟩ := vrn_spec im hin n; rw [vrn_succ]; have s := vgo_sound im im.length 0 _ (by omega) h1; have c := fun y hy e => vgo_compl im hin n im.length 0 _ (by omega) (by rw [vrn_len, List.length_replicate]) h2 y (Nat.zero_le _) hy e
  rw [List.drop_zero] at s c; exact ⟨s, c⟩
theorem vanV_spec (im : List (List Int)) (hin : inN im) (y : Nat) (hy : y < im.length) : (vanV im).getD y false = emp im im.length y := by
 obtain ⟨h1, h2⟩ := vrn_spec im hin im.length; have a : (vanV im).getD y false = true → emp im im.length y = true := fun h => by obtain ⟨k, hk⟩ := h1 y h; exact emp_n hin hy hk
 have b : emp im im.length y = true → (vanV im).getD y false = true := h2 y hy; cases c : (vanV im).getD y false <;> cases d : emp im im.length y <;> simp_all
theorem mo_in {im : List (List Int)} (h : mo im = true) : inN im ∧ grOk im := by
 unfold mo isL at h; simp only [Bool.and_eq_true, decide_eq_true_eq, List.all_eq_true] at h; exact ⟨fun r hr y hy => (h.2 r hr).2 y hy, h.1.1, h.1.2, fun r hr => ⟨(h.2 r hr).1, (h.2 r hr).2⟩⟩
/-- Is the letter a growing one. -/
noncomputable def gr (im : List (List Int)) (a : Int) : Bool := mo im && (decide (0 ≤ a ∧ a < (im.length : Int)) && (decide (2 ≤ (rw_ im a.toNat).length ∧ (rw_ im a.toNat).getD 0 0 = a) && ((rw_ im a.toNat).drop 1).any fun y => !emp im im.length y.toNat))
theorem implGr_ev (im : List (List Int)) (a : Int) (h : im.length ≤ 1048576) (ht : total im ≤ 1048576) : Ev (fun k => impl_IsGrowing.f k im a) (gr im a) := by
 unfold impl_IsGrowing.f gr; refine Ev.bind (implIsMorphism_ev im h ht) ?_; cases hm : mo im with
 | false => exact Ev.if_neg (by simp) (Ev.some _)
 | true =>
  obtain ⟨hin, hg⟩ := mo_in hm; rw [Bool.true_and]; by_cases c : 0 ≤ a ∧ a < (im.length : Int)
  ·refine Ev.if_pos ⟨rfl, c⟩ (Ev.if_pos hg ?_); rw [decide_eq_true c, Bool.true_and]; have e : im.getD a.toNat [] = rw_ im a.toNat := rfl; rw [e]; refine Ev.ite (fun d => ?_) (fun d => ?_)
   ·rw [decide_eq_true d, Bool.true_and]; refine Ev.same (Ev.some _) (any_congr' _ _ _ (fun y hy => ?_)); rw [vanV_spec im hin _ (rw_in hin _ y (List.mem_of_mem_drop hy))]
   ·rw [decide_eq_false d]; exact Ev.some _
  ·rw [decide_eq_false c]; exact Ev.if_neg (fun q => c q.2) (Ev.some _)
end Go.Proofs.Ytdekenijnbhpfaa.M
namespace Go.Proofs.Ytdekenijnbhpfaa.M
open Go.RowKit Go.Proofs.Ytdekenijnbhpfaa.KW Go.Proofs.YtdekenijnbhpfaaW.PrintWords Go.Proofs.YtdekenijnbhpfaaW.PrintLast Go.Proofs.YtdekenijnbhpfaaW.PrintMore
attribute [local go_sem] max2_int min2_int max_two min_two max_three min_three max_four min_four
set_option linter.unusedVariables false
set_option linter.unusedSimpArgs false
def spec_l4Has.l0 : Nat → List Int → Int → Int → Option (Bool)
 | 0, _, _, _ => none
 | k + 1, x0, x1, x5 => if x5 < (x0.length : Int) then (if 0 ≤ x5 then (if (rd x0 x5) = x1 then (some true) else (spec_l4Has.l0 k x0 x1 (wrap64 (x5 + 1)))) else (none)) else (some false)
def spec_l4Has.f (k : Nat) (l0 : List Int) (a1 : Int) : Option (Bool) := spec_l4Has.l0 k l0 a1 0
set_option maxHeartbeats 8000000 in
set_option maxRecDepth 100000 in
theorem spec_l4Has.calls (k : Nat) (A0 : Option Addr) (c0 : Nat) (l0 : List Int) (a1 : Int) (r : Bool) (w : World) (hr0 : Kd.C (Kd.int .i64) w A0 l0.length l0) (hc0 : l0.length ≤ c0) (h : spec_l4Has.f k l0 a1 = some r) :
  Calls Try.prog 54 #[.slice A0 l0.length c0, .int .i64 a1] w fun e w' => e = .returned (.bool r) ∧ Drawn0 w w' := by
 have HR0 := aM hr0; have HC0 := aM hc0; clear hr0 hc0; have H : (spec_l4Has.l0 k l0 a1 0) = some r := h; clear h; have H' := aM H; clear H; go_enter Try.func54, Try.ntmps54; go_wp2; go_loopg [5] k (fun kq v5 w' => ∃ (x5_1 : Int), v5 = .int .i64 x5_1 ∧ Aside0 (spec_l4Has.l0 kq l0 a1 x5_1 = some r) ∧ Aside0 (kq ≤ k) ∧ Drawn0 w w')
 case atStart => exact ⟨(0), (by first | rfl | (simp; done) | (simp [*]; done)), H', ⟨Nat.le_refl _⟩, by repeat (first | exact Drawn0.refl _ | apply Drawn0.step)⟩
 case round =>
  clear H'
  try clear p2
  obtain ⟨x5_1, rfl, HA, HK1, ⟨m1, rfl⟩⟩ := hrel; cases gk with
  | zero => exact absurd HA.out (by simp [spec_l4Has.l0])
  | succ k1 =>
   have H := HA.out; clear HA; simp only [spec_l4Has.l0] at H; by_cases c3 : x5_1 < (l0.length : Int)
   ·rw [if_pos c3] at H; have c3b0 : decide (x5_1 < (l0.length : Int)) = true := decide_eq_true c3; clear c3; by_cases c4 : 0 ≤ x5_1
    ·rw [if_pos c4] at H; have c4b0 : decide (0 ≤ x5_1) = true := decide_eq_true c4; clear c4; by_cases c5 : (rd l0 x5_1) = a1
     ·rw [if_pos c5] at H; have c5b0 : ((rd l0 x5_1) == a1) = true := beq_iff_eq.mpr c5; have c5b1 : ((rd l0 x5_1) != a1) = false := bne_eq_false_iff_eq.mpr c5; clear c5; obtain rfl := Option.some.inj H; have p117 : 0 ≤ (x5_1 : Int) := oD; have q117 : x5_1 < (l0.length : Int) := oD; obtain ⟨ad117, e117, hx117_0⟩ := Kd.at_int HR0.out x5_1 p117 q117; cases e117; replace p117 := eq_true p117; replace q117 := eq_true q117; go_wp2; go_ret; exact ⟨by first | rfl | (simp; done) | (simp [*]; done), by repeat (first | exact Drawn0.refl _ | apply Drawn0.step)⟩
     ·rw [if_neg c5] at H; have c5b0 : ((rd l0 x5_1) == a1) = false := beq_eq_false_iff_ne.mpr c5; have c5b1 : ((rd l0 x5_1) != a1) = true := bne_iff_ne.mpr c5; have H' := aM H; clear H; have p117 : 0 ≤ (x5_1 : Int) := oD; have q117 : x5_1 < (l0.length : Int) := oD; obtain ⟨ad117, e117, hx117_0⟩ := Kd.at_int HR0.out x5_1 p117 q117; cases e117; replace p117 := eq_true p117; replace q117 := eq_true q117; go_wp2; go_roundg k1
      case measure => have := HK1.out; omega
      case rel => exact ⟨(wrap64 (x5_1 + 1)), (by first | rfl | (simp; done) | (simp [*]; done)), H', ⟨by have := HK1.out; omega⟩, by repeat (first | exact Drawn0.refl _ | apply Drawn0.step)⟩
    ·rw [if_neg c4] at H; exact absurd H (by simp)
   ·rw [if_neg c3] at H; have c3b0 : decide (x5_1 < (l0.length : Int)) = false := decide_eq_false c3; clear c3; obtain rfl := Option.some.inj H; go_wp2; go_ret; exact ⟨by first | rfl | (simp; done) | (simp [*]; done), by repeat (first | exact Drawn0.refl _ | apply Drawn0.step)⟩
mutual
def spec_IsGrowing.j0 : Nat → Int → Bool → List (List Int) → Option (Bool)
 | 0, _, _, _ => none
 | k + 1, x1, x43, x119000 => if x43 = true then (some false) else (if 0 ≤ x1 then (if x1 < (x119000.length : Int) then (if 1 ≤ ((rd_L1 x119000 x1).length : Int) then (spec_IsGrowing.l0 k ((rd_L1 x119000 x1).drop 1) 0 x119000) else (none)) else (none)) else (none))
def spec_IsGrowing.l0 : Nat → List Int → Int → List (List Int) → Option (Bool)
 | 0, _, _, _ => none
 | k + 1, x5, x6, x119000 => if x6 ≤ (x119000.length : Int) then (spec_IsGrowing.l1 k x5 x6 (([] : List Int)) 0 x119000) else (some (decide ((x5.length : Int) > 0)))
def spec_IsGrowing.l1 : Nat → List Int → Int → List Int → Int → List (List Int) → Option (Bool)
 | 0, _, _, _, _, _ => none
 | k + 1, x5, x6, x7, x8, x119000 => if x8 < (x5.length : Int) then (spec_IsGrowing.l2 k x5 x6 x7 x8 0 x119000) else (spec_IsGrowing.l0 k x7 (wrap64 (x6 + 1)) x119000)
def spec_IsGrowing.l2 : Nat → List Int → Int → List Int → Int → Int → List (List Int) → Option (Bool)
 | 0, _, _, _, _, _, _ => none
 | k + 1, x5, x6, x7, x8, x9, x119000 => if 0 ≤ x8 then (if x8 < (x5.length : Int) then (if 0 ≤ (rd x5 x8) then (if (rd x5 x8) < (x119000.length : Int) then (if x9 < ((rd_L1 x119000 (rd x5 x8)).length : Int) then (if 0 ≤ x9 then ((spec_l4Has.f k x7 (rd (rd_L1 x119000 (rd x5 x8)) x9)).bind fun t137 => (if t137 = true then (spec_IsGrowing.l2 k x5 x6 x7 x8 (wrap64 (x9 + 1)) x119000) else (if x7.length < 17592186044416 then (spec_IsGrowing.l2 k x5 x6 (x7 ++ [rd (rd_L1 x119000 (rd x5 x8)) x9]) x8 (wrap64 (x9 + 1)) x119000) else (none)))) else (none)) else (spec_IsGrowing.l1 k x5 x6 x7 (wrap64 (x8 + 1)) x119000)) else (none)) else (none)) else (none)) else (none)
end
def spec_IsGrowing.f (k : Nat) (l0_0 : List (List Int)) (a1 : Int) : Option (Bool) := (spec_IsMorphism.f k l0_0).bind fun t119 => (if t119 = true then (if a1 < 0 then (spec_IsGrowing.j0 k a1 true l0_0) else (if a1 ≥ (l0_0.length : Int) then (spec_IsGrowing.j0 k a1 true l0_0) else (if 0 ≤ a1 then (if a1 < (l0_0.length : Int) then (if ((rd_L1 l0_0 a1).length : Int) < 2 then (spec_IsGrowing.j0 k a1 true l0_0) else (if 0 < ((rd_L1 l0_0 a1).length : Int) then (spec_IsGrowing.j0 k a1 ((rd (rd_L1 l0_0 a1) 0) != a1) l0_0) else (none))) else (none)) else (none)))) else (spec_IsGrowing.j0 k a1 true l0_0))
def spec_IsGrowing.T12 : Bool × List (List Nat × List Nat) := (true, [([], []), ([], []), ([1], [1]), ([], []), ([], []), ([3, 4], [3, 4]), ([5], [5]), ([2, 6], [2, 6]), ([7], [7]), ([8], [8]), ([0, 9], [0, 9])])
def spec_IsGrowing.B12 : List Nat := [0, 0, 2, 0, 0, 24, 56, 126, 254, 510, 1023]
theorem spec_IsGrowing.tab12 : rtab .any (opsOf Try.f53 12) = spec_IsGrowing.T12 := by kernel_rfl
theorem spec_IsGrowing.bits12 : waitsOk spec_IsGrowing.T12.2 spec_IsGrowing.B12 = true := by kernel_rfl
def spec_IsGrowing.T14 : Bool × List (List Nat × List Nat) := (true, [([], []), ([], []), ([1], [1]), ([], []), ([], []), ([3, 4], [3, 4]), ([5], [5]), ([2, 6], [2, 6]), ([7], [7]), ([], []), ([8, 9], [8, 9]), ([10], [10]), ([0, 11], [0, 11]), ([12], [12])])
def spec_IsGrowing.B14 : List Nat := [0, 0, 2, 0, 0, 24, 56, 126, 254, 0, 1022, 2046, 4095, 8191]
theorem spec_IsGrowing.tab14 : rtab .any (opsOf Try.f53 14) = spec_IsGrowing.T14 := by kernel_rfl
theorem spec_IsGrowing.bits14 : waitsOk spec_IsGrowing.T14.2 spec_IsGrowing.B14 = true := by kernel_rfl
def spec_IsGrowing.T15 : Bool × List (List Nat × List Nat) := (true, [([], []), ([], []), ([1], [1]), ([], []), ([], []), ([3, 4], [3, 4]), ([5], [5]), ([2, 6], [2, 6]), ([7], [7]), ([], []), ([8, 9], [8, 9]), ([10], [10]), ([11], [11]), ([0, 12], [0, 12]), ([13, 13, 0, 1, 2, 3, 4, 5, 6, 7, 8, 9, 10, 11, 12, 13], [0, 13])])
def spec_IsGrowing.B15 : List Nat := [0, 0, 2, 0, 0, 24, 56, 126, 254, 0, 1022, 2046, 4094, 8191, 16383]
theorem spec_IsGrowing.tab15 : rtab .any (opsOf Try.f53 15) = spec_IsGrowing.T15 := by kernel_rfl
theorem spec_IsGrowing.bits15 : waitsOk spec_IsGrowing.T15.2 spec_IsGrowing.B15 = true := by kernel_rfl
set_option maxHeartbeats 8000000 in
set_option maxRecDepth 100000 in
theorem spec_IsGrowing.calls (k : Nat) (P0_0_ : Nat → Prop) (A0_0 : Option Addr) (c0_0 : Nat) (l0_0 : List (List Int)) (a1 : Int) (r : Bool) (w : World) (hs0_0 : Kd.V (Kd.slice 3 (Kd.int .i64)) 31 w w.heap.size (fun k_ => P0_0_ k_) (.slice A0_0 l0_0.length c0_0) l0_0) (h : spec_IsGrowing.f k l0_0 a1 = some r) :
  Calls Try.prog 53 #[.agg #[.slice A0_0 l0_0.length c0_0], .int .i64 a1] w fun e w' => e = .returned (.bool r) ∧ Below w.heap.size w w' := by
 have hu27 := Try.underlying27; have HO0_0 := aM (show Kd.V (Kd.slice 3 (Kd.int .i64)) 31 w w.heap.size (fun k_ => (P0_0_ k_ ∨ w.heap.size ≤ k_)) (.slice A0_0 l0_0.length c0_0) l0_0 from Kd.V_mono hs0_0 (fun k_ hk => .inl hk)); have HB := aM (Below.refl w.heap.size w); have H : ((spec_IsMorphism.f k l0_0).bind fun t119 => (if t119 = true then (if a1 < 0 then (spec_IsGrowing.j0 k a1 true l0_0) else (if a1 ≥ (l0_0.length : Int) then (spec_IsGrowing.j0 k a1 true l0_0) else (if 0 ≤ a1 then (if a1 < (l0_0.length : Int) then (if ((rd_L1 l0_0 a1).length : Int) < 2 then (spec_IsGrowing.j0 k a1 true l0_0) else (if 0 < ((rd_L1 l0_0 a1).length : Int) then (spec_IsGrowing.j0 k a1 ((rd (rd_L1 l0_0 a1) 0) != a1) l0_0) else (none))) else (none)) else (none)))) else (spec_IsGrowing.j0 k a1 true l0_0))) = some r := h; clear h; have HC3 := aM H; clear H; go_enter Try.func53, Try.ntmps53; go_upto_region 1 with (first | ((with_reducible refine gate_dst (N := 2) rfl ?_); (try (refine gate_guard (by rfl) ?_; dsimp only)); refine box_event ?hg (N := 2) ?hd (cs := #[.slice A0_0 l0_0.length c0_0]) (t := 27) ?hr ?_; (case hd | hg => rfl); (case hr => go_simp <;> rfl); intro gb118 hg w4 hbox hb; replace HO0_0 := aM (Kd.V_below (Kd.V_elderB (by exact rV HO0_0) gb118 (Nat.le_of_eq hg.symm)) hb); have BK118 := aM (hbox); have GW118 := bG HB hg; have GE118 := bG HB hg; replace HB := bS HB hb; have qW118 := Ge.mk GW118.out; have qE118 := Ge.mk GE118.out; clear hb hbox hg)); (try simp only [Act.put, qa, qz, qs]); go_cut [43] (fun v43 wc => ∃ (kq : Nat) (x43_2 : Bool), v43 = .bool x43_2 ∧ Aside0 (spec_IsGrowing.j0 kq a1 x43_2 l0_0 = some r) ∧ Aside0 (kq ≤ k) ∧ Aside0 (Kd.V (Kd.slice 3 (Kd.int .i64)) 31 wc w.heap.size (fun k_ => (P0_0_ k_ ∨ w.heap.size ≤ k_) ∧ k_ ≠ gb118) (.slice A0_0 l0_0.length c0_0) l0_0) ∧ Aside0 (wc.heap[gb118]? = some (.cells #[(.slice A0_0 l0_0.length c0_0)] 27 (0, 0))) ∧ Aside0 (Below w.heap.size w wc))
 case first =>
  have H := HC3.out; clear HC3; replace H := bE H; obtain ⟨t119, A50, H⟩ := H; replace H : (if t119 = true then (if a1 < 0 then (spec_IsGrowing.j0 k a1 true l0_0) else (if a1 ≥ (l0_0.length : Int) then (spec_IsGrowing.j0 k a1 true l0_0) else (if 0 ≤ a1 then (if a1 < (l0_0.length : Int) then (if ((rd_L1 l0_0 a1).length : Int) < 2 then (spec_IsGrowing.j0 k a1 true l0_0) else (if 0 < ((rd_L1 l0_0 a1).length : Int) then (spec_IsGrowing.j0 k a1 ((rd (rd_L1 l0_0 a1) 0) != a1) l0_0) else (none))) else (none)) else (none)))) else (spec_IsGrowing.j0 k a1 true l0_0)) = some r := H; have A5 := aM A50; clear A50; by_cases c6 : t119 = true
  ·subst c6; have H1 : (if a1 < 0 then (spec_IsGrowing.j0 k a1 true l0_0) else (if a1 ≥ (l0_0.length : Int) then (spec_IsGrowing.j0 k a1 true l0_0) else (if 0 ≤ a1 then (if a1 < (l0_0.length : Int) then (if ((rd_L1 l0_0 a1).length : Int) < 2 then (spec_IsGrowing.j0 k a1 true l0_0) else (if 0 < ((rd_L1 l0_0 a1).length : Int) then (spec_IsGrowing.j0 k a1 ((rd (rd_L1 l0_0 a1) 0) != a1) l0_0) else (none))) else (none)) else (none)))) = some r := by rw [if_pos rfl] at H; exact H
   clear H; have H := H1; clear H1; by_cases c7 : a1 < 0
   ·rw [if_pos c7] at H; have c7b0 : decide (a1 < 0) = true := decide_eq_true c7; clear c7
    (first | rw [c7b0] | (simp only [i64_w, i32_w]; rw [c7b0]) | skip)
    have H' := aM H; clear H; have hcz8_0 := z10 BK118; have hfz8_0 := blk_frozen BK118.out 0; go_wp2_with (first | ((with_reducible refine gate_callee (f := 19) rfl ?_); refine goesL_ (some 11) rfl rfl Try.func19 (by kernel_rfl) rfl #[.agg #[.slice A0_0 l0_0.length c0_0]] rfl (by (try simp only [mT, mC, mN]); first | done | rfl) ?_; (with_reducible refine (spec_IsMorphism.calls k _ _ l0_0 true _ ?side1 ?side2 A5.out).mono ?_); (case side1 => exact xC ((Kd.V_reads' HO0_0.out).2.2)); (case side2 => exact (Kd.V_reads' HO0_0.out).2.1); rintro e w9 ⟨rfl, hb⟩; refine ⟨_, rfl, ?_⟩; replace HO0_0 := aM (Kd.V_below (by exact rV HO0_0) hb); replace BK118 := bK BK118 hb; replace HB := bS HB hb; clear hb)); go_meet
    case rel => exact ⟨_, (true), (by first | rfl | (simp; done) | (simp [*]; done)), H', ⟨by first | omega | exact Nat.le_refl _⟩, ⟨by exact rV HO0_0⟩, ⟨by exact rX BK118⟩, ⟨by exact rB HB⟩⟩
   ·rw [if_neg c7] at H; have c7b0 : decide (a1 < 0) = false := decide_eq_false c7; clear c7
    (first | rw [c7b0] | (simp only [i64_w, i32_w]; rw [c7b0]) | skip)
    by_cases c10 : a1 ≥ (l0_0.length : Int)
    ·rw [if_pos c10] at H; have c10b0 : decide ((l0_0.length : Int) ≤ a1) = true := decide_eq_true c10; clear c10; have H' := aM H; clear H; have hcz11_0 := z10 BK118; have hfz11_0 := blk_frozen BK118.out 0; go_wp2_with (first | ((with_reducible refine gate_callee (f := 19) rfl ?_); refine goesL_ (some 11) rfl rfl Try.func19 (by kernel_rfl) rfl #[.agg #[.slice A0_0 l0_0.length c0_0]] rfl (by (try simp only [mT, mC, mN]); first | done | rfl) ?_; (with_reducible refine (spec_IsMorphism.calls k _ _ l0_0 true _ ?side1 ?side2 A5.out).mono ?_); (case side1 => exact xC ((Kd.V_reads' HO0_0.out).2.2)); (case side2 => exact (Kd.V_reads' HO0_0.out).2.1); rintro e w12 ⟨rfl, hb⟩; refine ⟨_, rfl, ?_⟩; replace HO0_0 := aM (Kd.V_below (by exact rV HO0_0) hb); replace BK118 := bK BK118 hb; replace HB := bS HB hb; clear hb; have hcz13_0 := z10 BK118; have hfz13_0 := blk_frozen BK118.out 0)); go_meet
     case rel => exact ⟨_, (true), (by first | rfl | (simp; done) | (simp [*]; done)), H', ⟨by first | omega | exact Nat.le_refl _⟩, ⟨by exact rV HO0_0⟩, ⟨by exact rX BK118⟩, ⟨by exact rB HB⟩⟩
    ·rw [if_neg c10] at H; have c10b0 : decide ((l0_0.length : Int) ≤ a1) = false := decide_eq_false c10; clear c10; by_cases c14 : 0 ≤ a1
     ·rw [if_pos c14] at H; have c14b0 : decide (0 ≤ a1) = true := decide_eq_true c14; clear c14; by_cases c15 : a1 < (l0_0.length : Int)
      ·rw [if_pos c15] at H; have c15b0 : decide (a1 < (l0_0.length : Int)) = true := decide_eq_true c15; clear c15; by_cases c16 : ((rd_L1 l0_0 a1).length : Int) < 2
       ·rw [if_pos c16] at H; have c16b0 : decide (((rd_L1 l0_0 a1).length : Int) < 2) = true := decide_eq_true c16; have c16b1 : decide ((rd_L1 l0_0 a1).length < 2) = true := decide_eq_true (by omega); clear c16; have H' := aM H; clear H; have hcz17_0 := z10 BK118; have hfz17_0 := blk_frozen BK118.out 0; go_wp2_with (first | ((with_reducible refine gate_callee (f := 19) rfl ?_); refine goesL_ (some 11) rfl rfl Try.func19 (by kernel_rfl) rfl #[.agg #[.slice A0_0 l0_0.length c0_0]] rfl (by (try simp only [mT, mC, mN]); first | done | rfl) ?_; (with_reducible refine (spec_IsMorphism.calls k _ _ l0_0 true _ ?side1 ?side2 A5.out).mono ?_); (case side1 => exact xC ((Kd.V_reads' HO0_0.out).2.2)); (case side2 => exact (Kd.V_reads' HO0_0.out).2.1); rintro e w18 ⟨rfl, hb⟩; refine ⟨_, rfl, ?_⟩; replace HO0_0 := aM (Kd.V_below (by exact rV HO0_0) hb); replace BK118 := bK BK118 hb; replace HB := bS HB hb; clear hb; have hcz19_0 := z10 BK118; have hfz19_0 := blk_frozen BK118.out 0; have p120 : 0 ≤ (a1 : Int) := oD; have q120 : a1 < (l0_0.length : Int) := oD; obtain ⟨ad120, A120_0, c120_0, e120, hx120_0, hl120_0, hi120_0⟩ := at_L1 (Kd.V_reads' HO0_0.out).2.2 a1 p120 q120; cases e120; obtain ⟨ce120, hce120, hMe120, hcc120⟩ := Kd.V_get HO0_0.out [] a1 p120 (by first | exact q120 | exact oD | (have e_ := (Kd.V_reads' HO0_0.out).1; omega)); obtain ⟨ua120_0, uc120_0, rfl, ul120_0, ge120_0⟩ := Kd.FK_slice_open hMe120; have hv120_0 := hcc120 0 _ rfl; rw [Nat.add_zero, show ((Kd.slice 3 (Kd.int .i64))).sz = 1 from rfl, Nat.mul_one] at hv120_0; replace hv120_0 := Option.some.inj (hv120_0.symm.trans hx120_0); injection hv120_0 with hva_ hvn_ hvc_; rw [hva_] at ge120_0; rw [hvc_] at ul120_0; have HL120_0 := aM (show Kd.V (Kd.int .i64) 3 _ w.heap.size _ _ (rd_L1 l0_0 a1) from Kd.V_mk ul120_0 ge120_0); clear hva_ hvn_ hvc_ ge120_0 ul120_0; clear hcc120 hce120; have HR120_0 := aM hi120_0; have HC120_0 := aM hl120_0; clear hi120_0 hl120_0; replace p120 := eq_true p120; replace q120 := eq_true q120)); go_meet
        case rel => exact ⟨_, (true), (by first | rfl | (simp; done) | (simp [*]; done)), H', ⟨by first | omega | exact Nat.le_refl _⟩, ⟨by exact rV HO0_0⟩, ⟨by exact rX BK118⟩, ⟨by exact rB HB⟩⟩
       ·rw [if_neg c16] at H; have c16b0 : decide (((rd_L1 l0_0 a1).length : Int) < 2) = false := decide_eq_false c16; have c16b1 : decide ((rd_L1 l0_0 a1).length < 2) = false := decide_eq_false (by omega); clear c16; by_cases c20 : 0 < ((rd_L1 l0_0 a1).length : Int)
        ·rw [if_pos c20] at H; have c20b0 : decide (0 < ((rd_L1 l0_0 a1).length : Int)) = true := decide_eq_true c20; have c20b1 : decide (0 < (rd_L1 l0_0 a1).length) = true := decide_eq_true (by omega); clear c20; have H' := aM H; clear H; have hcz21_0 := z10 BK118; have hfz21_0 := blk_frozen BK118.out 0; go_wp2_with (first | ((with_reducible refine gate_callee (f := 19) rfl ?_); refine goesL_ (some 11) rfl rfl Try.func19 (by kernel_rfl) rfl #[.agg #[.slice A0_0 l0_0.length c0_0]] rfl (by (try simp only [mT, mC, mN]); first | done | rfl) ?_; (with_reducible refine (spec_IsMorphism.calls k _ _ l0_0 true _ ?side1 ?side2 A5.out).mono ?_); (case side1 => exact xC ((Kd.V_reads' HO0_0.out).2.2)); (case side2 => exact (Kd.V_reads' HO0_0.out).2.1); rintro e w22 ⟨rfl, hb⟩; refine ⟨_, rfl, ?_⟩; replace HO0_0 := aM (Kd.V_below (by exact rV HO0_0) hb); replace BK118 := bK BK118 hb; replace HB := bS HB hb; clear hb; have hcz23_0 := z10 BK118; have hfz23_0 := blk_frozen BK118.out 0; have p120 : 0 ≤ (a1 : Int) := oD; have q120 : a1 < (l0_0.length : Int) := oD; obtain ⟨ad120, A120_0, c120_0, e120, hx120_0, hl120_0, hi120_0⟩ := at_L1 (Kd.V_reads' HO0_0.out).2.2 a1 p120 q120; cases e120; obtain ⟨ce120, hce120, hMe120, hcc120⟩ := Kd.V_get HO0_0.out [] a1 p120 (by first | exact q120 | exact oD | (have e_ := (Kd.V_reads' HO0_0.out).1; omega)); obtain ⟨ua120_0, uc120_0, rfl, ul120_0, ge120_0⟩ := Kd.FK_slice_open hMe120; have hv120_0 := hcc120 0 _ rfl; rw [Nat.add_zero, show ((Kd.slice 3 (Kd.int .i64))).sz = 1 from rfl, Nat.mul_one] at hv120_0; replace hv120_0 := Option.some.inj (hv120_0.symm.trans hx120_0); injection hv120_0 with hva_ hvn_ hvc_; rw [hva_] at ge120_0; rw [hvc_] at ul120_0; have HL120_0 := aM (show Kd.V (Kd.int .i64) 3 _ w.heap.size _ _ (rd_L1 l0_0 a1) from Kd.V_mk ul120_0 ge120_0); clear hva_ hvn_ hvc_ ge120_0 ul120_0; clear hcc120 hce120; have HR120_0 := aM hi120_0; have HC120_0 := aM hl120_0; clear hi120_0 hl120_0; replace p120 := eq_true p120; replace q120 := eq_true q120; have p121 : 0 ≤ (a1 : Int) := oD; have q121 : a1 < (l0_0.length : Int) := oD; obtain ⟨ad121, A121_0, c121_0, e121, hx121_0, hl121_0, hi121_0⟩ := at_L1 (Kd.V_reads' HO0_0.out).2.2 a1 p121 q121; obtain rfl : ad120 = ad121 := (by injection e121); obtain ⟨ce121, hce121, hMe121, hcc121⟩ := Kd.V_get HO0_0.out [] a1 p121 (by first | exact q121 | exact oD | (have e_ := (Kd.V_reads' HO0_0.out).1; omega)); obtain ⟨ua121_0, uc121_0, rfl, ul121_0, ge121_0⟩ := Kd.FK_slice_open hMe121; have hv121_0 := hcc121 0 _ rfl; rw [Nat.add_zero, show ((Kd.slice 3 (Kd.int .i64))).sz = 1 from rfl, Nat.mul_one] at hv121_0; replace hv121_0 := Option.some.inj (hv121_0.symm.trans hx121_0); injection hv121_0 with hva_ hvn_ hvc_; rw [hva_] at ge121_0; rw [hvc_] at ul121_0; have HL121_0 := aM (show Kd.V (Kd.int .i64) 3 _ w.heap.size _ _ (rd_L1 l0_0 a1) from Kd.V_mk ul121_0 ge121_0); clear hva_ hvn_ hvc_ ge121_0 ul121_0; clear hcc121 hce121; have HR121_0 := aM hi121_0; have HC121_0 := aM hl121_0; clear hi121_0 hl121_0; replace p121 := eq_true p121; replace q121 := eq_true q121; have ea_ := Option.some.inj (hx120_0.symm.trans hx121_0); injection ea_ with ea_ en_ ec_; subst ea_; subst ec_; clear en_; have p122 : 0 ≤ (0 : Int) := (by omega); have q122 : 0 < ((rd_L1 l0_0 a1).length : Int) := oD; obtain ⟨ad122, e122, hx122_0⟩ := Kd.at_int (by repeat (first | (with_reducible exact HR121_0.out) | (with_reducible refine Kd.C_alloc ?_ _) | (with_reducible refine Kd.C_drewN ?_ _) | (with_reducible refine Kd.C_drew ?_) | exact HR121_0.out)) 0 p122 q122; cases e122; have qi122 : (0 < (rd_L1 l0_0 a1).length) = True := eq_true (by omega); (try rw [show ((0 : Int)).toNat = 0 from rfl] at hx122_0); (try rw [Addr.add_zero'] at hx122_0); replace p122 := eq_true p122; replace q122 := eq_true q122)); go_meet
         case rel => exact ⟨_, (((rd (rd_L1 l0_0 a1) 0) != a1)), (by first | rfl | (simp; done) | (simp [*]; done)), H', ⟨by first | omega | exact Nat.le_refl _⟩, ⟨by exact rV HO0_0⟩, ⟨by exact rX BK118⟩, ⟨by exact rB HB⟩⟩
        ·rw [if_neg c20] at H; exact absurd H (by simp)
      ·rw [if_neg c15] at H; exact absurd H (by simp)
     ·rw [if_neg c14] at H; exact absurd H (by simp)
  ·replace c6 := Bool.eq_false_iff.mpr c6; subst c6; have H1 : (spec_IsGrowing.j0 k a1 true l0_0) = some r := by rw [if_neg (show ¬ (false = true) by decide)] at H; exact H
   clear H; have H := H1; clear H1; have H' := aM H; clear H; have hcz24_0 := z10 BK118; have hfz24_0 := blk_frozen BK118.out 0; go_wp2_with (first | ((with_reducible refine gate_callee (f := 19) rfl ?_); refine goesL_ (some 11) rfl rfl Try.func19 (by kernel_rfl) rfl #[.agg #[.slice A0_0 l0_0.length c0_0]] rfl (by (try simp only [mT, mC, mN]); first | done | rfl) ?_; (with_reducible refine (spec_IsMorphism.calls k _ _ l0_0 false _ ?side1 ?side2 A5.out).mono ?_); (case side1 => exact xC ((Kd.V_reads' HO0_0.out).2.2)); (case side2 => exact (Kd.V_reads' HO0_0.out).2.1); rintro e w25 ⟨rfl, hb⟩; refine ⟨_, rfl, ?_⟩; replace HO0_0 := aM (Kd.V_below (by exact rV HO0_0) hb); replace BK118 := bK BK118 hb; replace HB := bS HB hb; clear hb)); go_meet
   case rel => exact ⟨_, (true), (by first | rfl | (simp; done) | (simp [*]; done)), H', ⟨by first | omega | exact Nat.le_refl _⟩, ⟨by exact rV HO0_0⟩, ⟨by exact rX BK118⟩, ⟨by exact rB HB⟩⟩
 case rest =>
  clear HC3; (try clear c1); (try clear p1); (try clear q1); (try clear hx1); (try clear qi1); (try clear c2); (try clear p2); (try clear c5); (try clear c6); (try clear c7); (try clear c7b0); (try clear c10); (try clear c10b0); (try clear c12); (try clear p12); (try clear q12); (try clear hx12); (try clear qi12); (try clear c14); (try clear c14b0); (try clear c15); (try clear c15b0); (try clear c16); (try clear c16b0); (try clear c16b1); (try clear c19); (try clear c20); (try clear c20b0); (try clear c20b1); (try clear hcz11_0); (try clear hcz13_0); (try clear hcz17_0); (try clear hcz19_0); (try clear hcz21_0); (try clear hcz23_0); (try clear hcz24_0); (try clear hcz8_0); (try clear hfz11_0); (try clear hfz13_0); (try clear hfz17_0); (try clear hfz19_0); (try clear hfz21_0); (try clear hfz23_0); (try clear hfz24_0); (try clear hfz8_0); (try clear hx120_0); (try clear hx121_0); (try clear hx122_0); (try clear p120); (try clear p121); (try clear p122); (try clear q120); (try clear q121); (try clear q122)
  obtain ⟨kq, x43_2, rfl, HA, HJ2, HO_119000, BK118, HB⟩ := hcut; cases kq with
  | zero => exact absurd HA.out (by simp [spec_IsGrowing.j0])
  | succ kj2 =>
   have H := HA.out; clear HA; simp only [spec_IsGrowing.j0] at H; by_cases c26 : x43_2 = true
   ·subst c26; have H1 : (some false) = some r := by rw [if_pos rfl] at H; exact H
    clear H; have H := H1; clear H1; obtain rfl := Option.some.inj H; go_wp2; go_ret; exact ⟨by first | rfl | (simp [errW_none, errW_some] <;> rfl) | (simp [*, errW_none, errW_some] <;> rfl), by exact rB HB⟩
   ·replace c26 := Bool.eq_false_iff.mpr c26; subst c26; have H1 : (if 0 ≤ a1 then (if a1 < (l0_0.length : Int) then (if 1 ≤ ((rd_L1 l0_0 a1).length : Int) then (spec_IsGrowing.l0 kj2 ((rd_L1 l0_0 a1).drop 1) 0 l0_0) else (none)) else (none)) else (none)) = some r := by rw [if_neg (show ¬ (false = true) by decide)] at H; exact H
    clear H; have H := H1; clear H1; by_cases c27 : 0 ≤ a1
    ·rw [if_pos c27] at H; have c27b0 : decide (0 ≤ a1) = true := decide_eq_true c27; clear c27; by_cases c28 : a1 < (l0_0.length : Int)
     ·rw [if_pos c28] at H; have c28b0 : decide (a1 < (l0_0.length : Int)) = true := decide_eq_true c28; clear c28; by_cases c29 : 1 ≤ ((rd_L1 l0_0 a1).length : Int)
      ·rw [if_pos c29] at H; have c29b0 := eq_true c29; have c29b1 : decide (1 ≤ ((rd_L1 l0_0 a1).length : Int)) = true := decide_eq_true c29; clear c29; obtain ⟨y124, hy124⟩ : ∃ y_ : List Int, y_ = ((rd_L1 l0_0 a1).drop 1) := ⟨_, rfl⟩; replace H : (spec_IsGrowing.l0 kj2 y124 0 l0_0) = some r := by rw [hy124]; first | exact H | exact (Option.bind_some _ _).symm.trans H
       have Ny124 := aM hy124; clear hy124; have H' := aM H; clear H; have hcz30_0 := z10 BK118; have hfz30_0 := blk_frozen BK118.out 0; have p123 : 0 ≤ (a1 : Int) := oD; have q123 : a1 < (l0_0.length : Int) := oD; obtain ⟨ad123, A123_0, c123_0, e123, hx123_0, hl123_0, hi123_0⟩ := at_L1 (Kd.V_reads' HO_119000.out).2.2 a1 p123 q123; cases e123; obtain ⟨ce123, hce123, hMe123, hcc123⟩ := Kd.V_get HO_119000.out [] a1 p123 (by first | exact q123 | exact oD | (have e_ := (Kd.V_reads' HO_119000.out).1; omega)); obtain ⟨ua123_0, uc123_0, rfl, ul123_0, ge123_0⟩ := Kd.FK_slice_open hMe123; have hv123_0 := hcc123 0 _ rfl; rw [Nat.add_zero, show ((Kd.slice 3 (Kd.int .i64))).sz = 1 from rfl, Nat.mul_one] at hv123_0; replace hv123_0 := Option.some.inj (hv123_0.symm.trans hx123_0); injection hv123_0 with hva_ hvn_ hvc_; rw [hva_] at ge123_0; rw [hvc_] at ul123_0; have HL123_0 := aM (show Kd.V (Kd.int .i64) 3 _ w.heap.size _ _ (rd_L1 l0_0 a1) from Kd.V_mk ul123_0 ge123_0); clear hva_ hvn_ hvc_ ge123_0 ul123_0; clear hcc123 hce123; have HR123_0 := aM hi123_0; have HC123_0 := aM hl123_0; clear hi123_0 hl123_0; replace p123 := eq_true p123; replace q123 := eq_true q123; have q31 : (1 : Int) ≤ (((rd_L1 l0_0 a1).length : Int) : Int) := oD; obtain ⟨i031, hi031, _, hsz31, _⟩ := info_parts info3; have hroom31 : (rd_L1 l0_0 a1).length ≤ c123_0 := HC123_0.out; have hC31 : Kd.F (Kd.int .i64) _ _ A123_0 (rd_L1 l0_0 a1).length (rd_L1 l0_0 a1) := (Kd.V_at (base := w.heap.size) HL123_0.out).2.2; have hcut31 := cut_from (P := Try.prog) 31 3 .i64 Try.underlying31 hi031 1 hsz31 A123_0 (rd_L1 l0_0 a1).length c123_0 1 (by omega) q31; have hr31 := Kd.F_cut (m := (1 : Int).toNat) (c := c123_0) hC31 (by omega) hroom31; obtain ⟨A31, hA31⟩ : ∃ A1, A1 = (if c123_0 = (1 : Int).toNat then A123_0 else (A123_0 : Option Addr).map (·.add ((1 : Int).toNat * 1))) := ⟨_, rfl⟩; obtain ⟨c31, hc31⟩ : ∃ c1, c1 = c123_0 - (1 : Int).toNat := ⟨_, rfl⟩; have hy31 : y124.length = (rd_L1 l0_0 a1).length - (1 : Int).toNat := (by rw [Ny124.out, List.length_drop] <;> omega); rw [show (rd_L1 l0_0 a1).drop (1 : Int).toNat = y124 from Ny124.out.symm] at hr31; replace hr31 : Kd.F (Kd.int .i64) _ _ A31 y124.length y124 := (by rw [hA31]; exact hr31); rw [← hy31, ← hA31, ← hc31] at hcut31; have HO128 := aM (show Kd.V (Kd.int .i64) 3 _ w.heap.size _ (.slice A31 y124.length c31) y124 from Kd.V_mk (by rw [hy31, hc31]; exact Nat.sub_le_sub_right hroom31 _) hr31); have HC128 := aM (show y124.length ≤ c31 from by rw [hy31, hc31]; exact Nat.sub_le_sub_right hroom31 _); clear hr31 hC31 hroom31 hi031 hsz31 hc31; have KY31 := aM hy31; have KA31 := aM hA31; clear hy31 hA31; replace q31 := eq_true q31; go_wp2; go_loopg [5, 6] kj2 (fun kq v5 v6 w' => ∃ (x5_2 : List Int) (x6_2 : Int), v6 = .int .i64 x6_2 ∧ Aside0 (spec_IsGrowing.l0 kq x5_2 x6_2 l0_0 = some r) ∧ Aside0 (kq ≤ kj2) ∧ Aside0 (Kd.V (Kd.int .i64) 3 w' w.heap.size (fun k_ => (P0_0_ k_ ∨ w.heap.size ≤ k_) ∧ k_ ≠ gb118) v5 x5_2) ∧ Aside0 (Kd.V (Kd.slice 3 (Kd.int .i64)) 31 w' w.heap.size (fun k_ => (P0_0_ k_ ∨ w.heap.size ≤ k_) ∧ k_ ≠ gb118) (.slice (some ad123) l0_0.length c0_0) l0_0) ∧ Aside0 (w'.heap[gb118]? = some (.cells #[(.slice (some ad123) l0_0.length c0_0)] 27 (0, 0))) ∧ Aside0 (Below w.heap.size w w'))
       case atStart => exact ⟨(y124), (0), (by first | rfl | (simp; done) | (simp [*]; done)), H', ⟨Nat.le_refl _⟩, ⟨by exact rV HO128⟩, ⟨by exact rV HO_119000⟩, ⟨by exact rX BK118⟩, ⟨by exact rB HB⟩⟩
       case round =>
        clear H'; (try clear c1); (try clear p1); (try clear q1); (try clear hx1); (try clear qi1); (try clear c2); (try clear p2); (try clear c3); (try clear q3); (try clear c5); (try clear c6); (try clear c7); (try clear c7b0); (try clear c10); (try clear c10b0); (try clear c12); (try clear p12); (try clear q12); (try clear hx12); (try clear qi12); (try clear c14); (try clear c14b0); (try clear c15); (try clear c15b0); (try clear c16); (try clear c16b0); (try clear c16b1); (try clear c19); (try clear c20); (try clear c20b0); (try clear c20b1); (try clear c26); (try clear c27); (try clear c27b0); (try clear c28); (try clear c28b0); (try clear c29); (try clear c29b0); (try clear c29b1); (try clear c31); (try clear q31); (try clear hcz11_0); (try clear hcz13_0); (try clear hcz17_0); (try clear hcz19_0); (try clear hcz21_0); (try clear hcz23_0); (try clear hcz24_0); (try clear hcz30_0); (try clear hcz8_0); (try clear hfz11_0); (try clear hfz13_0); (try clear hfz17_0); (try clear hfz19_0); (try clear hfz21_0); (try clear hfz23_0); (try clear hfz24_0); (try clear hfz30_0); (try clear hfz8_0); (try clear hx120_0); (try clear hx121_0); (try clear hx122_0); (try clear hx123_0); (try clear p1); (try clear p12); (try clear p120); (try clear p121); (try clear p122); (try clear p123); (try clear p2); (try clear q1); (try clear q12); (try clear q120); (try clear q121); (try clear q122); (try clear q123); (try clear q31)
        obtain ⟨x5_2, x6_2, rfl, HA, HK2, HO_5, HO_119000, BK118, HB⟩ := hrel; cases gk with
        | zero => exact absurd HA.out (by simp [spec_IsGrowing.l0])
        | succ k2 =>
         have H := HA.out; clear HA; simp only [spec_IsGrowing.l0] at H; by_cases c32 : x6_2 ≤ (l0_0.length : Int)
         ·rw [if_pos c32] at H; have c32b0 : decide (x6_2 ≤ (l0_0.length : Int)) = true := decide_eq_true c32; clear c32; obtain ⟨y129, hy129⟩ : ∃ y_ : List Int, y_ = (([] : List Int)) := ⟨_, rfl⟩; replace H : (spec_IsGrowing.l1 k2 x5_2 x6_2 y129 0 l0_0) = some r := by rw [hy129]; first | exact H | exact (Option.bind_some _ _).symm.trans H
          have Ny129 := aM hy129; clear hy129; have H' := aM H; clear H; have hcz33_0 := z10 BK118; have hfz33_0 := blk_frozen BK118.out 0; go_wp2_with (first | ((with_reducible refine gate_dst (N := 57) rfl ?_); (try (refine gate_guard (by rfl) ?_; dsimp only)); refine Kd.R_lit (Kd.int .i64) _ 3 ?hg (N := 57) ?hd (xs := ([] : List Int)) (inner := []) (ok := fun _ => True) (okp := fun _ => True) ?hr ?hp (fun _ hk => hk) trivial (Below.refl _ _) (Nat.le_refl _) (by simp) ?_; (case hd | hg => rfl); (case hr => go_simp <;> rfl); (case hp => exact (Reps.none _ _)); intro v130 w34 ho35 hb hg_ hnew_; clear hg_ hnew_; (first | rw [← Ny129.out] at ho35 | (simp only [Int.reduceToNat] at ho35; rw [← Ny129.out] at ho35)); replace HO_5 := aM (Kd.V_elder' (by exact rV HO_5) (Kd.R_base ho35) hb); replace HO_119000 := aM (Kd.V_elder' (by exact rV HO_119000) (Kd.R_base ho35) hb); have HO131 := aM (Kd.R_lower (Kd.R_newM (M := fun k_ => (w.heap.size ≤ k_)) ho35 (bZ HB) (fun k_ h_ => h_)) (bZ HB)); replace BK118 := bK BK118 hb; replace HB := bS HB hb; clear hb ho35)); go_loopg [7, 8] k2 (fun kq v7 v8 w' => ∃ (x7_3 : List Int) (x8_3 : Int), v8 = .int .i64 x8_3 ∧ Aside0 (spec_IsGrowing.l1 kq x5_2 x6_2 x7_3 x8_3 l0_0 = some r) ∧ Aside0 (kq ≤ k2) ∧ Aside0 (Kd.V (Kd.int .i64) 3 w' w.heap.size (fun k_ => (P0_0_ k_ ∨ w.heap.size ≤ k_) ∧ some k_ ≠ (v7 : Value).ownBlock ∧ k_ ≠ gb118) u5 x5_2) ∧ Aside0 (Kd.R (Kd.int .i64) 3 w' w.heap.size (fun k_ => (w.heap.size ≤ k_)) v7 x7_3) ∧ Aside0 (Kd.V (Kd.slice 3 (Kd.int .i64)) 31 w' w.heap.size (fun k_ => (P0_0_ k_ ∨ w.heap.size ≤ k_) ∧ some k_ ≠ (v7 : Value).ownBlock ∧ k_ ≠ gb118) (.slice (some ad123) l0_0.length c0_0) l0_0) ∧ Aside0 (w'.heap[gb118]? = some (.cells #[(.slice (some ad123) l0_0.length c0_0)] 27 (0, 0))) ∧ Aside0 (Below w.heap.size w w'))
          case atStart => exact ⟨(y129), (0), (by first | rfl | (simp; done) | (simp [*]; done)), H', ⟨Nat.le_refl _⟩, ⟨by exact xV (Kd.V_mono HO_5.out (fun _ hk => ⟨hk.1.1, ⟨hk.2, hk.1.2⟩⟩))⟩, ⟨by exact xR (Kd.R_mono HO131.out (fun _ hk => hk.1))⟩, ⟨by exact xV (Kd.V_mono HO_119000.out (fun _ hk => ⟨hk.1.1, ⟨hk.2, hk.1.2⟩⟩))⟩, ⟨by exact rX BK118⟩, ⟨by exact rB HB⟩⟩
          case round =>
           clear H'; (try clear c1); (try clear p1); (try clear q1); (try clear hx1); (try clear qi1); (try clear c2); (try clear p2); (try clear c3); (try clear q3); (try clear c5); (try clear c6); (try clear c7); (try clear c7b0); (try clear c10); (try clear c10b0); (try clear c12); (try clear p12); (try clear q12); (try clear hx12); (try clear qi12); (try clear c14); (try clear c14b0); (try clear c15); (try clear c15b0); (try clear c16); (try clear c16b0); (try clear c16b1); (try clear c19); (try clear c20); (try clear c20b0); (try clear c20b1); (try clear c26); (try clear c27); (try clear c27b0); (try clear c28); (try clear c28b0); (try clear c29); (try clear c29b0); (try clear c29b1); (try clear c31); (try clear q31); (try clear c32); (try clear c32b0); (try clear hcz11_0); (try clear hcz13_0); (try clear hcz17_0); (try clear hcz19_0); (try clear hcz21_0); (try clear hcz23_0); (try clear hcz24_0); (try clear hcz30_0); (try clear hcz33_0); (try clear hcz8_0); (try clear hfz11_0); (try clear hfz13_0); (try clear hfz17_0); (try clear hfz19_0); (try clear hfz21_0); (try clear hfz23_0); (try clear hfz24_0); (try clear hfz30_0); (try clear hfz33_0); (try clear hfz8_0); (try clear hx120_0); (try clear hx121_0); (try clear hx122_0); (try clear hx123_0); (try clear p1); (try clear p12); (try clear p120); (try clear p121); (try clear p122); (try clear p123); (try clear p2); (try clear q1); (try clear q12); (try clear q120); (try clear q121); (try clear q122); (try clear q123); (try clear q3); (try clear q31)
           obtain ⟨x7_3, x8_3, rfl, HA, HK3, HO_5, HO_7, HO_119000, BK118, HB⟩ := hrel; cases gk with
           | zero => exact absurd HA.out (by simp [spec_IsGrowing.l1])
           | succ k3 =>
            have H := HA.out; clear HA; simp only [spec_IsGrowing.l1] at H; by_cases c36 : x8_3 < (x5_2.length : Int)
            ·rw [if_pos c36] at H; have c36b0 : decide (x8_3 < (x5_2.length : Int)) = true := decide_eq_true c36; clear c36; have H' := aM H; clear H; obtain ⟨Ao37, co37, eo37⟩ := Kd.V_slice HO_5.out; subst eo37; go_wp2; go_loopg [7, 9] k3 (fun kq v7 v9 w' => ∃ (x7_4 : List Int) (x9_4 : Int), v9 = .int .i64 x9_4 ∧ Aside0 (spec_IsGrowing.l2 kq x5_2 x6_2 x7_4 x8_3 x9_4 l0_0 = some r) ∧ Aside0 (kq ≤ k3) ∧ Aside0 (Kd.V (Kd.int .i64) 3 w' w.heap.size (fun k_ => (P0_0_ k_ ∨ w.heap.size ≤ k_) ∧ some k_ ≠ (v7 : Value).ownBlock ∧ k_ ≠ gb118) (.slice Ao37 x5_2.length co37) x5_2) ∧ Aside0 (Kd.R (Kd.int .i64) 3 w' w.heap.size (fun k_ => (w.heap.size ≤ k_)) v7 x7_4) ∧ Aside0 (Kd.V (Kd.slice 3 (Kd.int .i64)) 31 w' w.heap.size (fun k_ => (P0_0_ k_ ∨ w.heap.size ≤ k_) ∧ some k_ ≠ (v7 : Value).ownBlock ∧ k_ ≠ gb118) (.slice (some ad123) l0_0.length c0_0) l0_0) ∧ Aside0 (w'.heap[gb118]? = some (.cells #[(.slice (some ad123) l0_0.length c0_0)] 27 (0, 0))) ∧ Aside0 (Below w.heap.size w w'))
             case atStart => exact ⟨(x7_3), (0), (by first | rfl | (simp; done) | (simp [*]; done)), H', ⟨Nat.le_refl _⟩, ⟨by exact rV HO_5⟩, ⟨by exact rR HO_7⟩, ⟨by exact rV HO_119000⟩, ⟨by exact rX BK118⟩, ⟨by exact rB HB⟩⟩
             case round =>
              clear H'; (try clear c1); (try clear p1); (try clear q1); (try clear hx1); (try clear qi1); (try clear c2); (try clear p2); (try clear c3); (try clear q3); (try clear c5); (try clear c6); (try clear c7); (try clear c7b0); (try clear c10); (try clear c10b0); (try clear c12); (try clear p12); (try clear q12); (try clear hx12); (try clear qi12); (try clear c14); (try clear c14b0); (try clear c15); (try clear c15b0); (try clear c16); (try clear c16b0); (try clear c16b1); (try clear c19); (try clear c20); (try clear c20b0); (try clear c20b1); (try clear c26); (try clear c27); (try clear c27b0); (try clear c28); (try clear c28b0); (try clear c29); (try clear c29b0); (try clear c29b1); (try clear c31); (try clear q31); (try clear c32); (try clear c32b0); (try clear c36); (try clear c36b0); (try clear hcz11_0); (try clear hcz13_0); (try clear hcz17_0); (try clear hcz19_0); (try clear hcz21_0); (try clear hcz23_0); (try clear hcz24_0); (try clear hcz30_0); (try clear hcz33_0); (try clear hcz8_0); (try clear hfz11_0); (try clear hfz13_0); (try clear hfz17_0); (try clear hfz19_0); (try clear hfz21_0); (try clear hfz23_0); (try clear hfz24_0); (try clear hfz30_0); (try clear hfz33_0); (try clear hfz8_0); (try clear hx120_0); (try clear hx121_0); (try clear hx122_0); (try clear hx123_0); (try clear p1); (try clear p12); (try clear p120); (try clear p121); (try clear p122); (try clear p123); (try clear p2); (try clear q1); (try clear q12); (try clear q120); (try clear q121); (try clear q122); (try clear q123); (try clear q3); (try clear q31)
              obtain ⟨x7_4, x9_4, rfl, HA, HK4, HO_5, HO_7, HO_119000, BK118, HB⟩ := hrel; cases gk with
              | zero => exact absurd HA.out (by simp [spec_IsGrowing.l2])
              | succ k4 =>
               have H := HA.out; clear HA; simp only [spec_IsGrowing.l2] at H; by_cases c38 : 0 ≤ x8_3
               ·rw [if_pos c38] at H; have c38b0 : decide (0 ≤ x8_3) = true := decide_eq_true c38; clear c38; by_cases c39 : x8_3 < (x5_2.length : Int)
                ·rw [if_pos c39] at H; have c39b0 : decide (x8_3 < (x5_2.length : Int)) = true := decide_eq_true c39; clear c39; by_cases c40 : 0 ≤ (rd x5_2 x8_3)
                 ·rw [if_pos c40] at H; have c40b0 : decide (0 ≤ (rd x5_2 x8_3)) = true := decide_eq_true c40; clear c40; by_cases c41 : (rd x5_2 x8_3) < (l0_0.length : Int)
                  ·rw [if_pos c41] at H; have c41b0 : decide ((rd x5_2 x8_3) < (l0_0.length : Int)) = true := decide_eq_true c41; clear c41; by_cases c42 : x9_4 < ((rd_L1 l0_0 (rd x5_2 x8_3)).length : Int)
                   ·rw [if_pos c42] at H; have c42b0 : decide (x9_4 < ((rd_L1 l0_0 (rd x5_2 x8_3)).length : Int)) = true := decide_eq_true c42; clear c42; by_cases c43 : 0 ≤ x9_4
                    ·rw [if_pos c43] at H; have c43b0 : decide (0 ≤ x9_4) = true := decide_eq_true c43; clear c43; replace H := bE H; obtain ⟨t137, A440, H⟩ := H; replace H : (if t137 = true then (spec_IsGrowing.l2 k4 x5_2 x6_2 x7_4 x8_3 (wrap64 (x9_4 + 1)) l0_0) else (if x7_4.length < 17592186044416 then (spec_IsGrowing.l2 k4 x5_2 x6_2 (x7_4 ++ [rd (rd_L1 l0_0 (rd x5_2 x8_3)) x9_4]) x8_3 (wrap64 (x9_4 + 1)) l0_0) else (none))) = some r := H; have A44 := aM A440; clear A440; by_cases c45 : t137 = true
                     ·subst c45; have H1 : (spec_IsGrowing.l2 k4 x5_2 x6_2 x7_4 x8_3 (wrap64 (x9_4 + 1)) l0_0) = some r := by rw [if_pos rfl] at H; exact H
                      clear H; have H := H1; clear H1; have H' := aM H; clear H
                      try go_wp2
                      replace HO_5 := aM (Kd.V_drew HO_5.out); replace HO_7 := aM (Kd.R_drew HO_7.out); replace HO_119000 := aM (Kd.V_drew HO_119000.out); replace BK118 := aM (blk_drew BK118.out); replace HB := aM (below_drew1 HB.out)
                      have p132 : 0 ≤ (x8_3 : Int) := oD; have q132 : x8_3 < (x5_2.length : Int) := oD; obtain ⟨ad132, e132, hx132_0⟩ := Kd.at_int (Kd.V_reads' HO_5.out).2.2 x8_3 p132 q132; cases e132; replace p132 := eq_true p132; replace q132 := eq_true q132; have p133 : 0 ≤ ((rd x5_2 x8_3) : Int) := oD; have q133 : (rd x5_2 x8_3) < (l0_0.length : Int) := oD; obtain ⟨ad133, A133_0, c133_0, e133, hx133_0, hl133_0, hi133_0⟩ := at_L1 (Kd.V_reads' HO_119000.out).2.2 (rd x5_2 x8_3) p133 q133; obtain rfl : ad123 = ad133 := (by injection e133); obtain ⟨ce133, hce133, hMe133, hcc133⟩ := Kd.V_get HO_119000.out [] (rd x5_2 x8_3) p133 (by first | exact q133 | exact oD | (have e_ := (Kd.V_reads' HO_119000.out).1; omega)); obtain ⟨ua133_0, uc133_0, rfl, ul133_0, ge133_0⟩ := Kd.FK_slice_open hMe133; have hv133_0 := hcc133 0 _ rfl; rw [Nat.add_zero, show ((Kd.slice 3 (Kd.int .i64))).sz = 1 from rfl, Nat.mul_one] at hv133_0; replace hv133_0 := Option.some.inj (hv133_0.symm.trans hx133_0); injection hv133_0 with hva_ hvn_ hvc_; rw [hva_] at ge133_0; rw [hvc_] at ul133_0; have HL133_0 := aM (show Kd.V (Kd.int .i64) 3 _ w.heap.size _ _ (rd_L1 l0_0 (rd x5_2 x8_3)) from Kd.V_mk ul133_0 ge133_0); clear hva_ hvn_ hvc_ ge133_0 ul133_0; clear hcc133 hce133; have HR133_0 := aM hi133_0; have HC133_0 := aM hl133_0; clear hi133_0 hl133_0; replace p133 := eq_true p133; replace q133 := eq_true q133; refine start_ (n := 11) (S := fun w' => w'.cell? ⟨gb118, 0, none⟩ = some (.slice (some ad123) l0_0.length c0_0) ∧ w'.cell? (ad132.add (x8_3).toNat) = some (.int .i64 (rd x5_2 x8_3)) ∧ w'.cell? (ad123.add ((rd x5_2 x8_3)).toNat) = some (.slice A133_0 (rd_L1 l0_0 (rd x5_2 x8_3)).length c133_0)) (ds := []) (bA 11 0) (by kernel_rfl) rfl rfl ⟨(blk_cell BK118.out 0).trans rfl, hx132_0, hx133_0⟩ (fun hHeld => ?_); refine with_tabW spec_IsGrowing.tab12 spec_IsGrowing.bits12 (fun HT_ HW_ => ?_); generalize wr.drew = w46 at HO_5 HO_7 HO_119000 BK118 HB HL133_0 HR133_0 hx132_0 hx133_0 hHeld ⊢; refine pV 0 64 1 HT_ ?_
                      refine pV 1 65 3 HT_ ?_
                      refine pV 3 67 11 HT_ ?_
                      refine pV 4 68 27 HT_ ?_
                      refine pV 5 69 59 HT_ ?_
                      refine tV 2 66 63 HT_ HW_ hHeld ?_
                      refine tV 6 70 127 HT_ HW_ hHeld ?_
                      refine pV 7 71 255 HT_ ?_
                      refine tV 8 72 511 HT_ HW_ hHeld ?_
                      refine pV 9 73 1023 HT_ ?_
                      refine pV 10 74 2047 HT_ ?_
                      refine done_ (done_of HT_.out (by kernel_rfl)) ?_
                      try go_wp2
                      replace HO_5 := aM (Kd.V_drew HO_5.out); replace HO_7 := aM (Kd.R_drew HO_7.out); replace HO_119000 := aM (Kd.V_drew HO_119000.out); replace HL133_0 := aM (Kd.V_drew HL133_0.out); replace BK118 := aM (blk_drew BK118.out); replace HR133_0 := aM (Kd.C_drew HR133_0.out); replace HB := aM (below_drew1 HB.out)
                      have p134 : 0 ≤ (x8_3 : Int) := oD; have q134 : x8_3 < (x5_2.length : Int) := oD; obtain ⟨ad134, e134, hx134_0⟩ := Kd.at_int (Kd.V_reads' HO_5.out).2.2 x8_3 p134 q134; obtain rfl : ad132 = ad134 := (by injection e134); replace p134 := eq_true p134; replace q134 := eq_true q134; have p135 : 0 ≤ ((rd x5_2 x8_3) : Int) := oD; have q135 : (rd x5_2 x8_3) < (l0_0.length : Int) := oD; obtain ⟨ad135, A135_0, c135_0, e135, hx135_0, hl135_0, hi135_0⟩ := at_L1 (Kd.V_reads' HO_119000.out).2.2 (rd x5_2 x8_3) p135 q135; obtain rfl : ad123 = ad135 := (by injection e135); obtain ⟨ce135, hce135, hMe135, hcc135⟩ := Kd.V_get HO_119000.out [] (rd x5_2 x8_3) p135 (by first | exact q135 | exact oD | (have e_ := (Kd.V_reads' HO_119000.out).1; omega)); obtain ⟨ua135_0, uc135_0, rfl, ul135_0, ge135_0⟩ := Kd.FK_slice_open hMe135; have hv135_0 := hcc135 0 _ rfl; rw [Nat.add_zero, show ((Kd.slice 3 (Kd.int .i64))).sz = 1 from rfl, Nat.mul_one] at hv135_0; replace hv135_0 := Option.some.inj (hv135_0.symm.trans hx135_0); injection hv135_0 with hva_ hvn_ hvc_; rw [hva_] at ge135_0; rw [hvc_] at ul135_0; have HL135_0 := aM (show Kd.V (Kd.int .i64) 3 _ w.heap.size _ _ (rd_L1 l0_0 (rd x5_2 x8_3)) from Kd.V_mk ul135_0 ge135_0); clear hva_ hvn_ hvc_ ge135_0 ul135_0; clear hcc135 hce135; have HR135_0 := aM hi135_0; have HC135_0 := aM hl135_0; clear hi135_0 hl135_0; replace p135 := eq_true p135; replace q135 := eq_true q135; have p136 : 0 ≤ (x9_4 : Int) := oD; have q136 : x9_4 < ((rd_L1 l0_0 (rd x5_2 x8_3)).length : Int) := oD; obtain ⟨ad136, e136, hx136_0⟩ := Kd.at_int (by repeat (first | (with_reducible exact HR135_0.out) | (with_reducible refine Kd.C_alloc ?_ _) | (with_reducible refine Kd.C_drewN ?_ _) | (with_reducible refine Kd.C_drew ?_) | exact HR135_0.out)) x9_4 p136 q136; cases e136; replace p136 := eq_true p136; replace q136 := eq_true q136; obtain ⟨Ao48, co48, eo48⟩ := Kd.R_slice HO_7.out
                      (first | subst eo48 | (injection eo48 with f1_ f2_ f3_; have f4_ := f1_.symm; have f5_ := f3_.symm; clear f1_ f2_ f3_; subst f4_; subst f5_))
                      refine start_ (n := 14) (S := fun w' => w'.cell? ⟨gb118, 0, none⟩ = some (.slice (some ad123) l0_0.length c0_0) ∧ w'.cell? (ad132.add (x8_3).toNat) = some (.int .i64 (rd x5_2 x8_3)) ∧ w'.cell? (ad123.add ((rd x5_2 x8_3)).toNat) = some (.slice (some ad136) (rd_L1 l0_0 (rd x5_2 x8_3)).length c135_0) ∧ w'.cell? (ad136.add (x9_4).toNat) = some (.int .i64 (rd (rd_L1 l0_0 (rd x5_2 x8_3)) x9_4))) (ds := []) (bA 14 0) (by kernel_rfl) rfl rfl ⟨(blk_cell BK118.out 0).trans rfl, hx134_0, hx135_0, hx136_0⟩ (fun hHeld => ?_); refine with_tabW spec_IsGrowing.tab14 spec_IsGrowing.bits14 (fun HT_ HW_ => ?_); generalize w46.drew = w47 at HO_5 HO_7 HO_119000 HL133_0 BK118 HR133_0 HB HL135_0 HR135_0 hx134_0 hx135_0 hx136_0 hHeld ⊢; refine pV 0 77 1 HT_ ?_
                      refine pV 1 78 3 HT_ ?_
                      refine pV 3 80 11 HT_ ?_
                      refine pV 4 81 27 HT_ ?_
                      refine pV 5 82 59 HT_ ?_
                      refine pV 9 86 571 HT_ ?_
                      refine tV 2 79 575 HT_ HW_ hHeld ?_
                      refine tV 6 83 639 HT_ HW_ hHeld ?_
                      refine pV 7 84 767 HT_ ?_
                      refine tV 8 85 1023 HT_ HW_ hHeld ?_
                      refine pV 10 87 2047 HT_ ?_
                      refine tV 11 88 4095 HT_ HW_ hHeld ?_
                      refine oV 12 89 8191 HT_ (fun K hK => ?_); refine goes_ Try.func54 (by kernel_rfl) rfl #[.slice Ao48 x7_4.length co48, .int .i64 (rd (rd_L1 l0_0 (rd x5_2 x8_3)) x9_4)] (by rfl) rfl rfl (by (try simp only [mT, mC, mN]); first | done | rfl) ?_; (with_reducible refine (spec_l4Has.calls k4 _ _ x7_4 (rd (rd_L1 l0_0 (rd x5_2 x8_3)) x9_4) true _ ?side1 ?side2 A44.out).mono ?_); (case side1 => exact xC ((Kd.R_reads' HO_7.out).2.2)); (case side2 => exact (Kd.R_reads' HO_7.out).2.1); rintro e w' ⟨rfl, ⟨nd, rfl⟩⟩; refine ⟨_, rfl, ?_⟩; refine hK.out _ _ ⟨(blk_cell BK118.out 0).trans rfl, hHeld.2.1, hHeld.2.2.1, hHeld.2.2.2⟩ (fun hHeld => ?_); clear hK K; refine nP ?_
                      refine pV 13 90 16383 HT_ ?_
                      refine done_ (done_of HT_.out (by kernel_rfl)) ?_
                      try go_wp2
                      go_roundg k4
                      case measure => have := HJ2.out; have := HK2.out; have := HK3.out; have := HK4.out; omega
                      case rel => exact ⟨(x7_4), (wrap64 (x9_4 + 1)), (by first | rfl | (simp; done) | (simp [*]; done)), H', ⟨by have := HJ2.out; have := HK2.out; have := HK3.out; have := HK4.out; omega⟩, ⟨by exact rV HO_5⟩, ⟨by exact rR HO_7⟩, ⟨by exact rV HO_119000⟩, ⟨by exact rX BK118⟩, ⟨by exact rB HB⟩⟩
                     ·replace c45 := Bool.eq_false_iff.mpr c45; subst c45; have H1 : (if x7_4.length < 17592186044416 then (spec_IsGrowing.l2 k4 x5_2 x6_2 (x7_4 ++ [rd (rd_L1 l0_0 (rd x5_2 x8_3)) x9_4]) x8_3 (wrap64 (x9_4 + 1)) l0_0) else (none)) = some r := by rw [if_neg (show ¬ (false = true) by decide)] at H; exact H
                      clear H; have H := H1; clear H1; by_cases c49 : x7_4.length < 17592186044416
                      ·rw [if_pos c49] at H; have LMc49 := aM c49; clear c49; obtain ⟨y141, hy141⟩ : ∃ y_ : List Int, y_ = (x7_4 ++ [rd (rd_L1 l0_0 (rd x5_2 x8_3)) x9_4]) := ⟨_, rfl⟩; replace H : (spec_IsGrowing.l2 k4 x5_2 x6_2 y141 x8_3 (wrap64 (x9_4 + 1)) l0_0) = some r := by rw [hy141]; first | exact H | exact (Option.bind_some _ _).symm.trans H
                       have Ny141 := aM hy141; clear hy141; have H' := aM H; clear H
                       try go_wp2
                       replace HO_5 := aM (Kd.V_drew HO_5.out); replace HO_7 := aM (Kd.R_drew HO_7.out); replace HO_119000 := aM (Kd.V_drew HO_119000.out); replace BK118 := aM (blk_drew BK118.out); replace HB := aM (below_drew1 HB.out)
                       have p132 : 0 ≤ (x8_3 : Int) := oD; have q132 : x8_3 < (x5_2.length : Int) := oD; obtain ⟨ad132, e132, hx132_0⟩ := Kd.at_int (Kd.V_reads' HO_5.out).2.2 x8_3 p132 q132; cases e132; replace p132 := eq_true p132; replace q132 := eq_true q132; have p133 : 0 ≤ ((rd x5_2 x8_3) : Int) := oD; have q133 : (rd x5_2 x8_3) < (l0_0.length : Int) := oD; obtain ⟨ad133, A133_0, c133_0, e133, hx133_0, hl133_0, hi133_0⟩ := at_L1 (Kd.V_reads' HO_119000.out).2.2 (rd x5_2 x8_3) p133 q133; obtain rfl : ad123 = ad133 := (by injection e133); obtain ⟨ce133, hce133, hMe133, hcc133⟩ := Kd.V_get HO_119000.out [] (rd x5_2 x8_3) p133 (by first | exact q133 | exact oD | (have e_ := (Kd.V_reads' HO_119000.out).1; omega)); obtain ⟨ua133_0, uc133_0, rfl, ul133_0, ge133_0⟩ := Kd.FK_slice_open hMe133; have hv133_0 := hcc133 0 _ rfl; rw [Nat.add_zero, show ((Kd.slice 3 (Kd.int .i64))).sz = 1 from rfl, Nat.mul_one] at hv133_0; replace hv133_0 := Option.some.inj (hv133_0.symm.trans hx133_0); injection hv133_0 with hva_ hvn_ hvc_; rw [hva_] at ge133_0; rw [hvc_] at ul133_0; have HL133_0 := aM (show Kd.V (Kd.int .i64) 3 _ w.heap.size _ _ (rd_L1 l0_0 (rd x5_2 x8_3)) from Kd.V_mk ul133_0 ge133_0); clear hva_ hvn_ hvc_ ge133_0 ul133_0; clear hcc133 hce133; have HR133_0 := aM hi133_0; have HC133_0 := aM hl133_0; clear hi133_0 hl133_0; replace p133 := eq_true p133; replace q133 := eq_true q133; refine start_ (n := 11) (S := fun w' => w'.cell? ⟨gb118, 0, none⟩ = some (.slice (some ad123) l0_0.length c0_0) ∧ w'.cell? (ad132.add (x8_3).toNat) = some (.int .i64 (rd x5_2 x8_3)) ∧ w'.cell? (ad123.add ((rd x5_2 x8_3)).toNat) = some (.slice A133_0 (rd_L1 l0_0 (rd x5_2 x8_3)).length c133_0)) (ds := []) (bA 11 0) (by kernel_rfl) rfl rfl ⟨(blk_cell BK118.out 0).trans rfl, hx132_0, hx133_0⟩ (fun hHeld => ?_); refine with_tabW spec_IsGrowing.tab12 spec_IsGrowing.bits12 (fun HT_ HW_ => ?_); generalize wr.drew = w50 at HO_5 HO_7 HO_119000 BK118 HB HL133_0 HR133_0 hx132_0 hx133_0 hHeld ⊢; refine pV 0 64 1 HT_ ?_
                       refine pV 1 65 3 HT_ ?_
                       refine pV 3 67 11 HT_ ?_
                       refine pV 4 68 27 HT_ ?_
                       refine pV 5 69 59 HT_ ?_
                       refine tV 2 66 63 HT_ HW_ hHeld ?_
                       refine tV 6 70 127 HT_ HW_ hHeld ?_
                       refine pV 7 71 255 HT_ ?_
                       refine tV 8 72 511 HT_ HW_ hHeld ?_
                       refine pV 9 73 1023 HT_ ?_
                       refine pV 10 74 2047 HT_ ?_
                       refine done_ (done_of HT_.out (by kernel_rfl)) ?_
                       try go_wp2
                       replace HO_5 := aM (Kd.V_drew HO_5.out); replace HO_7 := aM (Kd.R_drew HO_7.out); replace HO_119000 := aM (Kd.V_drew HO_119000.out); replace HL133_0 := aM (Kd.V_drew HL133_0.out); replace BK118 := aM (blk_drew BK118.out); replace HR133_0 := aM (Kd.C_drew HR133_0.out); replace HB := aM (below_drew1 HB.out)
                       have p134 : 0 ≤ (x8_3 : Int) := oD; have q134 : x8_3 < (x5_2.length : Int) := oD; obtain ⟨ad134, e134, hx134_0⟩ := Kd.at_int (Kd.V_reads' HO_5.out).2.2 x8_3 p134 q134; obtain rfl : ad132 = ad134 := (by injection e134); replace p134 := eq_true p134; replace q134 := eq_true q134; have p135 : 0 ≤ ((rd x5_2 x8_3) : Int) := oD; have q135 : (rd x5_2 x8_3) < (l0_0.length : Int) := oD; obtain ⟨ad135, A135_0, c135_0, e135, hx135_0, hl135_0, hi135_0⟩ := at_L1 (Kd.V_reads' HO_119000.out).2.2 (rd x5_2 x8_3) p135 q135; obtain rfl : ad123 = ad135 := (by injection e135); obtain ⟨ce135, hce135, hMe135, hcc135⟩ := Kd.V_get HO_119000.out [] (rd x5_2 x8_3) p135 (by first | exact q135 | exact oD | (have e_ := (Kd.V_reads' HO_119000.out).1; omega)); obtain ⟨ua135_0, uc135_0, rfl, ul135_0, ge135_0⟩ := Kd.FK_slice_open hMe135; have hv135_0 := hcc135 0 _ rfl; rw [Nat.add_zero, show ((Kd.slice 3 (Kd.int .i64))).sz = 1 from rfl, Nat.mul_one] at hv135_0; replace hv135_0 := Option.some.inj (hv135_0.symm.trans hx135_0); injection hv135_0 with hva_ hvn_ hvc_; rw [hva_] at ge135_0; rw [hvc_] at ul135_0; have HL135_0 := aM (show Kd.V (Kd.int .i64) 3 _ w.heap.size _ _ (rd_L1 l0_0 (rd x5_2 x8_3)) from Kd.V_mk ul135_0 ge135_0); clear hva_ hvn_ hvc_ ge135_0 ul135_0; clear hcc135 hce135; have HR135_0 := aM hi135_0; have HC135_0 := aM hl135_0; clear hi135_0 hl135_0; replace p135 := eq_true p135; replace q135 := eq_true q135; have p136 : 0 ≤ (x9_4 : Int) := oD; have q136 : x9_4 < ((rd_L1 l0_0 (rd x5_2 x8_3)).length : Int) := oD; obtain ⟨ad136, e136, hx136_0⟩ := Kd.at_int (by repeat (first | (with_reducible exact HR135_0.out) | (with_reducible refine Kd.C_alloc ?_ _) | (with_reducible refine Kd.C_drewN ?_ _) | (with_reducible refine Kd.C_drew ?_) | exact HR135_0.out)) x9_4 p136 q136; cases e136; replace p136 := eq_true p136; replace q136 := eq_true q136; obtain ⟨Ao52, co52, eo52⟩ := Kd.R_slice HO_7.out
                       (first | subst eo52 | (injection eo52 with f1_ f2_ f3_; have f4_ := f1_.symm; have f5_ := f3_.symm; clear f1_ f2_ f3_; subst f4_; subst f5_))
                       refine start_ (n := 14) (S := fun w' => w'.cell? ⟨gb118, 0, none⟩ = some (.slice (some ad123) l0_0.length c0_0) ∧ w'.cell? (ad132.add (x8_3).toNat) = some (.int .i64 (rd x5_2 x8_3)) ∧ w'.cell? (ad123.add ((rd x5_2 x8_3)).toNat) = some (.slice (some ad136) (rd_L1 l0_0 (rd x5_2 x8_3)).length c135_0) ∧ w'.cell? (ad136.add (x9_4).toNat) = some (.int .i64 (rd (rd_L1 l0_0 (rd x5_2 x8_3)) x9_4))) (ds := []) (bA 14 0) (by kernel_rfl) rfl rfl ⟨(blk_cell BK118.out 0).trans rfl, hx134_0, hx135_0, hx136_0⟩ (fun hHeld => ?_); refine with_tabW spec_IsGrowing.tab14 spec_IsGrowing.bits14 (fun HT_ HW_ => ?_); generalize w50.drew = w51 at HO_5 HO_7 HO_119000 HL133_0 BK118 HR133_0 HB HL135_0 HR135_0 hx134_0 hx135_0 hx136_0 hHeld ⊢; refine pV 0 77 1 HT_ ?_
                       refine pV 1 78 3 HT_ ?_
                       refine pV 3 80 11 HT_ ?_
                       refine pV 4 81 27 HT_ ?_
                       refine pV 5 82 59 HT_ ?_
                       refine pV 9 86 571 HT_ ?_
                       refine tV 2 79 575 HT_ HW_ hHeld ?_
                       refine tV 6 83 639 HT_ HW_ hHeld ?_
                       refine pV 7 84 767 HT_ ?_
                       refine tV 8 85 1023 HT_ HW_ hHeld ?_
                       refine pV 10 87 2047 HT_ ?_
                       refine tV 11 88 4095 HT_ HW_ hHeld ?_
                       refine oV 12 89 8191 HT_ (fun K hK => ?_); refine goes_ Try.func54 (by kernel_rfl) rfl #[.slice Ao52 x7_4.length co52, .int .i64 (rd (rd_L1 l0_0 (rd x5_2 x8_3)) x9_4)] (by rfl) rfl rfl (by (try simp only [mT, mC, mN]); first | done | rfl) ?_; (with_reducible refine (spec_l4Has.calls k4 _ _ x7_4 (rd (rd_L1 l0_0 (rd x5_2 x8_3)) x9_4) false _ ?side1 ?side2 A44.out).mono ?_); (case side1 => exact xC ((Kd.R_reads' HO_7.out).2.2)); (case side2 => exact (Kd.R_reads' HO_7.out).2.1); rintro e w' ⟨rfl, ⟨nd, rfl⟩⟩; refine ⟨_, rfl, ?_⟩; refine hK.out _ _ ⟨(blk_cell BK118.out 0).trans rfl, hHeld.2.1, hHeld.2.2.1, hHeld.2.2.2⟩ (fun hHeld => ?_); clear hK K; refine nP ?_
                       refine pV 13 90 16383 HT_ ?_
                       refine done_ (done_of HT_.out (by kernel_rfl)) ?_
                       try go_wp2
                       (try (rw [drewN_self w51]; generalize hq_ : World.drewN w51 _ = w51; have n0_ : Aside0 (Kd.V (Kd.int .i64) 3 w51 w.heap.size (fun k_ => (P0_0_ k_ ∨ w.heap.size ≤ k_) ∧ some k_ ≠ (.slice Ao52 x7_4.length co52 : Value).ownBlock ∧ k_ ≠ gb118) (.slice A133_0 (rd_L1 l0_0 (rd x5_2 x8_3)).length c133_0) (rd_L1 l0_0 (rd x5_2 x8_3))) := ⟨by rw [← hq_]; exact (by exact rV HL133_0)⟩; have n1_ : Aside0 (Kd.V (Kd.int .i64) 3 w51 w.heap.size (fun k_ => (P0_0_ k_ ∨ w.heap.size ≤ k_) ∧ some k_ ≠ (.slice Ao52 x7_4.length co52 : Value).ownBlock ∧ k_ ≠ gb118) (.slice (some ad136) (rd_L1 l0_0 (rd x5_2 x8_3)).length c135_0) (rd_L1 l0_0 (rd x5_2 x8_3))) := ⟨by rw [← hq_]; exact (by exact rV HL135_0)⟩; have n2_ : Aside0 (Kd.V (Kd.slice 3 (Kd.int .i64)) 31 w51 w.heap.size (fun k_ => (P0_0_ k_ ∨ w.heap.size ≤ k_) ∧ some k_ ≠ (.slice Ao52 x7_4.length co52 : Value).ownBlock ∧ k_ ≠ gb118) (.slice (some ad123) l0_0.length c0_0) l0_0) := ⟨by rw [← hq_]; exact (by exact rV HO_119000)⟩; have n3_ : Aside0 (Kd.V (Kd.int .i64) 3 w51 w.heap.size (fun k_ => (P0_0_ k_ ∨ w.heap.size ≤ k_) ∧ some k_ ≠ (.slice Ao52 x7_4.length co52 : Value).ownBlock ∧ k_ ≠ gb118) (.slice (some ad132) x5_2.length co37) x5_2) := ⟨by rw [← hq_]; exact (by exact rV HO_5)⟩; have n4_ : Aside0 (Kd.R (Kd.int .i64) 3 w51 w.heap.size (fun k_ => (w.heap.size ≤ k_)) (.slice Ao52 x7_4.length co52) x7_4) := ⟨by rw [← hq_]; exact (by exact rR HO_7)⟩; have n5_ : Aside0 (w51.heap[gb118]? = some (.cells #[.slice (some ad123) l0_0.length c0_0] 27 (0, 0))) := ⟨by rw [← hq_]; exact (by exact rX BK118)⟩; have n6_ : Aside0 (Below w.heap.size w w51) := ⟨by rw [← hq_]; exact (by exact rB HB)⟩; have n7_ : Aside0 (Kd.C (Kd.int .i64) w51 A133_0 (rd_L1 l0_0 (rd x5_2 x8_3)).length (rd_L1 l0_0 (rd x5_2 x8_3))) := ⟨by rw [← hq_]; exact (by repeat (first | (with_reducible exact HR133_0.out) | (with_reducible refine Kd.C_alloc ?_ _) | (with_reducible refine Kd.C_drewN ?_ _) | (with_reducible refine Kd.C_drew ?_) | exact HR133_0.out))⟩; have n8_ : Aside0 (Kd.C (Kd.int .i64) w51 (some ad136) (rd_L1 l0_0 (rd x5_2 x8_3)).length (rd_L1 l0_0 (rd x5_2 x8_3))) := ⟨by rw [← hq_]; exact (by repeat (first | (with_reducible exact HR135_0.out) | (with_reducible refine Kd.C_alloc ?_ _) | (with_reducible refine Kd.C_drewN ?_ _) | (with_reducible refine Kd.C_drew ?_) | exact HR135_0.out))⟩; clear HL133_0 HL135_0 HO_119000 HO_5 HO_7 BK118 HB HR133_0 HR135_0 hq_; have HL133_0 := n0_; have HL135_0 := n1_; have HO_119000 := n2_; have HO_5 := n3_; have HO_7 := n4_; have BK118 := n5_; have HB := n6_; have HR133_0 := n7_; have HR135_0 := n8_; clear n0_ n1_ n2_ n3_ n4_ n5_ n6_ n7_ n8_)); replace HO_5 := aM (Kd.V_drew HO_5.out); replace HO_7 := aM (Kd.R_drew HO_7.out); replace HO_119000 := aM (Kd.V_drew HO_119000.out); replace HL133_0 := aM (Kd.V_drew HL133_0.out); replace HL135_0 := aM (Kd.V_drew HL135_0.out); replace BK118 := aM (blk_drew BK118.out); replace HR133_0 := aM (Kd.C_drew HR133_0.out); replace HR135_0 := aM (Kd.C_drew HR135_0.out); replace HB := aM (below_drew1 HB.out)
                       have p138 : 0 ≤ (x8_3 : Int) := oD; have q138 : x8_3 < (x5_2.length : Int) := oD; obtain ⟨ad138, e138, hx138_0⟩ := Kd.at_int (Kd.V_reads' HO_5.out).2.2 x8_3 p138 q138; obtain rfl : ad132 = ad138 := (by injection e138); replace p138 := eq_true p138; replace q138 := eq_true q138; have p139 : 0 ≤ ((rd x5_2 x8_3) : Int) := oD; have q139 : (rd x5_2 x8_3) < (l0_0.length : Int) := oD; obtain ⟨ad139, A139_0, c139_0, e139, hx139_0, hl139_0, hi139_0⟩ := at_L1 (Kd.V_reads' HO_119000.out).2.2 (rd x5_2 x8_3) p139 q139; obtain rfl : ad123 = ad139 := (by injection e139); obtain ⟨ce139, hce139, hMe139, hcc139⟩ := Kd.V_get HO_119000.out [] (rd x5_2 x8_3) p139 (by first | exact q139 | exact oD | (have e_ := (Kd.V_reads' HO_119000.out).1; omega)); obtain ⟨ua139_0, uc139_0, rfl, ul139_0, ge139_0⟩ := Kd.FK_slice_open hMe139; have hv139_0 := hcc139 0 _ rfl; rw [Nat.add_zero, show ((Kd.slice 3 (Kd.int .i64))).sz = 1 from rfl, Nat.mul_one] at hv139_0; replace hv139_0 := Option.some.inj (hv139_0.symm.trans hx139_0); injection hv139_0 with hva_ hvn_ hvc_; rw [hva_] at ge139_0; rw [hvc_] at ul139_0; have HL139_0 := aM (show Kd.V (Kd.int .i64) 3 _ w.heap.size _ _ (rd_L1 l0_0 (rd x5_2 x8_3)) from Kd.V_mk ul139_0 ge139_0); clear hva_ hvn_ hvc_ ge139_0 ul139_0; clear hcc139 hce139; have HR139_0 := aM hi139_0; have HC139_0 := aM hl139_0; clear hi139_0 hl139_0; replace p139 := eq_true p139; replace q139 := eq_true q139; have p140 : 0 ≤ (x9_4 : Int) := oD; have q140 : x9_4 < ((rd_L1 l0_0 (rd x5_2 x8_3)).length : Int) := oD; obtain ⟨ad140, e140, hx140_0⟩ := Kd.at_int (by repeat (first | (with_reducible exact HR139_0.out) | (with_reducible refine Kd.C_alloc ?_ _) | (with_reducible refine Kd.C_drewN ?_ _) | (with_reducible refine Kd.C_drew ?_) | exact HR139_0.out)) x9_4 p140 q140; cases e140; replace p140 := eq_true p140; replace q140 := eq_true q140; refine start_ (n := 15) (S := fun w' => w'.cell? ⟨gb118, 0, none⟩ = some (.slice (some ad123) l0_0.length c0_0) ∧ w'.cell? (ad132.add (x8_3).toNat) = some (.int .i64 (rd x5_2 x8_3)) ∧ w'.cell? (ad123.add ((rd x5_2 x8_3)).toNat) = some (.slice (some ad140) (rd_L1 l0_0 (rd x5_2 x8_3)).length c139_0) ∧ w'.cell? (ad140.add (x9_4).toNat) = some (.int .i64 (rd (rd_L1 l0_0 (rd x5_2 x8_3)) x9_4))) (ds := [12, 13]) (bA 15 0) (by kernel_rfl) rfl rfl ⟨(blk_cell BK118.out 0).trans rfl, hx138_0, hx139_0, hx140_0⟩ (fun hHeld => ?_); refine with_tabW spec_IsGrowing.tab15 spec_IsGrowing.bits15 (fun HT_ HW_ => ?_); generalize w51.drew = w53 at HO_5 HO_7 HO_119000 HL133_0 HL135_0 BK118 HR133_0 HR135_0 HB HL139_0 HR139_0 hx138_0 hx139_0 hx140_0 hHeld ⊢; refine pV 0 91 1 HT_ ?_
                       refine pV 1 92 3 HT_ ?_
                       refine pV 3 94 11 HT_ ?_
                       refine pV 4 95 27 HT_ ?_
                       refine pV 5 96 59 HT_ ?_
                       refine pV 9 100 571 HT_ ?_
                       refine tV 2 93 575 HT_ HW_ hHeld ?_
                       refine tV 6 97 639 HT_ HW_ hHeld ?_
                       refine pV 7 98 767 HT_ ?_
                       refine tV 8 99 1023 HT_ HW_ hHeld ?_
                       refine pV 10 101 2047 HT_ ?_
                       refine tV 11 102 4095 HT_ HW_ hHeld ?_
                       refine last_ (i := 12) (N := some 103) (bA 15 8191) rfl rfl (one_of HT_.out (by kernel_rfl)) (by decide) (fun K hK => ?_); refine value_ (w1 := ?_) (v := ?_) (by rfl) rfl ?_ ?_; rotate_left 2
                       ·go_simp; constructor
                        ·rfl
                        ·rfl
                       refine hK.out _ _ ?_; clear hK K; refine nP ?_
                       refine last_ (i := 13) (N := some 104) (bA 15 16383) rfl rfl (one_of HT_.out (by kernel_rfl)) (by decide) (fun K hK => ?_); refine Kd.R_append_step (Kd.int .i64) (w0 := w) w.heap.size (by rfl) (.tmp 91) (.tmp 103) 31 3 (.int .i64 0) 8 rfl Try.underlying31 info3 rfl (by decide) (by omega) (.slice Ao52 x7_4.length co52) x7_4 (rd (rd_L1 l0_0 (rd x5_2 x8_3)) x9_4) [.int .i64 (rd (rd_L1 l0_0 (rd x5_2 x8_3)) x9_4)] (fun k_ => (w.heap.size ≤ k_)) (fun _ => False) rfl rfl ?aP (fun _ hk => hk.elim) ?aF ?aO ?aB ?aS ?aL ?_; (case aP => exact rfl); (case aB => exact (by exact rB HB)); (case aF => exact (fun k_ hk => (Nat.le_trans (bZ HB) hk))); (case aO => exact (by exact rR HO_7)); (case aS => exact (bZ HB)); (case aL => have := LMc49.out; omega); intro v142 w54 ho hb hg hat; rw [← Ny141.out] at ho; replace HO_5 := aM (Kd.V_afterv (ok := (fun k_ => (P0_0_ k_ ∨ w.heap.size ≤ k_) ∧ k_ ≠ gb118)) (by exact xV (Kd.V_mono HO_5.out (fun _ hk => ⟨⟨hk.1, hk.2.2⟩, hk.2.1⟩))) hg hat); replace HO_119000 := aM (Kd.V_afterv (ok := (fun k_ => (P0_0_ k_ ∨ w.heap.size ≤ k_) ∧ k_ ≠ gb118)) (by exact xV (Kd.V_mono HO_119000.out (fun _ hk => ⟨⟨hk.1, hk.2.2⟩, hk.2.1⟩))) hg hat); replace BK118 := aM (blk_grown (g := gb118) (o := .cells #[.slice (some ad123) l0_0.length c0_0] 27 (0, 0)) (by exact rX BK118) hg (Kd.R_ne HO_7.out BK118.out (by decide))); replace HL133_0 := aM (Kd.V_afterv (ok := (fun k_ => (P0_0_ k_ ∨ w.heap.size ≤ k_) ∧ k_ ≠ gb118)) (by exact xV (Kd.V_mono HL133_0.out (fun _ hk => ⟨⟨hk.1, hk.2.2⟩, hk.2.1⟩))) hg hat); replace HL135_0 := aM (Kd.V_afterv (ok := (fun k_ => (P0_0_ k_ ∨ w.heap.size ≤ k_) ∧ k_ ≠ gb118)) (by exact xV (Kd.V_mono HL135_0.out (fun _ hk => ⟨⟨hk.1, hk.2.2⟩, hk.2.1⟩))) hg hat); replace HL139_0 := aM (Kd.V_afterv (ok := (fun k_ => (P0_0_ k_ ∨ w.heap.size ≤ k_) ∧ k_ ≠ gb118)) (by exact xV (Kd.V_mono HL139_0.out (fun _ hk => ⟨⟨hk.1, hk.2.2⟩, hk.2.1⟩))) hg hat); replace HB := aM (hb); have HO143 := aM (ho); clear HO_7
                       clear ho hb hg hat; refine hK.out _ _ ?_; clear hK K; refine nP ?_
                       refine pV 14 7 32767 HT_ ?_
                       refine done_ (done_of HT_.out (by kernel_rfl)) ?_
                       try go_wp2
                       go_roundg k4
                       case measure => have := HJ2.out; have := HK2.out; have := HK3.out; have := HK4.out; omega
                       case rel => exact ⟨(y141), (wrap64 (x9_4 + 1)), (by first | rfl | (simp; done) | (simp [*]; done)), H', ⟨by have := HJ2.out; have := HK2.out; have := HK3.out; have := HK4.out; omega⟩, ⟨by exact xV (Kd.V_mono HO_5.out (fun _ hk => ⟨hk.1.1, ⟨hk.2, hk.1.2⟩⟩))⟩, ⟨by exact rR HO143⟩, ⟨by exact xV (Kd.V_mono HO_119000.out (fun _ hk => ⟨hk.1.1, ⟨hk.2, hk.1.2⟩⟩))⟩, ⟨by exact rX BK118⟩, ⟨by exact rB HB⟩⟩
                      ·rw [if_neg c49] at H; exact absurd H (by simp)
                    ·rw [if_neg c43] at H; exact absurd H (by simp)
                   ·rw [if_neg c42] at H; have c42b0 : decide (x9_4 < ((rd_L1 l0_0 (rd x5_2 x8_3)).length : Int)) = false := decide_eq_false c42; clear c42; have H' := aM H; clear H
                    try go_wp2
                    replace HO_5 := aM (Kd.V_drew HO_5.out); replace HO_7 := aM (Kd.R_drew HO_7.out); replace HO_119000 := aM (Kd.V_drew HO_119000.out); replace BK118 := aM (blk_drew BK118.out); replace HB := aM (below_drew1 HB.out)
                    have p132 : 0 ≤ (x8_3 : Int) := oD; have q132 : x8_3 < (x5_2.length : Int) := oD; obtain ⟨ad132, e132, hx132_0⟩ := Kd.at_int (Kd.V_reads' HO_5.out).2.2 x8_3 p132 q132; cases e132; replace p132 := eq_true p132; replace q132 := eq_true q132; have p133 : 0 ≤ ((rd x5_2 x8_3) : Int) := oD; have q133 : (rd x5_2 x8_3) < (l0_0.length : Int) := oD; obtain ⟨ad133, A133_0, c133_0, e133, hx133_0, hl133_0, hi133_0⟩ := at_L1 (Kd.V_reads' HO_119000.out).2.2 (rd x5_2 x8_3) p133 q133; obtain rfl : ad123 = ad133 := (by injection e133); obtain ⟨ce133, hce133, hMe133, hcc133⟩ := Kd.V_get HO_119000.out [] (rd x5_2 x8_3) p133 (by first | exact q133 | exact oD | (have e_ := (Kd.V_reads' HO_119000.out).1; omega)); obtain ⟨ua133_0, uc133_0, rfl, ul133_0, ge133_0⟩ := Kd.FK_slice_open hMe133; have hv133_0 := hcc133 0 _ rfl; rw [Nat.add_zero, show ((Kd.slice 3 (Kd.int .i64))).sz = 1 from rfl, Nat.mul_one] at hv133_0; replace hv133_0 := Option.some.inj (hv133_0.symm.trans hx133_0); injection hv133_0 with hva_ hvn_ hvc_; rw [hva_] at ge133_0; rw [hvc_] at ul133_0; have HL133_0 := aM (show Kd.V (Kd.int .i64) 3 _ w.heap.size _ _ (rd_L1 l0_0 (rd x5_2 x8_3)) from Kd.V_mk ul133_0 ge133_0); clear hva_ hvn_ hvc_ ge133_0 ul133_0; clear hcc133 hce133; have HR133_0 := aM hi133_0; have HC133_0 := aM hl133_0; clear hi133_0 hl133_0; replace p133 := eq_true p133; replace q133 := eq_true q133; refine start_ (n := 11) (S := fun w' => w'.cell? ⟨gb118, 0, none⟩ = some (.slice (some ad123) l0_0.length c0_0) ∧ w'.cell? (ad132.add (x8_3).toNat) = some (.int .i64 (rd x5_2 x8_3)) ∧ w'.cell? (ad123.add ((rd x5_2 x8_3)).toNat) = some (.slice A133_0 (rd_L1 l0_0 (rd x5_2 x8_3)).length c133_0)) (ds := []) (bA 11 0) (by kernel_rfl) rfl rfl ⟨(blk_cell BK118.out 0).trans rfl, hx132_0, hx133_0⟩ (fun hHeld => ?_); refine with_tabW spec_IsGrowing.tab12 spec_IsGrowing.bits12 (fun HT_ HW_ => ?_); generalize wr.drew = w55 at HO_5 HO_7 HO_119000 BK118 HB HL133_0 HR133_0 hx132_0 hx133_0 hHeld ⊢; refine pV 0 64 1 HT_ ?_
                    refine pV 1 65 3 HT_ ?_
                    refine pV 3 67 11 HT_ ?_
                    refine pV 4 68 27 HT_ ?_
                    refine pV 5 69 59 HT_ ?_
                    refine tV 2 66 63 HT_ HW_ hHeld ?_
                    refine tV 6 70 127 HT_ HW_ hHeld ?_
                    refine pV 7 71 255 HT_ ?_
                    refine tV 8 72 511 HT_ HW_ hHeld ?_
                    refine pV 9 73 1023 HT_ ?_
                    refine pV 10 74 2047 HT_ ?_
                    refine done_ (done_of HT_.out (by kernel_rfl)) ?_
                    try go_wp2
                    go_roundg k4
                    case measure => have := HJ2.out; have := HK2.out; have := HK3.out; have := HK4.out; omega
                    case rel => exact ⟨(x7_4), (wrap64 (x8_3 + 1)), (by first | rfl | (simp; done) | (simp [*]; done)), H', ⟨by have := HJ2.out; have := HK2.out; have := HK3.out; have := HK4.out; omega⟩, ⟨by exact rV HO_5⟩, ⟨by exact rR HO_7⟩, ⟨by exact rV HO_119000⟩, ⟨by exact rX BK118⟩, ⟨by exact rB HB⟩⟩
                  ·rw [if_neg c41] at H; exact absurd H (by simp)
                 ·rw [if_neg c40] at H; exact absurd H (by simp)
                ·rw [if_neg c39] at H; exact absurd H (by simp)
               ·rw [if_neg c38] at H; exact absurd H (by simp)
            ·rw [if_neg c36] at H; have c36b0 : decide (x8_3 < (x5_2.length : Int)) = false := decide_eq_false c36; clear c36; have H' := aM H; clear H; obtain ⟨Ao56, co56, eo56⟩ := Kd.V_slice HO_5.out; subst eo56; go_wp2; go_roundg k3
             case measure => have := HJ2.out; have := HK2.out; have := HK3.out; omega
             case rel => exact ⟨(x7_3), (wrap64 (x6_2 + 1)), (by first | rfl | (simp; done) | (simp [*]; done)), H', ⟨by have := HJ2.out; have := HK2.out; have := HK3.out; omega⟩, ⟨Kd.V_mono (Kd.R_V (by exact xR ((Kd.R_types HO_7.out BK118.out (by decide))))) (fun k_ hk => by first | exact ⟨(.inr (hk.1)), hk.2⟩ | exact (.inr (hk)))⟩, ⟨by exact xV (Kd.V_mono HO_119000.out (fun _ hk => ⟨hk.1, hk.2.2⟩))⟩, ⟨by exact rX BK118⟩, ⟨by exact rB HB⟩⟩
         ·rw [if_neg c32] at H; have c32b0 : decide (x6_2 ≤ (l0_0.length : Int)) = false := decide_eq_false c32; clear c32; obtain rfl := Option.some.inj H; have hcz57_0 := z10 BK118; have hfz57_0 := blk_frozen BK118.out 0; obtain ⟨Ao58, co58, eo58⟩ := Kd.V_slice HO_5.out; subst eo58; go_wp2; go_ret; exact ⟨by first | rfl | (simp [errW_none, errW_some] <;> rfl) | (simp [*, errW_none, errW_some] <;> rfl), by exact rB HB⟩
      ·rw [if_neg c29] at H; exact absurd H (by simp)
     ·rw [if_neg c28] at H; exact absurd H (by simp)
    ·rw [if_neg c27] at H; exact absurd H (by simp)
mutual
def spec_FixedPrefix.j0 : Nat → Int → Int → Bool → List (List Int) → Option (List Int × Bool)
 | 0, _, _, _, _ => none
 | k + 1, x1, x2, x18, x145000 => if x18 = true then (some ((([] : List Int)), false)) else ((some (([] : List Int) : List Int)).bind fun y150 => (if 0 ≤ x1 then (if x1 < (x145000.length : Int) then (if y150.length + (rd_L1 x145000 x1).length < 17592186044416 then (spec_FixedPrefix.l0 k x2 (y150 ++ (rd_L1 x145000 x1)) 1 x145000) else (none)) else (none)) else (none)))
def spec_FixedPrefix.l0 : Nat → Int → List Int → Int → List (List Int) → Option (List Int × Bool)
 | 0, _, _, _, _ => none
 | k + 1, x2, x8, x9, x145000 => if x9 < x2 then (if (x8.length : Int) < x2 then (if 0 ≤ x9 then (if x9 < (x8.length : Int) then (if 0 ≤ (rd x8 x9) then (if (rd x8 x9) < (x145000.length : Int) then (if x8.length + (rd_L1 x145000 (rd x8 x9)).length < 17592186044416 then (spec_FixedPrefix.l0 k x2 (x8 ++ (rd_L1 x145000 (rd x8 x9))) (wrap64 (x9 + 1)) x145000) else (none)) else (none)) else (none)) else (none)) else (none)) else (if 0 ≤ x2 then (if x2 ≤ (x8.length : Int) then (some ((x8.take (x2 : Int).toNat), true)) else (none)) else (none))) else (if (x8.length : Int) < x2 then (some ((([] : List Int)), false)) else (if 0 ≤ x2 then (if x2 ≤ (x8.length : Int) then (some ((x8.take (x2 : Int).toNat), true)) else (none)) else (none)))
end
def spec_FixedPrefix.f (k : Nat) (l0_0 : List (List Int)) (a1 : Int) (a2 : Int) : Option (List Int × Bool) := (spec_IsGrowing.f k l0_0 a1).bind fun t145 => (if t145 = true then ((spec_l1In.f a2 0 256).bind fun t146 => (spec_FixedPrefix.j0 k a1 a2 (!t146) l0_0)) else (spec_FixedPrefix.j0 k a1 a2 true l0_0))
def spec_FixedPrefix.T7 : Bool × List (List Nat × List Nat) := (true, [([], []), ([], []), ([1], [1]), ([], []), ([], []), ([3, 4], [3, 4]), ([5], [5]), ([2, 6], [2, 6]), ([7], [7]), ([0, 8], [0, 8]), ([9, 9, 0, 1, 2, 3, 4, 5, 6, 7, 8, 9], [0, 3, 9])])
def spec_FixedPrefix.B7 : List Nat := [0, 0, 2, 0, 0, 24, 56, 126, 254, 511, 1023]
theorem spec_FixedPrefix.tab7 : rtab .any (opsOf Try.f21 7) = spec_FixedPrefix.T7 := by kernel_rfl
theorem spec_FixedPrefix.bits7 : waitsOk spec_FixedPrefix.T7.2 spec_FixedPrefix.B7 = true := by kernel_rfl
set_option maxHeartbeats 8000000 in
set_option maxRecDepth 100000 in
theorem spec_FixedPrefix.calls (k : Nat) (A0_0 : Option Addr) (c0_0 : Nat) (l0_0 : List (List Int)) (a1 : Int) (a2 : Int) (r1 : List Int) (r2 : Bool) (w : World) (hr0_0 : Kd.C (Kd.slice 3 (Kd.int .i64)) w A0_0 l0_0.length l0_0) (hc0_0 : l0_0.length ≤ c0_0) (h : spec_FixedPrefix.f k l0_0 a1 a2 = some (r1, r2)) :
  Calls Try.prog 21 #[.agg #[.slice A0_0 l0_0.length c0_0], .int .i64 a1, .int .i64 a2] w fun e w' => ∃ v0_ : Value, e = .returned (.tuple #[v0_, .bool r2]) ∧ Kd.R (Kd.int .i64) 3 w' w.heap.size (fun _ => True) v0_ r1 ∧ Below w.heap.size w w' := by
 have hu27 := Try.underlying27; have HR0_0 := aM hr0_0; have HC0_0 := aM hc0_0; clear hr0_0 hc0_0; have HB := aM (Below.refl w.heap.size w); have H : ((spec_IsGrowing.f k l0_0 a1).bind fun t145 => (if t145 = true then ((spec_l1In.f a2 0 256).bind fun t146 => (spec_FixedPrefix.j0 k a1 a2 (!t146) l0_0)) else (spec_FixedPrefix.j0 k a1 a2 true l0_0))) = some (r1, r2) := h; clear h; have HC4 := aM H; clear H; go_enter Try.func21, Try.ntmps21; go_upto_region 1 with (first | ((with_reducible refine gate_dst (N := 3) rfl ?_); (try (refine gate_guard (by rfl) ?_; dsimp only)); refine box_event ?hg (N := 3) ?hd (cs := #[.slice A0_0 l0_0.length c0_0]) (t := 27) ?hr ?_; (case hd | hg => rfl); (case hr => go_simp <;> rfl); intro gb144 hg w5 hbox hb; have BK144 := aM (hbox); have GW144 := bG HB hg; have GE144 := bG HB hg; replace HB := bS HB hb; have qW144 := Ge.mk GW144.out; have qE144 := Ge.mk GE144.out; clear hb hbox hg)); (try simp only [Act.put, qa, qz, qs]); go_cut [18] (fun v18 wc => ∃ (kq : Nat) (x18_3 : Bool), v18 = .bool x18_3 ∧ Aside0 (spec_FixedPrefix.j0 kq a1 a2 x18_3 l0_0 = some (r1, r2)) ∧ Aside0 (kq ≤ k) ∧ Aside0 (wc.heap[gb144]? = some (.cells #[(.slice A0_0 l0_0.length c0_0)] 27 (0, 0))) ∧ Aside0 (Below w.heap.size w wc))
 case first =>
  have H := HC4.out; clear HC4; replace H := bE H; obtain ⟨t145, A60, H⟩ := H; replace H : (if t145 = true then ((spec_l1In.f a2 0 256).bind fun t146 => (spec_FixedPrefix.j0 k a1 a2 (!t146) l0_0)) else (spec_FixedPrefix.j0 k a1 a2 true l0_0)) = some (r1, r2) := H; have A6 := aM A60; clear A60; by_cases c7 : t145 = true
  ·subst c7; have H1 : ((spec_l1In.f a2 0 256).bind fun t146 => (spec_FixedPrefix.j0 k a1 a2 (!t146) l0_0)) = some (r1, r2) := by rw [if_pos rfl] at H; exact H
   clear H; have H := H1; clear H1; replace H := bE H; obtain ⟨t146, A80, H⟩ := H; replace H : (spec_FixedPrefix.j0 k a1 a2 (!t146) l0_0) = some (r1, r2) := H; have A8 := aM A80; clear A80; have H' := aM H; clear H; have hcz9_0 := z10 BK144; have hfz9_0 := blk_frozen BK144.out 0; go_wp2_with (first | ((with_reducible refine gate_callee (f := 53) rfl ?_); refine goesL_ (some 12) rfl rfl Try.func53 (by kernel_rfl) rfl #[.agg #[.slice A0_0 l0_0.length c0_0], .int .i64 a1] rfl (by (try simp only [mT, mC, mN]); first | done | rfl) ?_; (with_reducible refine (spec_IsGrowing.calls k (fun k_ => k_ < w.heap.size) _ _ l0_0 a1 true _ ?side1 A6.out).mono ?_); (case side1 => exact Kd.V_mk HC0_0.out (Kd.F_below (Kd.C_F (Kd.heap_slice 3 (Kd.heap_int .i64)) HR0_0.out) (by exact rB HB))); rintro e w10 ⟨rfl, hb⟩; refine ⟨_, rfl, ?_⟩; replace BK144 := bK BK144 hb; replace HB := bS HB hb; clear hb) | (go_at_call 36; (with_reducible refine (spec_l1In.calls a2 0 256 t146 _ A8.out).mono ?_); rintro e w' ⟨rfl, ⟨nd, rfl⟩⟩)); go_meet
   case rel => exact ⟨_, (!t146), (by first | rfl | (simp; done) | (simp [*]; done)), H', ⟨by first | omega | exact Nat.le_refl _⟩, ⟨by exact rX BK144⟩, ⟨by exact rB HB⟩⟩
  ·replace c7 := Bool.eq_false_iff.mpr c7; subst c7; have H1 : (spec_FixedPrefix.j0 k a1 a2 true l0_0) = some (r1, r2) := by rw [if_neg (show ¬ (false = true) by decide)] at H; exact H
   clear H; have H := H1; clear H1; have H' := aM H; clear H; have hcz11_0 := z10 BK144; have hfz11_0 := blk_frozen BK144.out 0; go_wp2_with (first | ((with_reducible refine gate_callee (f := 53) rfl ?_); refine goesL_ (some 12) rfl rfl Try.func53 (by kernel_rfl) rfl #[.agg #[.slice A0_0 l0_0.length c0_0], .int .i64 a1] rfl (by (try simp only [mT, mC, mN]); first | done | rfl) ?_; (with_reducible refine (spec_IsGrowing.calls k (fun k_ => k_ < w.heap.size) _ _ l0_0 a1 false _ ?side1 A6.out).mono ?_); (case side1 => exact Kd.V_mk HC0_0.out (Kd.F_below (Kd.C_F (Kd.heap_slice 3 (Kd.heap_int .i64)) HR0_0.out) (by exact rB HB))); rintro e w12 ⟨rfl, hb⟩; refine ⟨_, rfl, ?_⟩; replace BK144 := bK BK144 hb; replace HB := bS HB hb; clear hb)); go_meet
   case rel => exact ⟨_, (true), (by first | rfl | (simp; done) | (simp [*]; done)), H', ⟨by first | omega | exact Nat.le_refl _⟩, ⟨by exact rX BK144⟩, ⟨by exact rB HB⟩⟩
 case rest =>
  clear HC4; (try clear c2); (try clear p2); (try clear c5); (try clear c7); (try clear hcz11_0); (try clear hcz9_0); (try clear hfz11_0); (try clear hfz9_0)
  obtain ⟨kq, x18_3, rfl, HA, HJ3, BK144, HB⟩ := hcut; cases kq with
  | zero => exact absurd HA.out (by simp [spec_FixedPrefix.j0])
  | succ kj3 =>
   have H := HA.out; clear HA; simp only [spec_FixedPrefix.j0] at H; by_cases c13 : x18_3 = true
   ·subst c13; have H1 : (some ((([] : List Int)), false)) = some (r1, r2) := by rw [if_pos rfl] at H; exact H
    clear H; have H := H1; clear H1; obtain ⟨y147, hy147⟩ : ∃ y_ : List Int, y_ = (([] : List Int)) := ⟨_, rfl⟩; replace H : (some (y147, false)) = some (r1, r2) := by rw [hy147]; first | exact H | exact (Option.bind_some _ _).symm.trans H
    have Ny147 := aM hy147; clear hy147; simp only [Option.some.injEq, Prod.mk.injEq] at H; obtain ⟨rfl, rfl⟩ := H; go_wp2_with (first | ((with_reducible refine gate_dst (N := 19) rfl ?_); (try (refine gate_guard (by rfl) ?_; dsimp only)); refine Kd.R_lit (Kd.int .i64) _ 3 ?hg (N := 19) ?hd (xs := ([] : List Int)) (inner := []) (ok := fun _ => True) (okp := fun _ => True) ?hr ?hp (fun _ hk => hk) trivial (Below.refl _ _) (Nat.le_refl _) (by simp) ?_; (case hd | hg => rfl); (case hr => go_simp <;> rfl); (case hp => exact (Reps.none _ _)); intro v148 w14 ho15 hb hg_ hnew_; clear hg_ hnew_; (first | rw [← Ny147.out] at ho15 | (simp only [Int.reduceToNat] at ho15; rw [← Ny147.out] at ho15)); have HO149 := aM (Kd.R_lower ho15 (bZ HB)); replace BK144 := bK BK144 hb; replace HB := bS HB hb; clear hb ho15)); go_ret2; exact ⟨_, by first | rfl | (simp [errW_none, errW_some] <;> rfl) | (simp [*, errW_none, errW_some] <;> rfl), by exact rR HO149, by exact rB HB⟩
   ·replace c13 := Bool.eq_false_iff.mpr c13; subst c13; have H1 : ((some (([] : List Int) : List Int)).bind fun y150 => (if 0 ≤ a1 then (if a1 < (l0_0.length : Int) then (if y150.length + (rd_L1 l0_0 a1).length < 17592186044416 then (spec_FixedPrefix.l0 kj3 a2 (y150 ++ (rd_L1 l0_0 a1)) 1 l0_0) else (none)) else (none)) else (none))) = some (r1, r2) := by rw [if_neg (show ¬ (false = true) by decide)] at H; exact H
    clear H; have H := H1; clear H1; obtain ⟨y150, hy150⟩ : ∃ y_ : List Int, y_ = (([] : List Int)) := ⟨_, rfl⟩; replace H : (if 0 ≤ a1 then (if a1 < (l0_0.length : Int) then (if y150.length + (rd_L1 l0_0 a1).length < 17592186044416 then (spec_FixedPrefix.l0 kj3 a2 (y150 ++ (rd_L1 l0_0 a1)) 1 l0_0) else (none)) else (none)) else (none)) = some (r1, r2) := by rw [hy150]; first | exact H | exact (Option.bind_some _ _).symm.trans H
    have Ny150 := aM hy150; clear hy150; by_cases c16 : 0 ≤ a1
    ·rw [if_pos c16] at H; have c16b0 : decide (0 ≤ a1) = true := decide_eq_true c16; clear c16; by_cases c17 : a1 < (l0_0.length : Int)
     ·rw [if_pos c17] at H; have c17b0 : decide (a1 < (l0_0.length : Int)) = true := decide_eq_true c17; clear c17; by_cases c18 : y150.length + (rd_L1 l0_0 a1).length < 17592186044416
      ·rw [if_pos c18] at H; have LMc18 := aM c18; clear c18; obtain ⟨y154, hy154⟩ : ∃ y_ : List Int, y_ = (y150 ++ (rd_L1 l0_0 a1)) := ⟨_, rfl⟩; replace H : (spec_FixedPrefix.l0 kj3 a2 y154 1 l0_0) = some (r1, r2) := by rw [hy154]; first | exact H | exact (Option.bind_some _ _).symm.trans H
       have Ny154 := aM hy154; clear hy154; have H' := aM H; clear H; go_wp2_with (first | ((with_reducible refine gate_dst (N := 20) rfl ?_); (try (refine gate_guard (by rfl) ?_; dsimp only)); refine Kd.R_lit (Kd.int .i64) _ 3 ?hg (N := 20) ?hd (xs := ([] : List Int)) (inner := []) (ok := fun _ => True) (okp := fun _ => True) ?hr ?hp (fun _ hk => hk) trivial (Below.refl _ _) (Nat.le_refl _) (by simp) ?_; (case hd | hg => rfl); (case hr => go_simp <;> rfl); (case hp => exact (Reps.none _ _)); intro v151 w19 ho20 hb hg_ hnew_; clear hg_ hnew_; (first | rw [← Ny150.out] at ho20 | (simp only [Int.reduceToNat] at ho20; rw [← Ny150.out] at ho20)); have HO152 := aM (Kd.R_lower ho20 (bZ HB)); replace BK144 := bK BK144 hb; replace HB := bS HB hb; clear hb ho20; have hcz21_0 := z10 BK144; have hfz21_0 := blk_frozen BK144.out 0; have p153 : 0 ≤ (a1 : Int) := oD; have q153 : a1 < (l0_0.length : Int) := oD; obtain ⟨ad153, A153_0, c153_0, e153, hx153_0, hl153_0, hi153_0⟩ := at_L1 HR0_0.out a1 p153 q153; cases e153; replace hx153_0 := (HB.out.cell (World.block_lt_of_cell? w _ hx153_0)).trans hx153_0; have HR153_0 := aM hi153_0; have HC153_0 := aM hl153_0; clear hi153_0 hl153_0; replace p153 := eq_true p153; replace q153 := eq_true q153) | ((with_reducible refine gate_builtin (b := .append) (xs := #[.tmp 20, .tmp 25]) rfl ?_); (try (refine gate_guard (by rfl) ?_; dsimp only)); at_builtin; refine Kd.R_append_rows (Kd.int .i64) (w0 := w) w.heap.size rfl (.tmp 20) (.tmp 25) 31 3 (.int .i64 0) 8 rfl Try.underlying31 info3 rfl (by decide) (by omega) v151 y150 (rd_L1 l0_0 a1) _ _ _ (fun _ => True) (fun _ => False) rfl rfl ?aO ?aR (fun _ _ h => h) (fun _ h => h.elim) ?aF ?aB ?aS ?aL ?_; (case aR => exact xC ((Kd.C_below HR153_0.out HB.out))); (case aB => exact (by exact rB HB)); (case aF => exact (fun _ _ => trivial)); (case aO => exact (by exact rR HO152)); (case aS => exact (bZ HB)); (case aL => have := LMc18.out; omega); intro v155 w22 ho hb hg hat; rw [← Ny154.out] at ho; replace BK144 := aM (blk_grown (g := gb144) (o := .cells #[.slice (some ad153) l0_0.length c0_0] 27 (0, 0)) (by exact rX BK144) hg (Kd.R_ne HO152.out BK144.out (by decide))); replace HB := aM (hb); have HO156 := aM (ho); clear HO152; clear ho hb hg hat)); go_loopg [8, 9] kj3 (fun kq v8 v9 w' => ∃ (x8_2 : List Int) (x9_2 : Int), v9 = .int .i64 x9_2 ∧ Aside0 (spec_FixedPrefix.l0 kq a2 x8_2 x9_2 l0_0 = some (r1, r2)) ∧ Aside0 (kq ≤ kj3) ∧ Aside0 (Kd.R (Kd.int .i64) 3 w' w.heap.size (fun _ => True) v8 x8_2) ∧ Aside0 (w'.heap[gb144]? = some (.cells #[(.slice (some ad153) l0_0.length c0_0)] 27 (0, 0))) ∧ Aside0 (Below w.heap.size w w'))
       case atStart => exact ⟨(y154), (1), (by first | rfl | (simp; done) | (simp [*]; done)), H', ⟨Nat.le_refl _⟩, ⟨by exact rR HO156⟩, ⟨by exact rX BK144⟩, ⟨by exact rB HB⟩⟩
       case round =>
        clear H'; (try clear c1); (try clear p1); (try clear q1); (try clear hx1); (try clear c2); (try clear p2); (try clear c5); (try clear c7); (try clear c13); (try clear c15); (try clear p15); (try clear q15); (try clear hx15); (try clear c16); (try clear c16b0); (try clear c17); (try clear c17b0); (try clear c18); (try clear c21); (try clear hcz11_0); (try clear hcz21_0); (try clear hcz9_0); (try clear hfz11_0); (try clear hfz21_0); (try clear hfz9_0); (try clear hx153_0); (try clear p153); (try clear p2); (try clear q153)
        obtain ⟨x8_2, x9_2, rfl, HA, HK2, HO_8, BK144, HB⟩ := hrel; cases gk with
        | zero => exact absurd HA.out (by simp [spec_FixedPrefix.l0])
        | succ k2 =>
         have H := HA.out; clear HA; simp only [spec_FixedPrefix.l0] at H; by_cases c23 : x9_2 < a2
         ·rw [if_pos c23] at H; have c23b0 : decide (x9_2 < a2) = true := decide_eq_true c23; clear c23; by_cases c24 : (x8_2.length : Int) < a2
          ·rw [if_pos c24] at H; have c24b0 : decide ((x8_2.length : Int) < a2) = true := decide_eq_true c24; clear c24; by_cases c25 : 0 ≤ x9_2
           ·rw [if_pos c25] at H; have c25b0 : decide (0 ≤ x9_2) = true := decide_eq_true c25; clear c25; by_cases c26 : x9_2 < (x8_2.length : Int)
            ·rw [if_pos c26] at H; have c26b0 : decide (x9_2 < (x8_2.length : Int)) = true := decide_eq_true c26; clear c26; by_cases c27 : 0 ≤ (rd x8_2 x9_2)
             ·rw [if_pos c27] at H; have c27b0 : decide (0 ≤ (rd x8_2 x9_2)) = true := decide_eq_true c27; clear c27; by_cases c28 : (rd x8_2 x9_2) < (l0_0.length : Int)
              ·rw [if_pos c28] at H; have c28b0 : decide ((rd x8_2 x9_2) < (l0_0.length : Int)) = true := decide_eq_true c28; clear c28; by_cases c29 : x8_2.length + (rd_L1 l0_0 (rd x8_2 x9_2)).length < 17592186044416
               ·rw [if_pos c29] at H; have LMc29 := aM c29; clear c29; obtain ⟨y159, hy159⟩ : ∃ y_ : List Int, y_ = (x8_2 ++ (rd_L1 l0_0 (rd x8_2 x9_2))) := ⟨_, rfl⟩; replace H : (spec_FixedPrefix.l0 k2 a2 y159 (wrap64 (x9_2 + 1)) l0_0) = some (r1, r2) := by rw [hy159]; first | exact H | exact (Option.bind_some _ _).symm.trans H
                have Ny159 := aM hy159; clear hy159; have H' := aM H; clear H; obtain ⟨Ao30, co30, eo30⟩ := Kd.R_slice HO_8.out; subst eo30
                try go_wp2
                replace HO_8 := aM (Kd.R_drew HO_8.out); replace BK144 := aM (blk_drew BK144.out); replace HB := aM (below_drew1 HB.out)
                have p157 : 0 ≤ (x9_2 : Int) := oD; have q157 : x9_2 < (x8_2.length : Int) := oD; obtain ⟨ad157, e157, hx157_0⟩ := Kd.at_int (Kd.R_reads' HO_8.out).2.2 x9_2 p157 q157; cases e157; replace p157 := eq_true p157; replace q157 := eq_true q157; have p158 : 0 ≤ ((rd x8_2 x9_2) : Int) := oD; have q158 : (rd x8_2 x9_2) < (l0_0.length : Int) := oD; obtain ⟨ad158, A158_0, c158_0, e158, hx158_0, hl158_0, hi158_0⟩ := at_L1 HR0_0.out (rd x8_2 x9_2) p158 q158; have hw158_0 := hx158_0; obtain rfl : ad153 = ad158 := (by injection e158); (try replace hx158_0 := (HB.out.cell (World.block_lt_of_cell? w _ hx158_0)).trans hx158_0); have HR158_0 := aM hi158_0; have HC158_0 := aM hl158_0; clear hi158_0 hl158_0; replace p158 := eq_true p158; replace q158 := eq_true q158; refine start_ (n := 11) (S := fun w' => w'.cell? ⟨gb144, 0, none⟩ = some (.slice (some ad153) l0_0.length c0_0) ∧ w'.cell? (ad157.add (x9_2).toNat) = some (.int .i64 (rd x8_2 x9_2)) ∧ w'.cell? (ad153.add ((rd x8_2 x9_2)).toNat) = some (.slice A158_0 (rd_L1 l0_0 (rd x8_2 x9_2)).length c158_0)) (ds := [9]) (bA 11 0) (by kernel_rfl) rfl rfl ⟨(blk_cell BK144.out 0).trans rfl, hx157_0, ((HB.out.cell (World.block_lt_of_cell? w _ hw158_0)).trans hw158_0)⟩ (fun hHeld => ?_); refine with_tabW spec_FixedPrefix.tab7 spec_FixedPrefix.bits7 (fun HT_ HW_ => ?_); generalize wr.drew = w31 at HO_8 BK144 HB HR158_0 hx157_0 hx158_0 hHeld ⊢; refine pV 0 38 1 HT_ ?_
                refine pV 1 39 3 HT_ ?_
                refine pV 3 41 11 HT_ ?_
                refine pV 4 42 27 HT_ ?_
                refine pV 5 43 59 HT_ ?_
                refine tV 2 40 63 HT_ HW_ hHeld ?_
                refine tV 6 44 127 HT_ HW_ hHeld ?_
                refine pV 7 45 255 HT_ ?_
                refine tV 8 46 511 HT_ HW_ hHeld ?_
                refine last_ (i := 9) (N := some 47) (bA 11 1023) rfl rfl (one_of HT_.out (by kernel_rfl)) (by decide) (fun K hK => ?_); refine Kd.R_append_rows_step (Kd.int .i64) (w0 := w) w.heap.size (by rfl) (.tmp 38) (.tmp 46) 31 3 (.int .i64 0) 8 rfl Try.underlying31 info3 rfl (by decide) (by omega) (.slice (some ad157) x8_2.length co30) x8_2 (rd_L1 l0_0 (rd x8_2 x9_2)) _ _ _ (fun _ => True) (fun _ => False) rfl rfl ?aO ?aR (fun _ _ h => h) (fun _ h => h.elim) ?aF ?aB ?aS ?aL ?_; (case aR => exact xC ((Kd.C_below HR158_0.out HB.out))); (case aB => exact (by exact rB HB)); (case aF => exact (fun _ _ => trivial)); (case aO => exact (by exact rR HO_8)); (case aS => exact (bZ HB)); (case aL => have := LMc29.out; omega); intro v160 w32 ho hb hg hat; rw [← Ny159.out] at ho; replace BK144 := aM (blk_grown (g := gb144) (o := .cells #[.slice (some ad153) l0_0.length c0_0] 27 (0, 0)) (by exact rX BK144) hg (Kd.R_ne HO_8.out BK144.out (by decide))); replace HB := aM (hb); have HO161 := aM (ho); clear HO_8
                clear ho hb hg hat; refine hK.out _ _ ?_; clear hK K; refine nP ?_
                refine pV 10 8 2047 HT_ ?_
                refine done_ (done_of HT_.out (by kernel_rfl)) ?_
                try go_wp2
                go_roundg k2
                case measure => have := HJ3.out; have := HK2.out; omega
                case rel => exact ⟨(y159), (wrap64 (x9_2 + 1)), (by first | rfl | (simp; done) | (simp [*]; done)), H', ⟨by have := HJ3.out; have := HK2.out; omega⟩, ⟨by exact rR HO161⟩, ⟨by exact rX BK144⟩, ⟨by exact rB HB⟩⟩
               ·rw [if_neg c29] at H; exact absurd H (by simp)
              ·rw [if_neg c28] at H; exact absurd H (by simp)
             ·rw [if_neg c27] at H; exact absurd H (by simp)
            ·rw [if_neg c26] at H; exact absurd H (by simp)
           ·rw [if_neg c25] at H; exact absurd H (by simp)
          ·rw [if_neg c24] at H; have c24b0 : decide ((x8_2.length : Int) < a2) = false := decide_eq_false c24; clear c24; by_cases c33 : 0 ≤ a2
           ·rw [if_pos c33] at H; have c33b0 := eq_true c33; have c33b1 : decide (0 ≤ a2) = true := decide_eq_true c33; clear c33; by_cases c34 : a2 ≤ (x8_2.length : Int)
            ·rw [if_pos c34] at H; have c34b0 := eq_true c34; have c34b1 : decide (a2 ≤ (x8_2.length : Int)) = true := decide_eq_true c34; clear c34; obtain ⟨y162, hy162⟩ : ∃ y_ : List Int, y_ = (x8_2.take (a2 : Int).toNat) := ⟨_, rfl⟩; replace H : (some (y162, true)) = some (r1, r2) := by rw [hy162]; first | exact H | exact (Option.bind_some _ _).symm.trans H
             have Ny162 := aM hy162; clear hy162; simp only [Option.some.injEq, Prod.mk.injEq] at H; obtain ⟨rfl, rfl⟩ := H; obtain ⟨Ao35, co35, eo35⟩ := Kd.R_slice HO_8.out; subst eo35; have q36 : (a2 : Int) ≤ ((x8_2.length : Int) : Int) := oD; obtain ⟨i036, hi036, _, hsz36, _⟩ := info_parts info3; have hcut36 := cut_to (P := Try.prog) 31 3 .i64 Try.underlying31 hi036 Ao35 x8_2.length co35 a2 (oD) q36 (Kd.R_reads' HO_8.out).2.1; have hr36 := Kd.R_take (m := (a2 : Int).toNat) HO_8.out (by omega); have hy36 : y162.length = (a2 : Int).toNat := (by rw [Ny162.out, List.length_take]; omega); rw [← Ny162.out] at hr36; rw [← hy36] at hr36 hcut36; clear hy36 hi036 hsz36 HO_8; have HO164 := aM hr36; clear hr36; replace q36 := eq_true q36; go_wp2; go_ret2; exact ⟨_, by first | rfl | (simp [errW_none, errW_some] <;> rfl) | (simp [*, errW_none, errW_some] <;> rfl), by exact rR HO164, by exact rB HB⟩
            ·rw [if_neg c34] at H; exact absurd H (by simp)
           ·rw [if_neg c33] at H; exact absurd H (by simp)
         ·rw [if_neg c23] at H; have c23b0 : decide (x9_2 < a2) = false := decide_eq_false c23; clear c23; by_cases c37 : (x8_2.length : Int) < a2
          ·rw [if_pos c37] at H; have c37b0 : decide ((x8_2.length : Int) < a2) = true := decide_eq_true c37; clear c37; obtain ⟨y165, hy165⟩ : ∃ y_ : List Int, y_ = (([] : List Int)) := ⟨_, rfl⟩; replace H : (some (y165, false)) = some (r1, r2) := by rw [hy165]; first | exact H | exact (Option.bind_some _ _).symm.trans H
           have Ny165 := aM hy165; clear hy165; simp only [Option.some.injEq, Prod.mk.injEq] at H; obtain ⟨rfl, rfl⟩ := H; obtain ⟨Ao38, co38, eo38⟩ := Kd.R_slice HO_8.out; subst eo38; go_wp2_with (first | ((with_reducible refine gate_dst (N := 52) rfl ?_); (try (refine gate_guard (by rfl) ?_; dsimp only)); refine Kd.R_lit (Kd.int .i64) _ 3 ?hg (N := 52) ?hd (xs := ([] : List Int)) (inner := []) (ok := fun _ => True) (okp := fun _ => True) ?hr ?hp (fun _ hk => hk) trivial (Below.refl _ _) (Nat.le_refl _) (by simp) ?_; (case hd | hg => rfl); (case hr => go_simp <;> rfl); (case hp => exact (Reps.none _ _)); intro v166 w39 ho40 hb hg_ hnew_; clear hg_ hnew_; (first | rw [← Ny165.out] at ho40 | (simp only [Int.reduceToNat] at ho40; rw [← Ny165.out] at ho40)); have HO167 := aM (Kd.R_lower (Kd.R_new' ho40 (Kd.R_lt (by exact rR HO_8))) (bZ HB)); replace HO_8 := aM (Kd.R_elder' (by exact rR HO_8) (Kd.R_base ho40) hb); replace BK144 := bK BK144 hb; replace HB := bS HB hb; clear hb ho40)); go_ret2; exact ⟨_, by first | rfl | (simp [errW_none, errW_some] <;> rfl) | (simp [*, errW_none, errW_some] <;> rfl), by exact xR (Kd.R_mono HO167.out (fun _ hk => trivial)), by exact rB HB⟩
          ·rw [if_neg c37] at H; have c37b0 : decide ((x8_2.length : Int) < a2) = false := decide_eq_false c37; clear c37; by_cases c41 : 0 ≤ a2
           ·rw [if_pos c41] at H; have c41b0 := eq_true c41; have c41b1 : decide (0 ≤ a2) = true := decide_eq_true c41; clear c41; by_cases c42 : a2 ≤ (x8_2.length : Int)
            ·rw [if_pos c42] at H; have c42b0 := eq_true c42; have c42b1 : decide (a2 ≤ (x8_2.length : Int)) = true := decide_eq_true c42; clear c42; obtain ⟨y168, hy168⟩ : ∃ y_ : List Int, y_ = (x8_2.take (a2 : Int).toNat) := ⟨_, rfl⟩; replace H : (some (y168, true)) = some (r1, r2) := by rw [hy168]; first | exact H | exact (Option.bind_some _ _).symm.trans H
             have Ny168 := aM hy168; clear hy168; simp only [Option.some.injEq, Prod.mk.injEq] at H; obtain ⟨rfl, rfl⟩ := H; obtain ⟨Ao43, co43, eo43⟩ := Kd.R_slice HO_8.out; subst eo43; have q44 : (a2 : Int) ≤ ((x8_2.length : Int) : Int) := oD; obtain ⟨i044, hi044, _, hsz44, _⟩ := info_parts info3; have hcut44 := cut_to (P := Try.prog) 31 3 .i64 Try.underlying31 hi044 Ao43 x8_2.length co43 a2 (oD) q44 (Kd.R_reads' HO_8.out).2.1; have hr44 := Kd.R_take (m := (a2 : Int).toNat) HO_8.out (by omega); have hy44 : y168.length = (a2 : Int).toNat := (by rw [Ny168.out, List.length_take]; omega); rw [← Ny168.out] at hr44; rw [← hy44] at hr44 hcut44; clear hy44 hi044 hsz44 HO_8; have HO170 := aM hr44; clear hr44; replace q44 := eq_true q44; go_wp2; go_ret2; exact ⟨_, by first | rfl | (simp [errW_none, errW_some] <;> rfl) | (simp [*, errW_none, errW_some] <;> rfl), by exact rR HO170, by exact rB HB⟩
            ·rw [if_neg c42] at H; exact absurd H (by simp)
           ·rw [if_neg c41] at H; exact absurd H (by simp)
      ·rw [if_neg c18] at H; exact absurd H (by simp)
     ·rw [if_neg c17] at H; exact absurd H (by simp)
    ·rw [if_neg c16] at H; exact absurd H (by simp)
def slices_Clone_int_int.f (l0 : List Int) : Option (List Int) := if l0.length < 17592186044416 then some l0 else none
set_option maxHeartbeats 1000000 in
set_option maxRecDepth 100000 in
theorem slices_Clone_int_int.calls (A0 : Option Addr) (c0 : Nat) (l0 : List Int) (r : List Int) (w : World) (hr0 : Kd.C (Kd.int .i64) w A0 l0.length l0) (hc0 : l0.length ≤ c0) (h : slices_Clone_int_int.f l0 = some r) :
  Calls Try.prog 60 #[.slice A0 l0.length c0] w fun e w' => ∃ v0_ : Value, e = .returned (v0_) ∧ Kd.R (Kd.int .i64) 3 w' w.heap.size (fun _ => True) v0_ r ∧ Below w.heap.size w w' := by
 unfold slices_Clone_int_int.f at h; split at h
 case isFalse => cases h
 rename_i hlen; obtain rfl := Option.some.inj h; clear h; have HLEN := aM hlen; have HC := aM hr0; have Hc := aM hc0; clear hlen hr0 hc0; cases A0 with
 | none =>
  have e : l0 = [] := by
   cases l0 with
   | nil => rfl
   | cons x l =>
    obtain ⟨ad, he, _⟩ := Kd.at_int HC.out 0 (by omega) (by simp only [List.length_cons]; omega); cases he
  subst e; have hnil : ∀ W : World, (binOp .eql 31 (.slice none 0 c0) (.slice none 0 0)).run Try.prog W = .ok (.bool true) W := fun W => by kernel_rfl
  go_enter Try.func60, Try.ntmps60; go_wp2_with fail; go_ret; exact ⟨_, rfl, Kd.R_nil _ _ _ _ _, Below.refl _ _⟩
 | some a =>
  have hnil : ∀ W : World, (binOp .eql 31 (.slice (some a) l0.length c0) (.slice none 0 0)).run Try.prog W = .ok (.bool false) W := fun W => by kernel_rfl
  go_enter Try.func60, Try.ntmps60; go_wp2_with ((with_reducible refine gate_dst (N := 5) rfl ?_); refine Aside0.out ?_); refine aM ?_; refine Kd.R_lit (Kd.int .i64) _ 3 ?hg (N := 5) ?hd (xs := ([] : List Int)) (inner := []) (ok := fun _ => True) (okp := fun _ => True) ?hr ?hp (fun _ hk => hk) trivial (Below.refl _ _) (Nat.le_refl _) (by simp) ?_
  case hd => rfl
  case hg => rfl
  case hr => first | (go_simp; done) | (go_simp; rfl)
  case hp => exact (Reps.none _ _)
  intro v5 w1 ho1 hb1 _ _; have HO1 := aM ho1; have HB1 := aM hb1; clear ho1 hb1; go_wp2_with ((with_reducible refine gate_builtin (b := .append) (xs := #[.tmp 5, .tmp 6]) rfl ?_); refine Aside0.out ?_); refine aM ?_
  at_builtin
  refine Kd.R_append_rows (Kd.int .i64) (Rr := (Kd.int .i64).K w1) (w0 := w) w.heap.size rfl (.tmp 5) (.tmp 6) 31 3 (.int .i64 0) 8 rfl Try.underlying31 info3 rfl (by decide) (by omega) v5 [] l0 (some a) _ c0 (fun _ => True) (fun _ => False) rfl rfl HO1.out ?aR (fun _ _ h => h) (fun _ hk => hk.elim) (fun _ _ => trivial) HB1.out HB1.out.size ?aL ?_
  case aR => exact Kd.C_below HC.out HB1.out
  case aL => have := HLEN.out; simp only [List.length_nil]; omega
  intro v7 w2 ho2 hb2 _ _; rw [List.nil_append] at ho2; have HO2 := aM ho2; have HB2 := aM hb2; clear ho2 hb2 HO1 HB1; go_wp2_with fail; go_ret; exact ⟨_, rfl, HO2.out, HB2.out⟩
mutual
def impl_FixedPrefix.j0 : Nat → Int → Int → Bool → List (List Int) → Option (List Int × Bool)
 | 0, _, _, _, _ => none
 | k + 1, x1, x2, x21, x353000 => if x21 = true then (some ((([] : List Int)), false)) else (if 0 ≤ x1 then (if x1 < (x353000.length : Int) then ((slices_Clone_int_int.f (rd_L1 x353000 x1)).bind fun t358 => (impl_FixedPrefix.l0 k x2 t358 1 x353000)) else (none)) else (none))
def impl_FixedPrefix.l0 : Nat → Int → List Int → Int → List (List Int) → Option (List Int × Bool)
 | 0, _, _, _, _ => none
 | k + 1, x2, x8, x9, x353000 => if (x8.length : Int) < x2 then (if 0 ≤ x9 then (if x9 < (x8.length : Int) then (if 0 ≤ (rd x8 x9) then (if (rd x8 x9) < (x353000.length : Int) then (if x8.length + (rd_L1 x353000 (rd x8 x9)).length < 17592186044416 then (impl_FixedPrefix.l0 k x2 (x8 ++ (rd_L1 x353000 (rd x8 x9))) (wrap64 (x9 + 1)) x353000) else (none)) else (none)) else (none)) else (none)) else (none)) else ((some (([] : List Int) : List Int)).bind fun y366 => (if 0 ≤ x2 then (if x2 ≤ (x8.length : Int) then ((some (x8.take (x2 : Int).toNat : List Int)).bind fun y369 => (if y366.length + y369.length < 17592186044416 then (some ((y366 ++ y369), true)) else (none))) else (none)) else (none)))
end
def impl_FixedPrefix.f (k : Nat) (l0_0 : List (List Int)) (a1 : Int) (a2 : Int) : Option (List Int × Bool) := (impl_IsGrowing.f k l0_0 a1).bind fun t353 => (if t353 = true then (if a2 < 0 then (impl_FixedPrefix.j0 k a1 a2 true l0_0) else (impl_FixedPrefix.j0 k a1 a2 (decide (a2 > 256)) l0_0)) else (impl_FixedPrefix.j0 k a1 a2 true l0_0))
def impl_FixedPrefix.T7 : Bool × List (List Nat × List Nat) := (true, [([], []), ([], []), ([1], [1]), ([], []), ([], []), ([3, 4], [3, 4]), ([5], [5]), ([2, 6], [2, 6]), ([7], [7]), ([0, 8], [0, 8]), ([9, 9, 0, 1, 2, 3, 4, 5, 6, 7, 8, 9], [0, 3, 9])])
def impl_FixedPrefix.B7 : List Nat := [0, 0, 2, 0, 0, 24, 56, 126, 254, 511, 1023]
theorem impl_FixedPrefix.tab7 : rtab .any (opsOf Try.f28 7) = impl_FixedPrefix.T7 := by kernel_rfl
theorem impl_FixedPrefix.bits7 : waitsOk impl_FixedPrefix.T7.2 impl_FixedPrefix.B7 = true := by kernel_rfl
set_option maxHeartbeats 8000000 in
set_option maxRecDepth 100000 in
theorem impl_FixedPrefix.calls (k : Nat) (A0_0 : Option Addr) (c0_0 : Nat) (l0_0 : List (List Int)) (a1 : Int) (a2 : Int) (r1 : List Int) (r2 : Bool) (w : World) (hr0_0 : Kd.C (Kd.slice 3 (Kd.int .i64)) w A0_0 l0_0.length l0_0) (hc0_0 : l0_0.length ≤ c0_0) (h : impl_FixedPrefix.f k l0_0 a1 a2 = some (r1, r2)) :
  Calls Try.prog 28 #[.agg #[.slice A0_0 l0_0.length c0_0], .int .i64 a1, .int .i64 a2] w fun e w' => ∃ v0_ : Value, e = .returned (.tuple #[v0_, .bool r2]) ∧ Kd.R (Kd.int .i64) 3 w' w.heap.size (fun _ => True) v0_ r1 ∧ Below w.heap.size w w' := by
 have hu27 := Try.underlying27; have HR0_0 := aM hr0_0; have HC0_0 := aM hc0_0; clear hr0_0 hc0_0; have HB := aM (Below.refl w.heap.size w); have H : ((impl_IsGrowing.f k l0_0 a1).bind fun t353 => (if t353 = true then (if a2 < 0 then (impl_FixedPrefix.j0 k a1 a2 true l0_0) else (impl_FixedPrefix.j0 k a1 a2 (decide (a2 > 256)) l0_0)) else (impl_FixedPrefix.j0 k a1 a2 true l0_0))) = some (r1, r2) := h; clear h; have HC4 := aM H; clear H; go_enter Try.func28, Try.ntmps28; go_upto_region 1 with (first | ((with_reducible refine gate_dst (N := 3) rfl ?_); refine box_event ?hg (N := 3) ?hd (cs := #[.slice A0_0 l0_0.length c0_0]) (t := 27) ?hr ?_; (case hd | hg => rfl); (case hr => go_simp <;> rfl); intro gb352 hg w5 hbox hb; have BK352 := aM (hbox); have GW352 := bG HB hg; have GE352 := bG HB hg; replace HB := bS HB hb; have qW352 := Ge.mk GW352.out; have qE352 := Ge.mk GE352.out; clear hb hbox hg)); (try simp only [Act.put, qa, qz, qs]); go_cut [21] (fun v21 wc => ∃ (kq : Nat) (x21_3 : Bool), v21 = .bool x21_3 ∧ Aside0 (impl_FixedPrefix.j0 kq a1 a2 x21_3 l0_0 = some (r1, r2)) ∧ Aside0 (kq ≤ k) ∧ Aside0 (wc.heap[gb352]? = some (.cells #[(.slice A0_0 l0_0.length c0_0)] 27 (0, 0))) ∧ Aside0 (Below w.heap.size w wc))
 case first =>
  have H := HC4.out; clear HC4; replace H := bE H; obtain ⟨t353, A60, H⟩ := H; replace H : (if t353 = true then (if a2 < 0 then (impl_FixedPrefix.j0 k a1 a2 true l0_0) else (impl_FixedPrefix.j0 k a1 a2 (decide (a2 > 256)) l0_0)) else (impl_FixedPrefix.j0 k a1 a2 true l0_0)) = some (r1, r2) := H; have A6 := aM A60; clear A60; by_cases c7 : t353 = true
  ·subst c7; have H1 : (if a2 < 0 then (impl_FixedPrefix.j0 k a1 a2 true l0_0) else (impl_FixedPrefix.j0 k a1 a2 (decide (a2 > 256)) l0_0)) = some (r1, r2) := by rw [if_pos rfl] at H; exact H
   clear H; have H := H1; clear H1; by_cases c8 : a2 < 0
   ·rw [if_pos c8] at H; have c8b0 : decide (a2 < 0) = true := decide_eq_true c8; clear c8
    (first | rw [c8b0] | (simp only [i64_w, i32_w]; rw [c8b0]) | skip)
    have H' := aM H; clear H; have hcz9_0 := z10 BK352; have hfz9_0 := blk_frozen BK352.out 0; go_wp2_with (first | ((with_reducible refine gate_callee (f := 59) rfl ?_); refine goesL_ (some 12) rfl rfl Try.func59 (by kernel_rfl) rfl #[.agg #[.slice A0_0 l0_0.length c0_0], .int .i64 a1] rfl (by (try simp only [mT, mC, mN]); first | done | rfl) ?_; (with_reducible refine (impl_IsGrowing.calls k _ _ l0_0 a1 true _ ?side1 ?side2 A6.out).mono ?_); (case side1 => exact xC ((Kd.C_below HR0_0.out HB.out))); (case side2 => exact HC0_0.out); rintro e w10 ⟨rfl, hb⟩; refine ⟨_, rfl, ?_⟩; replace BK352 := bK BK352 hb; replace HB := bS HB hb; clear hb)); go_meet
    case rel => exact ⟨_, (true), (by first | rfl | (simp; done) | (simp [*]; done)), H', ⟨by first | omega | exact Nat.le_refl _⟩, ⟨by exact rX BK352⟩, ⟨by exact rB HB⟩⟩
   ·rw [if_neg c8] at H; have c8b0 : decide (a2 < 0) = false := decide_eq_false c8; clear c8
    (first | rw [c8b0] | (simp only [i64_w, i32_w]; rw [c8b0]) | skip)
    have H' := aM H; clear H; have hcz11_0 := z10 BK352; have hfz11_0 := blk_frozen BK352.out 0; go_wp2_with (first | ((with_reducible refine gate_callee (f := 59) rfl ?_); refine goesL_ (some 12) rfl rfl Try.func59 (by kernel_rfl) rfl #[.agg #[.slice A0_0 l0_0.length c0_0], .int .i64 a1] rfl (by (try simp only [mT, mC, mN]); first | done | rfl) ?_; (with_reducible refine (impl_IsGrowing.calls k _ _ l0_0 a1 true _ ?side1 ?side2 A6.out).mono ?_); (case side1 => exact xC ((Kd.C_below HR0_0.out HB.out))); (case side2 => exact HC0_0.out); rintro e w12 ⟨rfl, hb⟩; refine ⟨_, rfl, ?_⟩; replace BK352 := bK BK352 hb; replace HB := bS HB hb; clear hb)); go_meet
    case rel => exact ⟨_, (decide (a2 > 256)), (by first | rfl | (simp; done) | (simp [*]; done)), H', ⟨by first | omega | exact Nat.le_refl _⟩, ⟨by exact rX BK352⟩, ⟨by exact rB HB⟩⟩
  ·replace c7 := Bool.eq_false_iff.mpr c7; subst c7; have H1 : (impl_FixedPrefix.j0 k a1 a2 true l0_0) = some (r1, r2) := by rw [if_neg (show ¬ (false = true) by decide)] at H; exact H
   clear H; have H := H1; clear H1; have H' := aM H; clear H; have hcz13_0 := z10 BK352; have hfz13_0 := blk_frozen BK352.out 0; go_wp2_with (first | ((with_reducible refine gate_callee (f := 59) rfl ?_); refine goesL_ (some 12) rfl rfl Try.func59 (by kernel_rfl) rfl #[.agg #[.slice A0_0 l0_0.length c0_0], .int .i64 a1] rfl (by (try simp only [mT, mC, mN]); first | done | rfl) ?_; (with_reducible refine (impl_IsGrowing.calls k _ _ l0_0 a1 false _ ?side1 ?side2 A6.out).mono ?_); (case side1 => exact xC ((Kd.C_below HR0_0.out HB.out))); (case side2 => exact HC0_0.out); rintro e w14 ⟨rfl, hb⟩; refine ⟨_, rfl, ?_⟩; replace BK352 := bK BK352 hb; replace HB := bS HB hb; clear hb)); go_meet
   case rel => exact ⟨_, (true), (by first | rfl | (simp; done) | (simp [*]; done)), H', ⟨by first | omega | exact Nat.le_refl _⟩, ⟨by exact rX BK352⟩, ⟨by exact rB HB⟩⟩
 case rest =>
  clear HC4; (try clear c2); (try clear p2); (try clear c5); (try clear c7); (try clear c8); (try clear c8b0); (try clear hcz11_0); (try clear hcz13_0); (try clear hcz9_0); (try clear hfz11_0); (try clear hfz13_0); (try clear hfz9_0)
  obtain ⟨kq, x21_3, rfl, HA, HJ3, BK352, HB⟩ := hcut; cases kq with
  | zero => exact absurd HA.out (by simp [impl_FixedPrefix.j0])
  | succ kj3 =>
   have H := HA.out; clear HA; simp only [impl_FixedPrefix.j0] at H; by_cases c15 : x21_3 = true
   ·subst c15; have H1 : (some ((([] : List Int)), false)) = some (r1, r2) := by rw [if_pos rfl] at H; exact H
    clear H; have H := H1; clear H1; obtain ⟨y354, hy354⟩ : ∃ y_ : List Int, y_ = (([] : List Int)) := ⟨_, rfl⟩; replace H : (some (y354, false)) = some (r1, r2) := by rw [hy354]; first | exact H | exact (Option.bind_some _ _).symm.trans H
    have Ny354 := aM hy354; clear hy354; simp only [Option.some.injEq, Prod.mk.injEq] at H; obtain ⟨rfl, rfl⟩ := H; go_wp2_with (first | ((with_reducible refine gate_dst (N := 22) rfl ?_); refine Kd.R_lit (Kd.int .i64) _ 3 ?hg (N := 22) ?hd (xs := ([] : List Int)) (inner := []) (ok := fun _ => True) (okp := fun _ => True) ?hr ?hp (fun _ hk => hk) trivial (Below.refl _ _) (Nat.le_refl _) (by simp) ?_; (case hd | hg => rfl); (case hr => go_simp <;> rfl); (case hp => exact (Reps.none _ _)); intro v355 w16 ho17 hb hg_ hnew_; clear hg_ hnew_; (first | rw [← Ny354.out] at ho17 | (simp only [Int.reduceToNat] at ho17; rw [← Ny354.out] at ho17)); have HO356 := aM (Kd.R_lower ho17 (bZ HB)); replace BK352 := bK BK352 hb; replace HB := bS HB hb; clear hb ho17)); go_ret2; exact ⟨_, by first | rfl | (simp [errW_none, errW_some] <;> rfl) | (simp [*, errW_none, errW_some] <;> rfl), by exact rR HO356, by exact rB HB⟩
   ·replace c15 := Bool.eq_false_iff.mpr c15; subst c15; have H1 : (if 0 ≤ a1 then (if a1 < (l0_0.length : Int) then ((slices_Clone_int_int.f (rd_L1 l0_0 a1)).bind fun t358 => (impl_FixedPrefix.l0 kj3 a2 t358 1 l0_0)) else (none)) else (none)) = some (r1, r2) := by rw [if_neg (show ¬ (false = true) by decide)] at H; exact H
    clear H; have H := H1; clear H1; by_cases c18 : 0 ≤ a1
    ·rw [if_pos c18] at H; have c18b0 : decide (0 ≤ a1) = true := decide_eq_true c18; clear c18; by_cases c19 : a1 < (l0_0.length : Int)
     ·rw [if_pos c19] at H; have c19b0 : decide (a1 < (l0_0.length : Int)) = true := decide_eq_true c19; clear c19; replace H := bE H; obtain ⟨t358, A200, H⟩ := H; replace H : (impl_FixedPrefix.l0 kj3 a2 t358 1 l0_0) = some (r1, r2) := H; have A20 := aM A200; clear A200; have H' := aM H; clear H; have hcz21_0 := z10 BK352; have hfz21_0 := blk_frozen BK352.out 0; have p357 : 0 ≤ (a1 : Int) := oD; have q357 : a1 < (l0_0.length : Int) := oD; obtain ⟨ad357, A357_0, c357_0, e357, hx357_0, hl357_0, hi357_0⟩ := at_L1 HR0_0.out a1 p357 q357; cases e357; (try replace hx357_0 := (HB.out.cell (World.block_lt_of_cell? w _ hx357_0)).trans hx357_0); have HR357_0 := aM hi357_0; have HC357_0 := aM hl357_0; clear hi357_0 hl357_0; replace p357 := eq_true p357; replace q357 := eq_true q357; go_wp2_with (first | ((with_reducible refine gate_callee (f := 60) rfl ?_); refine goesL_ (some 28) rfl rfl Try.func60 (by kernel_rfl) rfl #[.slice A357_0 (rd_L1 l0_0 a1).length c357_0] rfl (by (try simp only [mT, mC, mN]); first | done | rfl) ?_; (with_reducible refine (slices_Clone_int_int.calls _ _ (rd_L1 l0_0 a1) t358 _ ?side1 ?side2 A20.out).mono ?_); (case side1 => exact xC ((Kd.C_below HR357_0.out HB.out))); (case side2 => exact HC357_0.out); rintro e w22 ⟨v359, rfl, ho0, hb⟩; refine ⟨_, rfl, ?_⟩; have HO360 := aM (Kd.R_lower ho0 (bZ HB)); replace BK352 := bK BK352 hb; replace HB := bS HB hb; clear hb ho0)); go_loopg [8, 9] kj3 (fun kq v8 v9 w' => ∃ (x8_2 : List Int) (x9_2 : Int), v9 = .int .i64 x9_2 ∧ Aside0 (impl_FixedPrefix.l0 kq a2 x8_2 x9_2 l0_0 = some (r1, r2)) ∧ Aside0 (kq ≤ kj3) ∧ Aside0 (Kd.R (Kd.int .i64) 3 w' w.heap.size (fun _ => True) v8 x8_2) ∧ Aside0 (w'.heap[gb352]? = some (.cells #[(.slice (some ad357) l0_0.length c0_0)] 27 (0, 0))) ∧ Aside0 (Below w.heap.size w w'))
      case atStart => exact ⟨(t358), (1), (by first | rfl | (simp; done) | (simp [*]; done)), H', ⟨Nat.le_refl _⟩, ⟨by exact rR HO360⟩, ⟨by exact rX BK352⟩, ⟨by exact rB HB⟩⟩
      case round =>
       clear H'; (try clear c1); (try clear c2); (try clear p2); (try clear c3); (try clear p3); (try clear q3); (try clear hx3); (try clear c5); (try clear c6); (try clear c7); (try clear c8); (try clear c8b0); (try clear c15); (try clear c18); (try clear c18b0); (try clear c19); (try clear c19b0); (try clear hcz11_0); (try clear hcz13_0); (try clear hcz21_0); (try clear hcz9_0); (try clear hfz11_0); (try clear hfz13_0); (try clear hfz21_0); (try clear hfz9_0); (try clear hx357_0); (try clear p2); (try clear p357); (try clear q357)
       obtain ⟨x8_2, x9_2, rfl, HA, HK2, HO_8, BK352, HB⟩ := hrel; cases gk with
       | zero => exact absurd HA.out (by simp [impl_FixedPrefix.l0])
       | succ k2 =>
        have H := HA.out; clear HA; simp only [impl_FixedPrefix.l0] at H; by_cases c23 : (x8_2.length : Int) < a2
        ·rw [if_pos c23] at H; have c23b0 : decide ((x8_2.length : Int) < a2) = true := decide_eq_true c23; clear c23; by_cases c24 : 0 ≤ x9_2
         ·rw [if_pos c24] at H; have c24b0 : decide (0 ≤ x9_2) = true := decide_eq_true c24; clear c24; by_cases c25 : x9_2 < (x8_2.length : Int)
          ·rw [if_pos c25] at H; have c25b0 : decide (x9_2 < (x8_2.length : Int)) = true := decide_eq_true c25; clear c25; by_cases c26 : 0 ≤ (rd x8_2 x9_2)
           ·rw [if_pos c26] at H; have c26b0 : decide (0 ≤ (rd x8_2 x9_2)) = true := decide_eq_true c26; clear c26; by_cases c27 : (rd x8_2 x9_2) < (l0_0.length : Int)
            ·rw [if_pos c27] at H; have c27b0 : decide ((rd x8_2 x9_2) < (l0_0.length : Int)) = true := decide_eq_true c27; clear c27; by_cases c28 : x8_2.length + (rd_L1 l0_0 (rd x8_2 x9_2)).length < 17592186044416
             ·rw [if_pos c28] at H; have LMc28 := aM c28; clear c28; obtain ⟨y363, hy363⟩ : ∃ y_ : List Int, y_ = (x8_2 ++ (rd_L1 l0_0 (rd x8_2 x9_2))) := ⟨_, rfl⟩; replace H : (impl_FixedPrefix.l0 k2 a2 y363 (wrap64 (x9_2 + 1)) l0_0) = some (r1, r2) := by rw [hy363]; first | exact H | exact (Option.bind_some _ _).symm.trans H
              have Ny363 := aM hy363; clear hy363; have H' := aM H; clear H; obtain ⟨Ao29, co29, eo29⟩ := Kd.R_slice HO_8.out; subst eo29
              try go_wp2
              replace HO_8 := aM (Kd.R_drew HO_8.out); replace BK352 := aM (blk_drew BK352.out); replace HB := aM (below_drew1 HB.out)
              have p361 : 0 ≤ (x9_2 : Int) := oD; have q361 : x9_2 < (x8_2.length : Int) := oD; obtain ⟨ad361, e361, hx361_0⟩ := Kd.at_int (Kd.R_reads' HO_8.out).2.2 x9_2 p361 q361; cases e361; replace p361 := eq_true p361; replace q361 := eq_true q361; have p362 : 0 ≤ ((rd x8_2 x9_2) : Int) := oD; have q362 : (rd x8_2 x9_2) < (l0_0.length : Int) := oD; obtain ⟨ad362, A362_0, c362_0, e362, hx362_0, hl362_0, hi362_0⟩ := at_L1 HR0_0.out (rd x8_2 x9_2) p362 q362; have hw362_0 := hx362_0; obtain rfl : ad357 = ad362 := (by injection e362); (try replace hx362_0 := (HB.out.cell (World.block_lt_of_cell? w _ hx362_0)).trans hx362_0); have HR362_0 := aM hi362_0; have HC362_0 := aM hl362_0; clear hi362_0 hl362_0; replace p362 := eq_true p362; replace q362 := eq_true q362; refine start_ (n := 11) (S := fun w' => w'.cell? ⟨gb352, 0, none⟩ = some (.slice (some ad357) l0_0.length c0_0) ∧ w'.cell? (ad361.add (x9_2).toNat) = some (.int .i64 (rd x8_2 x9_2)) ∧ w'.cell? (ad357.add ((rd x8_2 x9_2)).toNat) = some (.slice A362_0 (rd_L1 l0_0 (rd x8_2 x9_2)).length c362_0)) (ds := [9]) (bA 11 0) (by kernel_rfl) rfl rfl ⟨(blk_cell BK352.out 0).trans rfl, hx361_0, ((HB.out.cell (World.block_lt_of_cell? w _ hw362_0)).trans hw362_0)⟩ (fun hHeld => ?_); refine with_tabW impl_FixedPrefix.tab7 impl_FixedPrefix.bits7 (fun HT_ HW_ => ?_); generalize wr.drew = w30 at HO_8 BK352 HB HR362_0 hx361_0 hx362_0 hHeld ⊢; refine pV 0 35 1 HT_ ?_
              refine pV 1 36 3 HT_ ?_
              refine pV 3 38 11 HT_ ?_
              refine pV 4 39 27 HT_ ?_
              refine pV 5 40 59 HT_ ?_
              refine tV 2 37 63 HT_ HW_ hHeld ?_
              refine tV 6 41 127 HT_ HW_ hHeld ?_
              refine pV 7 42 255 HT_ ?_
              refine tV 8 43 511 HT_ HW_ hHeld ?_
              refine last_ (i := 9) (N := some 44) (bA 11 1023) rfl rfl (one_of HT_.out (by kernel_rfl)) (by decide) (fun K hK => ?_); refine Kd.R_append_rows_step (Kd.int .i64) (w0 := w) w.heap.size (by rfl) (.tmp 35) (.tmp 43) 31 3 (.int .i64 0) 8 rfl Try.underlying31 info3 rfl (by decide) (by omega) (.slice (some ad361) x8_2.length co29) x8_2 (rd_L1 l0_0 (rd x8_2 x9_2)) _ _ _ (fun _ => True) (fun _ => False) rfl rfl ?aO ?aR (fun _ _ h => h) (fun _ h => h.elim) ?aF ?aB ?aS ?aL ?_; (case aR => exact xC ((Kd.C_below HR362_0.out HB.out))); (case aB => exact (by exact rB HB)); (case aF => exact (fun _ _ => trivial)); (case aO => exact (by exact rR HO_8)); (case aS => exact (bZ HB)); (case aL => have := LMc28.out; omega); intro v364 w31 ho hb hg hat; rw [← Ny363.out] at ho; replace BK352 := aM (blk_grown (g := gb352) (o := .cells #[.slice (some ad357) l0_0.length c0_0] 27 (0, 0)) (by exact rX BK352) hg (Kd.R_ne HO_8.out BK352.out (by decide))); replace HB := aM (hb); have HO365 := aM (ho); clear HO_8
              clear ho hb hg hat; refine hK.out _ _ ?_; clear hK K; refine nP ?_
              refine pV 10 8 2047 HT_ ?_
              refine done_ (done_of HT_.out (by kernel_rfl)) ?_
              try go_wp2
              go_roundg k2
              case measure => have := HJ3.out; have := HK2.out; omega
              case rel => exact ⟨(y363), (wrap64 (x9_2 + 1)), (by first | rfl | (simp; done) | (simp [*]; done)), H', ⟨by have := HJ3.out; have := HK2.out; omega⟩, ⟨by exact rR HO365⟩, ⟨by exact rX BK352⟩, ⟨by exact rB HB⟩⟩
             ·rw [if_neg c28] at H; exact absurd H (by simp)
            ·rw [if_neg c27] at H; exact absurd H (by simp)
           ·rw [if_neg c26] at H; exact absurd H (by simp)
          ·rw [if_neg c25] at H; exact absurd H (by simp)
         ·rw [if_neg c24] at H; exact absurd H (by simp)
        ·rw [if_neg c23] at H; have c23b0 : decide ((x8_2.length : Int) < a2) = false := decide_eq_false c23; clear c23; obtain ⟨y366, hy366⟩ : ∃ y_ : List Int, y_ = (([] : List Int)) := ⟨_, rfl⟩; replace H : (if 0 ≤ a2 then (if a2 ≤ (x8_2.length : Int) then ((some (x8_2.take (a2 : Int).toNat : List Int)).bind fun y369 => (if y366.length + y369.length < 17592186044416 then (some ((y366 ++ y369), true)) else (none))) else (none)) else (none)) = some (r1, r2) := by rw [hy366]; first | exact H | exact (Option.bind_some _ _).symm.trans H
         have Ny366 := aM hy366; clear hy366; by_cases c32 : 0 ≤ a2
         ·rw [if_pos c32] at H; have c32b0 := eq_true c32; have c32b1 : decide (0 ≤ a2) = true := decide_eq_true c32; clear c32; by_cases c33 : a2 ≤ (x8_2.length : Int)
          ·rw [if_pos c33] at H; have c33b0 := eq_true c33; have c33b1 : decide (a2 ≤ (x8_2.length : Int)) = true := decide_eq_true c33; clear c33; obtain ⟨y369, hy369⟩ : ∃ y_ : List Int, y_ = (x8_2.take (a2 : Int).toNat) := ⟨_, rfl⟩; replace H : (if y366.length + y369.length < 17592186044416 then (some ((y366 ++ y369), true)) else (none)) = some (r1, r2) := by rw [hy369]; first | exact H | exact (Option.bind_some _ _).symm.trans H
           have Ny369 := aM hy369; clear hy369; by_cases c34 : y366.length + y369.length < 17592186044416
           ·rw [if_pos c34] at H; have LMc34 := aM c34; clear c34; obtain ⟨y373, hy373⟩ : ∃ y_ : List Int, y_ = (y366 ++ y369) := ⟨_, rfl⟩; replace H : (some (y373, true)) = some (r1, r2) := by rw [hy373]; first | exact H | exact (Option.bind_some _ _).symm.trans H
            have Ny373 := aM hy373; clear hy373; simp only [Option.some.injEq, Prod.mk.injEq] at H; obtain ⟨rfl, rfl⟩ := H; obtain ⟨Ao35, co35, eo35⟩ := Kd.R_slice HO_8.out; subst eo35; go_wp2_with (first | ((with_reducible refine gate_dst (N := 45) rfl ?_); refine Kd.R_lit (Kd.int .i64) _ 3 ?hg (N := 45) ?hd (xs := ([] : List Int)) (inner := []) (ok := fun _ => True) (okp := fun _ => True) ?hr ?hp (fun _ hk => hk) trivial (Below.refl _ _) (Nat.le_refl _) (by simp) ?_; (case hd | hg => rfl); (case hr => go_simp <;> rfl); (case hp => exact (Reps.none _ _)); intro v367 w36 ho37 hb hg_ hnew_; clear hg_ hnew_; (first | rw [← Ny366.out] at ho37 | (simp only [Int.reduceToNat] at ho37; rw [← Ny366.out] at ho37)); have HO368 := aM (Kd.R_lower (Kd.R_new' ho37 (Kd.R_lt (by exact rR HO_8))) (bZ HB)); replace HO_8 := aM (Kd.R_elder' (by exact rR HO_8) (Kd.R_base ho37) hb); replace BK352 := bK BK352 hb; replace HB := bS HB hb; clear hb ho37; have q38 : (a2 : Int) ≤ ((x8_2.length : Int) : Int) := oD; obtain ⟨i038, hi038, _, hsz38, _⟩ := info_parts info3; have hroom38 : x8_2.length ≤ co35 := (Kd.R_reads' HO_8.out).2.1; have hC38 : Kd.C (Kd.int .i64) _ Ao35 x8_2.length x8_2 := (Kd.R_reads' HO_8.out).2.2; have hcut38 := cut_to (P := Try.prog) 31 3 .i64 Try.underlying31 hi038 Ao35 x8_2.length co35 a2 (oD) q38 hroom38; have hr38 := Kd.C_take (m := (a2 : Int).toNat) hC38 (by omega); have hy38 : y369.length = (a2 : Int).toNat := (by rw [Ny369.out, List.length_take]; omega); rw [← Ny369.out] at hr38; rw [← hy38] at hcut38; have HR372 := aM hr38; have HC372 := aM (show y369.length ≤ co35 from by omega); clear hr38 hC38 hroom38 hi038 hsz38; have KY38 := aM hy38; clear hy38; have KL38 := aM (show (a2 : Int).toNat ≤ x8_2.length from by omega); replace q38 := eq_true q38) | ((with_reducible refine gate_builtin (b := .append) (xs := #[.tmp 45, .tmp 48]) rfl ?_); at_builtin; refine Kd.R_append_rows (Kd.int .i64) (w0 := w) w.heap.size rfl (.tmp 45) (.tmp 48) 31 3 (.int .i64 0) 8 rfl Try.underlying31 info3 rfl (by decide) (by omega) v367 y366 y369 _ _ _ (fun k_ => some k_ ≠ (.slice Ao35 x8_2.length co35 : Value).ownBlock) (fun _ => False) rfl rfl ?aO ?aR (fun _ _ h => h) (fun _ h => h.elim) ?aF ?aB ?aS ?aL ?_; (case aR => repeat (first | exact (by repeat (first | (with_reducible exact HR372.out) | (with_reducible refine Kd.C_alloc ?_ _) | (with_reducible refine Kd.C_drewN ?_ _) | (with_reducible refine Kd.C_drew ?_) | exact HR372.out)) | (with_reducible refine Kd.C_alloc ?_ _) | (with_reducible refine Kd.C_drewN ?_ _) | (with_reducible refine Kd.C_drew ?_))); (case aB => exact (by exact rB HB)); (case aF => exact (fun k_ hk => Kd.fresh' (Kd.R_lt (by exact rR HO_8)) k_ hk)); (case aO => exact (by exact xR (Kd.R_mono HO368.out (fun _ hk => hk.2)))); (case aS => exact (bZ HB)); (case aL => have := LMc34.out; omega); intro v374 w39 ho hb hg hat; rw [← Ny373.out] at ho; replace BK352 := aM (blk_grown (g := gb352) (o := .cells #[.slice (some ad357) l0_0.length c0_0] 27 (0, 0)) (by exact rX BK352) hg (Kd.R_ne HO368.out BK352.out (by decide))); replace HB := aM (hb); replace HR372 := aM ((show Kd.C (Kd.int .i64) w39 Ao35 y369.length y369 from by rw [Ny369.out]; exact Kd.C_take (m := (a2 : Int).toNat) ((Kd.R_reads' (Kd.R_after (ok := (fun _ => True)) (by exact rR HO_8) hg hat)).2.2) KL38.out)); replace HO_8 := aM (Kd.R_after (ok := (fun _ => True)) (by exact rR HO_8) hg hat); have HO375 := aM (ho); clear HO368; clear ho hb hg hat)); go_ret2; exact ⟨_, by first | rfl | (simp [errW_none, errW_some] <;> rfl) | (simp [*, errW_none, errW_some] <;> rfl), by exact xR (Kd.R_mono HO375.out (fun _ hk => trivial)), by exact rB HB⟩
           ·rw [if_neg c34] at H; exact absurd H (by simp)
          ·rw [if_neg c33] at H; exact absurd H (by simp)
         ·rw [if_neg c32] at H; exact absurd H (by simp)
     ·rw [if_neg c19] at H; exact absurd H (by simp)
    ·rw [if_neg c18] at H; exact absurd H (by simp)
end Go.Proofs.Ytdekenijnbhpfaa.M
/- Growing letters and fixed words: the reference's search, and the words that both make. No condition but sizes. -/
namespace Go.Proofs.Ytdekenijnbhpfaa.M
open Go.RowKit Go.Proofs.YtdekenijnbhpfaaW.PrintWords Go.Proofs.Ytdekenijnbhpfaa.K
set_option linter.unusedVariables false
set_option linter.unusedSimpArgs false
theorem l4Has_ev (l : List Int) (x : Int) (hl : l.length ≤ 1048576) : Ev (fun k => spec_l4Has.f k l x) (decide (x ∈ l)) := by
 unfold spec_l4Has.f; have key : ∀ i, i ≤ l.length → Ev (fun k => spec_l4Has.l0 k l x (i : Int)) (decide (x ∈ l.drop i)) := by
  refine down _ ?_ ?_
  ·exact Ev.step (fun k => by simp only [spec_l4Has.l0]; rfl) (Ev.if_neg (by omega) (Ev.same (Ev.some _) (by simp)))
  ·intro i hi ih; refine Ev.step (fun k => by simp only [spec_l4Has.l0]; rfl) (Ev.if_pos (by omega) (Ev.if_pos (by omega) ?_)); rw [rd_get l i hi]; refine Ev.ite (fun q => Ev.same (Ev.some _) (by rw [eq_comm, decide_eq_true_eq, drop_eq l i hi, q]; exact List.mem_cons_self ..)) (fun q => ?_); rw [wsucc (by omega)]; refine Ev.same ih ?_; rw [decide_eq_decide, drop_eq l i hi, List.mem_cons]; exact ⟨.inr, fun h => h.elim (fun e => absurd e.symm q) id⟩
 exact Ev.same (key 0 (by omega)) (by simp)
def dd (acc : List Int) : List Int → List Int
 | [] => acc
 | z :: zs => dd (if z ∈ acc then acc else acc ++ [z]) zs
def nxl (im : List (List Int)) (acc : List Int) : List Int → List Int
 | [] => acc
 | y :: ys => nxl im (dd acc (rw_ im y.toNat)) ys
def rounds (im : List (List Int)) : Nat → List Int → List Int
 | 0, r => r
 | n + 1, r => rounds im n (nxl im [] r)
theorem dd_mem (z : Int) : ∀ (l acc : List Int), z ∈ dd acc l ↔ z ∈ acc ∨ z ∈ l
 | [], acc => by simp [dd]
 | y :: l, acc => by
  rw [dd, dd_mem z l]; split
  ·rename_i h; rw [List.mem_cons]; exact ⟨fun q => q.elim .inl (fun q => .inr (.inr q)), fun q => q.elim .inl (fun q => q.elim (fun e => .inl (e ▸ h)) .inr)⟩
  ·rw [List.mem_append, List.mem_singleton, List.mem_cons, or_assoc]
theorem nxl_mem (im : List (List Int)) (z : Int) : ∀ (l acc : List Int), z ∈ nxl im acc l ↔ z ∈ acc ∨ ∃ y ∈ l, z ∈ rw_ im y.toNat
 | [], acc => by simp [nxl]
 | y :: l, acc => by
  rw [nxl, nxl_mem im z l, dd_mem, or_assoc]; simp
def good (n : Nat) (l : List Int) : Prop := l.Nodup ∧ ∀ z ∈ l, 0 ≤ z ∧ z < (n : Int)
theorem good_len : ∀ (n : Nat) (l : List Int), good n l → l.length ≤ n
 | 0, l, h => by
  cases l with
  | nil => simp
  | cons a l => have := h.2 a (List.mem_cons_self ..); omega
 | n + 1, l, h => by
  have hn : (l.erase (n : Int)).Nodup := h.1.erase _
  have := good_len n (l.erase (n : Int)) ⟨hn, fun z hz => by
   have h1 := (List.Nodup.mem_erase_iff h.1).1 hz; have h2 := h.2 z h1.2; have h3 := h1.1
   omega⟩
  by_cases q : (n : Int) ∈ l
  ·rw [List.length_erase_of_mem q] at this; omega
  ·rw [List.erase_of_not_mem q] at this; omega
theorem good_put {n : Nat} {l : List Int} (h : good n l) (z : Int) (hz : 0 ≤ z ∧ z < (n : Int)) (hn : z ∉ l) : good n (l ++ [z]) := by
 refine ⟨List.nodup_append.2 ⟨h.1, by simp, fun a ha b hb => by rw [List.mem_singleton] at hb; subst hb; rintro rfl; exact hn ha⟩, fun y hy => ?_⟩; rcases List.mem_append.1 hy with hy | hy
 ·exact h.2 y hy
 ·rw [List.mem_singleton.1 hy]; exact hz
theorem rw_rng {im : List (List Int)} (h : inN im) (y : Nat) : ∀ z ∈ rw_ im y, 0 ≤ z ∧ z < (im.length : Int) := by
 intro z hz; unfold rw_ at hz; by_cases q : y < im.length
 ·rw [List.getD_eq_getElem?_getD, List.getElem?_eq_getElem q] at hz; exact h _ (List.getElem_mem q) z hz
 ·rw [List.getD_eq_getElem?_getD, List.getElem?_eq_none (by omega)] at hz; cases hz
theorem nxl_emp (im : List (List Int)) (t : Nat) (r : List Int) : (∀ z ∈ nxl im [] r, emp im t z.toNat = true) ↔ ∀ y ∈ r, emp im (t + 1) y.toNat = true := by
 constructor
 ·intro h y hy; simp only [emp, List.all_eq_true]; exact fun z hz => h z ((nxl_mem im z r []).2 (.inr ⟨y, hy, hz⟩))
 ·intro h z hz; rcases (nxl_mem im z r []).1 hz with hz | ⟨y, hy, hz⟩
  ·cases hz
  ·have := h y hy; simp only [emp, List.all_eq_true] at this; exact this z hz
theorem rounds_emp (im : List (List Int)) : ∀ (j t : Nat) (r : List Int), (∀ z ∈ rounds im j r, emp im t z.toNat = true) ↔ ∀ y ∈ r, emp im (t + j) y.toNat = true
 | 0, t, r => Iff.rfl
 | j + 1, t, r => by rw [rounds, rounds_emp im j t, nxl_emp]; rfl
theorem rounds_nil (im : List (List Int)) (j : Nat) (r : List Int) : rounds im j r = [] ↔ ∀ y ∈ r, emp im j y.toNat = true := by
 have := rounds_emp im j 0 r; rw [Nat.zero_add] at this; rw [← this]; constructor
 ·intro h z hz; rw [h] at hz; cases hz
 ·intro h; cases hr : rounds im j r with
  | nil => rfl
  | cons a l => have := h a (by rw [hr]; exact List.mem_cons_self ..); cases this
theorem rd_rw (im : List (List Int)) (y : Int) (h0 : 0 ≤ y) (h1 : y < (im.length : Int)) : rd_L1 im y = rw_ im y.toNat := by
 obtain ⟨i, rfl⟩ : ∃ i : Nat, y = (i : Int) := ⟨y.toNat, by omega⟩; rw [rdLL im i (by omega), Int.toNat_natCast]; unfold rw_; rw [List.getD_eq_getElem?_getD, List.getElem?_eq_getElem (by omega)]; rfl
theorem rw_len {im : List (List Int)} (h : ∀ r ∈ im, r.length ≤ 8) (y : Nat) : (rw_ im y).length ≤ 8 := by
 unfold rw_; by_cases q : y < im.length
 ·rw [List.getD_eq_getElem?_getD, List.getElem?_eq_getElem q]; exact h _ (List.getElem_mem q)
 ·rw [List.getD_eq_getElem?_getD, List.getElem?_eq_none (by omega)]; simp
theorem specGr_round (im : List (List Int)) (hin : inN im) (h8 : ∀ r ∈ im, r.length ≤ 8) (hn : im.length ≤ 16) (rest : List Int) (hr : ∀ z ∈ rest, 0 ≤ z ∧ z < (im.length : Int)) (hl : rest.length ≤ 16) (q : Nat) (hq : q ≤ 100) (V : List Int → Bool)
  (next : ∀ acc, good im.length acc → Ev (fun k => spec_IsGrowing.l0 k acc ((q + 1 : Nat) : Int) im) (V acc)) :
  ∀ i, i ≤ rest.length → ∀ acc, good im.length acc → Ev (fun k => spec_IsGrowing.l1 k rest (q : Int) acc (i : Int) im) (V (nxl im acc (rest.drop i))) := by
 refine down _ ?_ ?_
 ·intro acc ha; rw [List.drop_length]; refine Ev.step (fun k => by simp only [spec_IsGrowing.l1]; rfl) (Ev.if_neg (by omega) ?_); rw [wsucc (by omega)]; exact next acc ha
 ·intro i hi ih acc ha; have hb := hr _ (List.getElem_mem hi); have hlen := rw_len h8 rest[i].toNat; rw [drop_eq rest i hi]; have inner : ∀ m, m ≤ (rw_ im rest[i].toNat).length → ∀ acc, good im.length acc → Ev (fun k => spec_IsGrowing.l2 k rest (q : Int) acc (i : Int) (m : Int) im) (V (nxl im (dd acc ((rw_ im rest[i].toNat).drop m)) (rest.drop (i + 1)))) := by
   refine down _ ?_ ?_
   ·intro acc ha; rw [List.drop_length]; refine Ev.step (fun k => by simp only [spec_IsGrowing.l2]; rfl) (Ev.if_pos (by omega) (Ev.if_pos (by omega) ?_)); rw [rd_get rest i hi, rd_rw im _ hb.1 hb.2]; refine Ev.if_pos hb.1 (Ev.if_pos hb.2 (Ev.if_neg (by omega) ?_)); rw [wsucc (by omega)]; exact ih acc ha
   ·intro m hm ihm acc ha; have hal := good_len _ _ ha; rw [drop_eq _ m hm]; refine Ev.step (fun k => by simp only [spec_IsGrowing.l2]; rfl) (Ev.if_pos (by omega) (Ev.if_pos (by omega) ?_)); rw [rd_get rest i hi, rd_rw im _ hb.1 hb.2]; refine Ev.if_pos hb.1 (Ev.if_pos hb.2 (Ev.if_pos (by omega) (Ev.if_pos (by omega) ?_))); rw [rd_get _ m hm, dd]; refine Ev.bind (l4Has_ev acc _ (by omega)) (Ev.ite (fun c => ?_) (fun c => ?_))
    ·rw [decide_eq_true_eq] at c; rw [_root_.if_pos c, wsucc (by omega)]; exact ihm acc ha
    ·rw [decide_eq_true_eq] at c; rw [_root_.if_neg c, wsucc (by omega)]; exact Ev.if_pos (by omega) (ihm _ (good_put ha _ (rw_rng hin _ _ (List.getElem_mem hm)) c))
  have := inner 0 (by omega) acc ha; rw [List.drop_zero] at this; exact Ev.step (fun k => by simp only [spec_IsGrowing.l1]; rfl) (Ev.if_pos (by omega) this)
theorem specGr_rounds (im : List (List Int)) (hin : inN im) (h8 : ∀ r ∈ im, r.length ≤ 8) (hn : im.length ≤ 16) : ∀ (j q : Nat), q + j = im.length + 1 → ∀ rest, (∀ z ∈ rest, 0 ≤ z ∧ z < (im.length : Int)) → rest.length ≤ 16 → Ev (fun k => spec_IsGrowing.l0 k rest (q : Int) im) (decide (rounds im j rest ≠ []))
 | 0, q, hq, rest, hr, hl => by
  refine Ev.step (fun k => by simp only [spec_IsGrowing.l0]; rfl) (Ev.if_neg (by omega) (Ev.same (Ev.some _) ?_)); rw [rounds]; cases rest with
  | nil => simp
  | cons a l => simp
 | j + 1, q, hq, rest, hr, hl => by
  refine Ev.step (fun k => by simp only [spec_IsGrowing.l0]; rfl) (Ev.if_pos (by omega) ?_); have := specGr_round im hin h8 hn rest hr hl q (by omega) (fun acc => decide (rounds im j acc ≠ [])) (fun acc ha => specGr_rounds im hin h8 hn j (q + 1) (by omega) acc ha.2 (by have := good_len _ _ ha; omega)) 0 (by omega) [] ⟨List.nodup_nil, fun z hz => by cases hz⟩; rw [List.drop_zero] at this; exact this
theorem specGr_ev (im : List (List Int)) (a : Int) (h : im.length ≤ 1048576) (ht : total im ≤ 1048576) : Ev (fun k => spec_IsGrowing.f k im a) (gr im a) := by
 have no : Ev (fun k => spec_IsGrowing.j0 k a true im) false := Ev.step (fun k => by simp only [spec_IsGrowing.j0]; rfl) (Ev.if_pos trivial (Ev.some _)); unfold spec_IsGrowing.f gr; refine Ev.bind (specIsMorphism_ev im h ht) ?_; cases hm : mo im with
 | false => exact Ev.if_neg (by simp) no
 | true =>
  obtain ⟨hin, _, hn, hg⟩ := mo_in hm; have h8 : ∀ r ∈ im, r.length ≤ 8 := fun r hr => (hg r hr).1
  rw [Bool.true_and]; refine Ev.if_pos rfl (Ev.ite (fun c => ?_) (fun c => Ev.ite (fun d => ?_) (fun d => ?_)))
  ·rw [decide_eq_false (by omega)]; exact no
  ·rw [decide_eq_false (by omega)]; exact no
  rw [decide_eq_true (p := 0 ≤ a ∧ a < (im.length : Int)) (by omega), Bool.true_and]; refine Ev.if_pos (by omega) (Ev.if_pos (by omega) ?_); rw [rd_rw im a (by omega) (by omega)]; have hlen := rw_len h8 a.toNat; refine Ev.ite (fun e => ?_) (fun e => Ev.if_pos (by omega) ?_)
  ·rw [decide_eq_false (by omega)]; exact no
  have e0 : rd (rw_ im a.toNat) 0 = (rw_ im a.toNat).getD 0 0 := by simp [rd]
  rw [e0]; by_cases g : (rw_ im a.toNat).getD 0 0 = a
  ·rw [show ((rw_ im a.toNat).getD 0 0 != a) = false by rw [bne_eq_false_iff_eq]; exact g, decide_eq_true (p := 2 ≤ (rw_ im a.toNat).length ∧ (rw_ im a.toNat).getD 0 0 = a) ⟨by omega, g⟩, Bool.true_and]; refine Ev.step (fun k => by simp only [spec_IsGrowing.j0]; rfl) (Ev.if_neg (by simp) (Ev.if_pos (by omega) (Ev.if_pos (by omega) ?_))); rw [rd_rw im a (by omega) (by omega)]; refine Ev.if_pos (by omega) (Ev.same (specGr_rounds im hin h8 hn (im.length + 1) 0 (by omega) _ (fun z hz => rw_rng hin _ z (List.mem_of_mem_drop hz)) (by rw [List.length_drop]; omega)) ?_); rw [Bool.eq_iff_iff, decide_eq_true_eq, ne_eq, rounds_nil, List.any_eq_true]; constructor
   ·intro hh; apply Classical.byContradiction; intro hc; apply hh; intro y hy; apply Classical.byContradiction; intro hy2; refine hc ⟨y, hy, ?_⟩; rw [Bool.not_eq_true']; cases hq : emp im im.length y.toNat with
    | false => rfl
    | true => exact absurd (emp_up im _ _ hq) hy2
   ·rintro ⟨y, hy, h1⟩ hh; have := emp_n hin (rw_in hin _ y (List.mem_of_mem_drop hy)) (hh y hy); rw [this] at h1; cases h1
  ·rw [show ((rw_ im a.toNat).getD 0 0 != a) = true by rw [bne_iff_ne]; exact g, decide_eq_false (fun q => g q.2)]; exact no
/-! Fixed words. -/
def Mg (im : List (List Int)) (l : List Int) : List Int := l.flatMap fun y => rw_ im y.toNat
def Mj (im : List (List Int)) : Nat → List Int → List Int
 | 0, l => l
 | j + 1, l => Mj im j (Mg im l)
theorem Mj_app (im : List (List Int)) : ∀ (j : Nat) (u v : List Int), Mj im j (u ++ v) = Mj im j u ++ Mj im j v
 | 0, u, v => rfl
 | j + 1, u, v => by rw [Mj, Mj, Mj, ← Mj_app im j]; unfold Mg; rw [List.flatMap_append]
theorem Mj_nil (im : List (List Int)) : ∀ (j : Nat) (l : List Int), Mj im j l = [] ↔ ∀ y ∈ l, emp im j y.toNat = true
 | 0, l => by
  cases l with
  | nil => simp [Mj]
  | cons a l => exact ⟨fun h => (by cases h), fun h => by have := h a (List.mem_cons_self ..); cases this⟩
 | j + 1, l => by
  rw [Mj, Mj_nil im j]; unfold Mg; constructor
  ·intro h y hy; simp only [emp, List.all_eq_true]; exact fun z hz => h z (List.mem_flatMap.2 ⟨y, hy, hz⟩)
  ·intro h z hz; obtain ⟨y, hy, hz⟩ := List.mem_flatMap.1 hz; have := h y hy; simp only [emp, List.all_eq_true] at this; exact this z hz
theorem no_fix (im : List (List Int)) (hin : inN im) (u v : List Int) (hv : ∃ y ∈ v, emp im im.length y.toNat = false ∧ y.toNat < im.length) (h : u = v ++ Mg im u) : False := by
 have pos : ∀ j, 1 ≤ (Mj im j v).length := by
  intro j; apply Classical.byContradiction; intro q; have e : Mj im j v = [] := List.length_eq_zero_iff.1 (by omega); obtain ⟨y, hy, h1, h2⟩ := hv; have := emp_n hin h2 ((Mj_nil im j v).1 e y hy); rw [this] at h1; cases h1
 have step : ∀ j, (Mj im (j + 1) u).length + 1 ≤ (Mj im j u).length := by
  intro j; have e : Mj im j u = Mj im j v ++ Mj im (j + 1) u := by
   conv => lhs; rw [h]
   rw [Mj_app]; rfl
  have := pos j; rw [e, List.length_append]; omega
 have all : ∀ j, (Mj im j u).length + j ≤ u.length := by
  intro j
  induction j with
  | zero => exact Nat.le_refl _
  | succ j ih => have := step j; omega
 have := all (u.length + 1); omega
/-- The word so far: what its first k letters make; it is longer than k. -/
def grown (im : List (List Int)) (a : Int) (k : Nat) (w : List Int) : Prop := 1 ≤ k ∧ k < w.length ∧ w.getD 0 0 = a ∧ w = Mg im (w.take k) ∧ ∀ z ∈ w, 0 ≤ z ∧ z < (im.length : Int)
theorem grown_step {im : List (List Int)} {a : Int} (hin : inN im) (hv : ∃ y ∈ (rw_ im a.toNat).drop 1, emp im im.length y.toNat = false ∧ y.toNat < im.length) (ha : (rw_ im a.toNat).getD 0 0 = a) (hl : 2 ≤ (rw_ im a.toNat).length) {k : Nat} {w : List Int} (h : grown im a k w) (hk : k < w.length) : grown im a (k + 1) (w ++ rw_ im w[k].toNat) := by
 obtain ⟨h1, h2, h3, h4, h5⟩ := h; have ht : (w ++ rw_ im w[k].toNat).take (k + 1) = w.take (k + 1) := by rw [List.take_append_of_le_length (by omega)]
 have hM : w ++ rw_ im w[k].toNat = Mg im (w.take (k + 1)) := by
  have e : Mg im (w.take (k + 1)) = Mg im (w.take k) ++ rw_ im w[k].toNat := by
   rw [take_succ w k hk]; unfold Mg; rw [List.flatMap_append]; simp
  rw [e, ← h4]
 refine ⟨by omega, ?_, ?_, by rw [ht]; exact hM, fun z hz => ?_⟩
 ·apply Classical.byContradiction; intro q; have hlen : w.length = k + 1 ∧ rw_ im w[k].toNat = [] := by
   rw [List.length_append] at q; exact ⟨by omega, List.length_eq_zero_iff.1 (by omega)⟩
  have e : w = Mg im w := by
   have := hM; rw [hlen.2, List.append_nil, List.take_of_length_le (by omega)] at this; exact this
  cases w with
  | nil => simp at hk
  | cons b u =>
   have hb : b = a := h3; subst hb; have e2 : Mg im (b :: u) = rw_ im b.toNat ++ Mg im u := by unfold Mg; rw [List.flatMap_cons]
   rw [e2] at e; cases hr : rw_ im b.toNat with
   | nil => rw [hr] at hl; simp at hl
   | cons c v =>
    rw [hr] at e hv; rw [List.cons_append] at e; exact no_fix im hin u v hv (List.cons.inj e).2
 ·cases w with
  | nil => simp at hk
  | cons b u => exact h3
 ·rcases List.mem_append.1 hz with hz | hz
  ·exact h5 z hz
  ·exact rw_rng hin _ z hz
theorem fix_both (im : List (List Int)) (a n : Int) (h : im.length ≤ 1048576) (ht : total im ≤ 1048576) : ∃ r : List Int × Bool, Ev (fun k => spec_FixedPrefix.f k im a n) r ∧ Ev (fun k => impl_FixedPrefix.f k im a n) r ∧ (r.2 = true → r.1.length = n.toNat ∧ r.1.length ≤ 256 ∧ ∀ z ∈ r.1, 0 ≤ z ∧ z < 16) := by
 have s1 := specGr_ev im a h ht; have s2 := implGr_ev im a h ht; have no1 : Ev (fun k => spec_FixedPrefix.j0 k a n true im) (([] : List Int), false) := Ev.step (fun k => by simp only [spec_FixedPrefix.j0]; rfl) (Ev.if_pos trivial (Ev.some _)); have no2 : Ev (fun k => impl_FixedPrefix.j0 k a n true im) (([] : List Int), false) := Ev.step (fun k => by simp only [impl_FixedPrefix.j0]; rfl) (Ev.if_pos trivial (Ev.some _)); unfold spec_FixedPrefix.f impl_FixedPrefix.f; cases hg : gr im a with
 | false =>
  rw [hg] at s1 s2; exact ⟨([], false), Ev.bind s1 (Ev.if_neg (by simp) no1), Ev.bind s2 (Ev.if_neg (by simp) no2), fun q => by cases q⟩
 | true =>
  rw [hg] at s1 s2; have hv := l1In_val n 0 256; by_cases c : 0 ≤ n ∧ n ≤ 256; rotate_left
  ·refine ⟨([], false), Ev.bind s1 (Ev.if_pos rfl (Ev.bind (Ev.val hv) ?_)), Ev.bind s2 (Ev.if_pos rfl (Ev.ite (fun q => no2) (fun q => ?_))), fun q => by cases q⟩
   ·rw [decide_eq_false c]; exact no1
   ·rw [decide_eq_true (by omega)]; exact no2
  unfold gr at hg; simp only [Bool.and_eq_true, decide_eq_true_eq, List.any_eq_true, Bool.not_eq_true'] at hg; obtain ⟨hm, hr, ⟨hl, ha⟩, y, hy, hy2⟩ := hg; obtain ⟨hin, _, hn16, hgg⟩ := mo_in hm; have h8 : ∀ r ∈ im, r.length ≤ 8 := fun r hr => (hgg r hr).1
  have hvv : ∃ y ∈ (rw_ im a.toNat).drop 1, emp im im.length y.toNat = false ∧ y.toNat < im.length := ⟨y, hy, hy2, rw_in hin _ y (List.mem_of_mem_drop hy)⟩; have hlen := rw_len h8 a.toNat; have key : ∀ (d k : Nat) (w : List Int), (n.toNat - w.length) + (n.toNat - k) ≤ d → grown im a k w → w.length ≤ 270 → k ≤ 270 → ∃ l : List Int, Ev (fun q => spec_FixedPrefix.l0 q n w (k : Int) im) (l, true) ∧ Ev (fun q => impl_FixedPrefix.l0 q n w (k : Int) im) (l, true) ∧ l.length = n.toNat ∧ ∀ z ∈ l, 0 ≤ z ∧ z < (im.length : Int) := by
   intro d
   induction d with
   | zero =>
    intro k w hd hw hwl hkl; refine ⟨w.take n.toNat, ?_, ?_, by rw [List.length_take]; omega, fun z hz => hw.2.2.2.2 z (List.mem_of_mem_take hz)⟩
    ·refine Ev.step (fun q => by simp only [spec_FixedPrefix.l0]; rfl) (Ev.ite (fun _ => Ev.if_neg (by omega) ?_) (fun _ => Ev.if_neg (by omega) ?_))
     ·exact Ev.if_pos (by omega) (Ev.if_pos (by omega) (Ev.some _))
     ·exact Ev.if_pos (by omega) (Ev.if_pos (by omega) (Ev.some _))
    ·refine Ev.step (fun q => by simp only [impl_FixedPrefix.l0]; rfl) (Ev.if_neg (by omega) (Ev.bind (Ev.val rfl) (Ev.if_pos (by omega) (Ev.if_pos (by omega) (Ev.bind (Ev.val rfl) ?_))))); exact Ev.if_pos (by simp only [List.length_nil, List.length_take]; omega) (Ev.same (Ev.some _) (by rw [List.nil_append]))
   | succ d ih =>
    intro k w hd hw hwl hkl; by_cases q : (w.length : Int) < n; rotate_left
    ·refine ⟨w.take n.toNat, ?_, ?_, by rw [List.length_take]; omega, fun z hz => hw.2.2.2.2 z (List.mem_of_mem_take hz)⟩
     ·refine Ev.step (fun q => by simp only [spec_FixedPrefix.l0]; rfl) (Ev.ite (fun _ => Ev.if_neg (by omega) ?_) (fun _ => Ev.if_neg (by omega) ?_))
      ·exact Ev.if_pos (by omega) (Ev.if_pos (by omega) (Ev.some _))
      ·exact Ev.if_pos (by omega) (Ev.if_pos (by omega) (Ev.some _))
     ·refine Ev.step (fun q => by simp only [impl_FixedPrefix.l0]; rfl) (Ev.if_neg (by omega) (Ev.bind (Ev.val rfl) (Ev.if_pos (by omega) (Ev.if_pos (by omega) (Ev.bind (Ev.val rfl) ?_))))); exact Ev.if_pos (by simp only [List.length_nil, List.length_take]; omega) (Ev.same (Ev.some _) (by rw [List.nil_append]))
    ·have hk := hw.2.1; have hb := hw.2.2.2.2 _ (List.getElem_mem hk); have h8' := rw_len h8 w[k].toNat; obtain ⟨l, e1, e2, e3⟩ := ih (k + 1) (w ++ rw_ im w[k].toNat) (by rw [List.length_append]; omega) (grown_step hin hvv ha hl hw hk) (by rw [List.length_append]; omega) (by omega); refine ⟨l, ?_, ?_, e3⟩
     ·refine Ev.step (fun q => by simp only [spec_FixedPrefix.l0]; rfl) (Ev.if_pos (by omega) (Ev.if_pos q (Ev.if_pos (by omega) (Ev.if_pos (by omega) ?_)))); rw [rd_get w k hk, rd_rw im _ hb.1 hb.2, wsucc (by omega)]; exact Ev.if_pos hb.1 (Ev.if_pos hb.2 (Ev.if_pos (by omega) e1))
     ·refine Ev.step (fun q => by simp only [impl_FixedPrefix.l0]; rfl) (Ev.if_pos q (Ev.if_pos (by omega) (Ev.if_pos (by omega) ?_))); rw [rd_get w k hk, rd_rw im _ hb.1 hb.2, wsucc (by omega)]; exact Ev.if_pos hb.1 (Ev.if_pos hb.2 (Ev.if_pos (by omega) e2))
  have g1 : grown im a 1 (rw_ im a.toNat) := by
   refine ⟨Nat.le_refl _, by omega, ha, ?_, rw_rng hin _⟩; cases hr : rw_ im a.toNat with
   | nil => rw [hr] at hl; simp at hl
   | cons c v =>
    rw [hr] at ha; obtain rfl : c = a := ha; show c :: v = Mg im [c]; unfold Mg; simp [hr]
  obtain ⟨l, e1, e2, e3, e4⟩ := key _ 1 _ (Nat.le_refl _) g1 (by omega) (by omega); refine ⟨(l, true), Ev.bind s1 (Ev.if_pos rfl (Ev.bind (Ev.val hv) ?_)), Ev.bind s2 (Ev.if_pos rfl (Ev.if_neg (by omega) ?_)), fun _ => ⟨e3, by rw [e3]; omega, fun z hz => by have := e4 z hz; omega⟩⟩
  ·rw [decide_eq_true c]; refine Ev.step (fun k => by simp only [spec_FixedPrefix.j0]; rfl) (Ev.if_neg (by simp) (Ev.bind (Ev.val rfl) (Ev.if_pos (by omega) (Ev.if_pos (by omega) ?_)))); rw [rd_rw im a hr.1 hr.2, List.nil_append]; exact Ev.if_pos (by simp only [List.length_nil]; omega) e1
  ·rw [decide_eq_false (by omega)]; refine Ev.step (fun k => by simp only [impl_FixedPrefix.j0]; rfl) (Ev.if_neg (by simp) (Ev.if_pos (by omega) (Ev.if_pos (by omega) ?_))); rw [rd_rw im a hr.1 hr.2]; exact Ev.bind (Ev.val (by unfold slices_Clone_int_int.f; rw [_root_.if_pos (by omega)])) e2
end Go.Proofs.Ytdekenijnbhpfaa.M
namespace Go.Proofs.Ytdekenijnbhpfaa.M
open Go.RowKit Go.Proofs.Ytdekenijnbhpfaa.KW Go.Proofs.YtdekenijnbhpfaaW.PrintWords Go.Proofs.YtdekenijnbhpfaaW.PrintLast Go.Proofs.YtdekenijnbhpfaaW.PrintMore
attribute [local go_sem] max2_int min2_int max_two min_two max_three min_three max_four min_four
set_option linter.unusedVariables false
set_option linter.unusedSimpArgs false
mutual
def impl_IncidenceOf.l0 : Nat → List (List Int) → List (List Int) → Int → Int → List (List Int) → Option ((List (List Int)) × Bool)
 | 0, _, _, _, _, _ => none
 | k + 1, x4, x16, x17, x18, x380000 => if x18 < x17 then (if 0 ≤ x18 then (if x18 < (x16.length : Int) then (if 0 ≤ (x380000.length : Int) then (if ((x380000.length : Int) : Int).toNat ≤ 35184372088832 then (impl_IncidenceOf.l1 k x4 (List.replicate ((x380000.length : Int) : Int).toNat 0) x16 x17 x18 (rd_L1 x16 x18) ((rd_L1 x16 x18).length : Int) 0 x380000) else (none)) else (none)) else (none)) else (none)) else (some (x4, true))
def impl_IncidenceOf.l1 : Nat → List (List Int) → List Int → List (List Int) → Int → Int → List Int → Int → Int → List (List Int) → Option ((List (List Int)) × Bool)
 | 0, _, _, _, _, _, _, _, _, _ => none
 | k + 1, x4, x7, x16, x17, x18, x26, x27, x28, x380000 => if x28 < x27 then (if 0 ≤ x28 then (if x28 < (x26.length : Int) then (if 0 ≤ (rd x26 x28) then (if (rd x26 x28) < (x7.length : Int) then (impl_IncidenceOf.l1 k x4 (x7.set ((rd x26 x28) : Int).toNat (wrap64 ((rd x7 (rd x26 x28)) + 1))) x16 x17 x18 x26 x27 (wrap64 (x28 + 1)) x380000) else (none)) else (none)) else (none)) else (none)) else (if x4.length < 5864062014805 then (impl_IncidenceOf.l0 k (x4 ++ [x7]) x16 x17 (wrap64 (x18 + 1)) x380000) else (none))
end
def impl_IncidenceOf.f (k : Nat) (l0_0 : List (List Int)) : Option ((List (List Int)) × Bool) := (some (([] : List (List Int)) : List (List Int))).bind fun y380 => ((impl_IsMorphism.f k l0_0).bind fun t383 => (if t383 = true then (impl_IncidenceOf.l0 k y380 l0_0 (l0_0.length : Int) 0 l0_0) else (some (y380, false))))
set_option maxHeartbeats 8000000 in
set_option maxRecDepth 100000 in
theorem impl_IncidenceOf.calls (k : Nat) (A0_0 : Option Addr) (c0_0 : Nat) (l0_0 : List (List Int)) (r1 : List (List Int)) (r2 : Bool) (w : World) (hr0_0 : Kd.C (Kd.slice 3 (Kd.int .i64)) w A0_0 l0_0.length l0_0) (hc0_0 : l0_0.length ≤ c0_0) (h : impl_IncidenceOf.f k l0_0 = some (r1, r2)) :
  Calls Try.prog 61 #[.agg #[.slice A0_0 l0_0.length c0_0]] w fun e w' => ∃ v0_ : Value, e = .returned (.tuple #[v0_, .bool r2]) ∧ Kd.S (Kd.slice 3 (Kd.int .i64)) 31 w' w.heap.size (fun _ => True) v0_ r1 ∧ Below w.heap.size w w' := by
 have hu27 := Try.underlying27; have HR0_0 := aM hr0_0; have HC0_0 := aM hc0_0; clear hr0_0 hc0_0; have HB := aM (Below.refl w.heap.size w); have H : ((some (([] : List (List Int)) : List (List Int))).bind fun y380 => ((impl_IsMorphism.f k l0_0).bind fun t383 => (if t383 = true then (impl_IncidenceOf.l0 k y380 l0_0 (l0_0.length : Int) 0 l0_0) else (some (y380, false))))) = some (r1, r2) := h; clear h; obtain ⟨y380, hy380⟩ : ∃ y_ : List (List Int), y_ = (([] : List (List Int))) := ⟨_, rfl⟩; replace H : ((impl_IsMorphism.f k l0_0).bind fun t383 => (if t383 = true then (impl_IncidenceOf.l0 k y380 l0_0 (l0_0.length : Int) 0 l0_0) else (some (y380, false)))) = some (r1, r2) := by rw [hy380]; first | exact H | exact (Option.bind_some _ _).symm.trans H
 have Ny380 := aM hy380; clear hy380; replace H := bE H; obtain ⟨t383, A20, H⟩ := H; replace H : (if t383 = true then (impl_IncidenceOf.l0 k y380 l0_0 (l0_0.length : Int) 0 l0_0) else (some (y380, false))) = some (r1, r2) := H; have A2 := aM A20; clear A20; by_cases c3 : t383 = true
 ·subst c3; have H1 : (impl_IncidenceOf.l0 k y380 l0_0 (l0_0.length : Int) 0 l0_0) = some (r1, r2) := by rw [if_pos rfl] at H; exact H
  clear H; have H := H1; clear H1; have H' := aM H; clear H; go_enter Try.func61, Try.ntmps61; go_wp2_with (first | ((with_reducible refine gate_dst (N := 1) rfl ?_); refine box_event ?hg (N := 1) ?hd (cs := #[.slice A0_0 l0_0.length c0_0]) (t := 27) ?hr ?_; (case hd | hg => rfl); (case hr => go_simp <;> rfl); intro gb379 hg w4 hbox hb; have BK379 := aM (hbox); have GW379 := bG HB hg; have GE379 := bG HB hg; replace HB := bS HB hb; have qW379 := Ge.mk GW379.out; have qE379 := Ge.mk GE379.out; clear hb hbox hg) | ((with_reducible refine gate_dst (N := 10) rfl ?_); refine Kd.S_lit (Kd.slice 3 (Kd.int .i64)) _ 31 ?hg (N := 10) ?hd (xs := ([] : List (List Int))) (inner := []) (ok := fun _ => True) (okp := fun _ => True) ?hr ?hp (fun _ hk => hk) trivial (Below.refl _ _) (Nat.le_refl _) (by simp) ?_; (case hd | hg => rfl); (case hr => go_simp <;> rfl); (case hp => exact (Reps.none _ _)); intro v381 w5 ho6 hb hg_ hnew_; clear hg_ hnew_; (first | rw [← Ny380.out] at ho6 | (simp only [Int.reduceToNat] at ho6; rw [← Ny380.out] at ho6)); have HO382 := aM (Kd.S_lower ho6 (bZ HB)); replace BK379 := bK BK379 hb; replace HB := bS HB hb; clear hb ho6; have hcz7_0 := z10 BK379; have hfz7_0 := blk_frozen BK379.out 0) | ((with_reducible refine gate_callee (f := 26) rfl ?_); refine goesL_ (some 12) rfl rfl Try.func26 (by kernel_rfl) rfl #[.agg #[.slice A0_0 l0_0.length c0_0]] rfl (by (try simp only [mT, mC, mN]); first | done | rfl) ?_; (with_reducible refine (impl_IsMorphism.calls k _ _ l0_0 true _ ?side1 ?side2 A2.out).mono ?_); (case side1 => exact xC ((Kd.C_below HR0_0.out HB.out))); (case side2 => exact HC0_0.out); rintro e w8 ⟨rfl, hb⟩; refine ⟨_, rfl, ?_⟩; replace HO382 := aM (Kd.S_below (by exact rS HO382) hb); replace BK379 := bK BK379 hb; replace HB := bS HB hb; clear hb; have hcz9_0 := z10 BK379; have hfz9_0 := blk_frozen BK379.out 0)); go_loopg [4, 18] k (fun kq v4 v18 w' => ∃ (x4_1 : List (List Int)) (x18_1 : Int), v18 = .int .i64 x18_1 ∧ Aside0 (impl_IncidenceOf.l0 kq x4_1 l0_0 (l0_0.length : Int) x18_1 l0_0 = some (r1, r2)) ∧ Aside0 (kq ≤ k) ∧ Aside0 (Kd.S (Kd.slice 3 (Kd.int .i64)) 31 w' w.heap.size (fun _ => True) v4 x4_1) ∧ Aside0 (w'.heap[gb379]? = some (.cells #[(.slice A0_0 l0_0.length c0_0)] 27 (0, 0))) ∧ Aside0 (Below w.heap.size w w'))
  case atStart => exact ⟨(y380), (0), (by first | rfl | (simp; done) | (simp [*]; done)), H', ⟨Nat.le_refl _⟩, ⟨by exact rS HO382⟩, ⟨by exact rX BK379⟩, ⟨by exact rB HB⟩⟩
  case round =>
   clear H'; (try clear c2); (try clear p2); (try clear c3); (try clear c6); (try clear hcz7_0); (try clear hcz9_0); (try clear hfz7_0); (try clear hfz9_0)
   obtain ⟨x4_1, x18_1, rfl, HA, HK1, HO_4, BK379, HB⟩ := hrel; cases gk with
   | zero => exact absurd HA.out (by simp [impl_IncidenceOf.l0])
   | succ k1 =>
    have H := HA.out; clear HA; simp only [impl_IncidenceOf.l0] at H; by_cases c10 : x18_1 < (l0_0.length : Int)
    ·rw [if_pos c10] at H; have c10b0 : decide (x18_1 < (l0_0.length : Int)) = true := decide_eq_true c10; clear c10; by_cases c11 : 0 ≤ x18_1
     ·rw [if_pos c11] at H; have c11b0 : decide (0 ≤ x18_1) = true := decide_eq_true c11; clear c11; by_cases c12 : x18_1 < (l0_0.length : Int)
      ·rw [if_pos c12] at H; have c12b0 : decide (x18_1 < (l0_0.length : Int)) = true := decide_eq_true c12; clear c12; by_cases c13 : 0 ≤ (l0_0.length : Int)
       ·rw [if_pos c13] at H; have c13b0 := eq_true c13; have c13b1 : decide (0 ≤ (l0_0.length : Int)) = true := decide_eq_true c13; clear c13; by_cases c14 : ((l0_0.length : Int) : Int).toNat ≤ 35184372088832
        ·rw [if_pos c14] at H; have c14b0 := eq_true c14; have c14b1 : decide (((l0_0.length : Int) : Int).toNat ≤ 35184372088832) = true := decide_eq_true c14; clear c14; obtain ⟨y385, hy385⟩ : ∃ y_ : List Int, y_ = (List.replicate ((l0_0.length : Int) : Int).toNat 0) := ⟨_, rfl⟩; replace H : (impl_IncidenceOf.l1 k1 x4_1 y385 l0_0 (l0_0.length : Int) x18_1 (rd_L1 l0_0 x18_1) ((rd_L1 l0_0 x18_1).length : Int) 0 l0_0) = some (r1, r2) := by rw [hy385]; first | exact H | exact (Option.bind_some _ _).symm.trans H
         have Ny385 := aM hy385; clear hy385; have H' := aM H; clear H; have p384 : 0 ≤ (x18_1 : Int) := oD; have q384 : x18_1 < (l0_0.length : Int) := oD; obtain ⟨ad384, A384_0, c384_0, e384, hx384_0, hl384_0, hi384_0⟩ := at_L1 HR0_0.out x18_1 p384 q384; cases e384; (try replace hx384_0 := (HB.out.cell (World.block_lt_of_cell? w _ hx384_0)).trans hx384_0); have HR384_0 := aM hi384_0; have HC384_0 := aM hl384_0; clear hi384_0 hl384_0; replace p384 := eq_true p384; replace q384 := eq_true q384; have hcz15_0 := z10 BK379; have hfz15_0 := blk_frozen BK379.out 0; go_wp2_with (first | ((with_reducible refine gate_dst (N := 25) rfl ?_); refine Kd.R_make (Kd.int .i64) _ 3 rfl (N := 25) rfl 31 _ _ rfl (l0_0.length : Int) rfl rfl Try.underlying31 (.int .i64 0) 8 info3 rfl (by decide) (by omega) 0 (ok := fun _ => True) (okp := fun _ => True) rfl (fun _ hk => hk) trivial (oD) (Nat.le_trans (Nat.mul_le_mul_right _ (oD : (l0_0.length : Int).toNat ≤ 35184372088832)) (by omega)) (Below.refl _ _) (Nat.le_refl _) ?_; intro v386 w16 ho17 hb hg_ hnew_; clear hg_ hnew_; (first | rw [← Ny385.out] at ho17 | (simp only [Int.reduceToNat] at ho17; rw [← Ny385.out] at ho17)); replace HO_4 := aM (Kd.S_elder' (by exact rS HO_4) (Kd.R_base ho17) hb); have HO387 := aM (Kd.R_lower ho17 (bZ HB)); replace BK379 := bK BK379 hb; replace HB := bS HB hb; clear hb ho17)); go_loopg [28] k1 (fun kq v28 w' => ∃ (x7_2 : List Int) (x28_2 : Int), v28 = .int .i64 x28_2 ∧ Aside0 (impl_IncidenceOf.l1 kq x4_1 x7_2 l0_0 (l0_0.length : Int) x18_1 (rd_L1 l0_0 x18_1) ((rd_L1 l0_0 x18_1).length : Int) x28_2 l0_0 = some (r1, r2)) ∧ Aside0 (kq ≤ k1) ∧ Aside0 (Kd.S (Kd.slice 3 (Kd.int .i64)) 31 w' w.heap.size (fun k_ => some k_ ≠ (v386 : Value).ownBlock) u4 x4_1) ∧ Aside0 (Kd.R (Kd.int .i64) 3 w' w.heap.size (fun _ => True) v386 x7_2) ∧ Aside0 (w'.heap[gb379]? = some (.cells #[(.slice (some ad384) l0_0.length c0_0)] 27 (0, 0))) ∧ Aside0 (Below w.heap.size w w'))
         case atStart => exact ⟨(y385), (0), (by first | rfl | (simp; done) | (simp [*]; done)), H', ⟨Nat.le_refl _⟩, ⟨by exact xS (Kd.S_mono HO_4.out (fun _ hk => hk.2))⟩, ⟨by exact rR HO387⟩, ⟨by exact rX BK379⟩, ⟨by exact rB HB⟩⟩
         case round =>
          clear H'; (try clear c1); (try clear c2); (try clear p2); (try clear c3); (try clear p3); (try clear q3); (try clear hx3); (try clear c6); (try clear c10); (try clear c10b0); (try clear c11); (try clear c11b0); (try clear c12); (try clear c12b0); (try clear c13); (try clear c13b0); (try clear c13b1); (try clear c14); (try clear c14b0); (try clear c14b1); (try clear hcz15_0); (try clear hcz7_0); (try clear hcz9_0); (try clear hfz15_0); (try clear hfz7_0); (try clear hfz9_0); (try clear hx384_0); (try clear p2); (try clear p384); (try clear q384)
          obtain ⟨x7_2, x28_2, rfl, HA, HK2, HO_4, HO_7, BK379, HB⟩ := hrel; cases gk with
          | zero => exact absurd HA.out (by simp [impl_IncidenceOf.l1])
          | succ k2 =>
           have H := HA.out; clear HA; simp only [impl_IncidenceOf.l1] at H; by_cases c18 : x28_2 < ((rd_L1 l0_0 x18_1).length : Int)
           ·rw [if_pos c18] at H; have c18b0 : decide (x28_2 < ((rd_L1 l0_0 x18_1).length : Int)) = true := decide_eq_true c18; clear c18; by_cases c19 : 0 ≤ x28_2
            ·rw [if_pos c19] at H; have c19b0 : decide (0 ≤ x28_2) = true := decide_eq_true c19; clear c19; by_cases c20 : x28_2 < ((rd_L1 l0_0 x18_1).length : Int)
             ·rw [if_pos c20] at H; have c20b0 : decide (x28_2 < ((rd_L1 l0_0 x18_1).length : Int)) = true := decide_eq_true c20; clear c20; by_cases c21 : 0 ≤ (rd (rd_L1 l0_0 x18_1) x28_2)
              ·rw [if_pos c21] at H; have c21b0 : decide (0 ≤ (rd (rd_L1 l0_0 x18_1) x28_2)) = true := decide_eq_true c21; clear c21; by_cases c22 : (rd (rd_L1 l0_0 x18_1) x28_2) < (x7_2.length : Int)
               ·rw [if_pos c22] at H; have c22b0 : decide ((rd (rd_L1 l0_0 x18_1) x28_2) < (x7_2.length : Int)) = true := decide_eq_true c22; clear c22; obtain ⟨y390, hy390⟩ : ∃ y_ : List Int, y_ = (x7_2.set ((rd (rd_L1 l0_0 x18_1) x28_2) : Int).toNat (wrap64 ((rd x7_2 (rd (rd_L1 l0_0 x18_1) x28_2)) + 1))) := ⟨_, rfl⟩; replace H : (impl_IncidenceOf.l1 k2 x4_1 y390 l0_0 (l0_0.length : Int) x18_1 (rd_L1 l0_0 x18_1) ((rd_L1 l0_0 x18_1).length : Int) (wrap64 (x28_2 + 1)) l0_0) = some (r1, r2) := by rw [hy390]; first | exact H | exact (Option.bind_some _ _).symm.trans H
                have Ny390 := aM hy390; clear hy390; have H' := aM H; clear H; have p388 : 0 ≤ (x28_2 : Int) := oD; have q388 : x28_2 < ((rd_L1 l0_0 x18_1).length : Int) := oD; obtain ⟨ad388, e388, hx388_0⟩ := Kd.at_int HR384_0.out x28_2 p388 q388; cases e388; (try replace hx388_0 := (HB.out.cell (World.block_lt_of_cell? w _ hx388_0)).trans hx388_0); replace p388 := eq_true p388; replace q388 := eq_true q388; obtain ⟨Ao24, co24, eo24⟩ := Kd.R_slice HO_7.out; subst eo24; have p389 : 0 ≤ ((rd (rd_L1 l0_0 x18_1) x28_2) : Int) := oD; have q389 : (rd (rd_L1 l0_0 x18_1) x28_2) < (x7_2.length : Int) := oD; obtain ⟨ad389, e389, hx389_0⟩ := Kd.at_int (Kd.R_reads' HO_7.out).2.2 (rd (rd_L1 l0_0 x18_1) x28_2) p389 q389; cases e389; replace p389 := eq_true p389; replace q389 := eq_true q389; have p23 : 0 ≤ ((rd (rd_L1 l0_0 x18_1) x28_2) : Int) := oD; have q23 : ((rd (rd_L1 l0_0 x18_1) x28_2) : Int) < ((x7_2.length : Int) : Int) := oD; obtain ⟨go23, co23, eo23, gb23, gl23, cl23, HG23⟩ := Kd.R_form HO_7.out (by omega)
                (first | cases eo23 | (injection eo23 with ea_ en_ ec_; (first | subst ea_ | (injection ea_ with ea_; subst ea_)); subst ec_; clear en_))
                have GB23 := aM gb23; have GG23 := aM HG23; clear gb23 gl23 HG23
                (first | simp only [add_plain] at hx389_0 | skip)
                obtain ⟨hx23_0, hf23_0⟩ := Kd.R_celln 0 HO_7.out ((rd (rd_L1 l0_0 x18_1) x28_2) : Int) p23 q23; replace p23 := eq_true p23; replace q23 := eq_true q23; have HP25 := Kd.R_putg HO_7.out ((rd (rd_L1 l0_0 x18_1) x28_2) : Int) (wrap64 ((rd x7_2 (rd (rd_L1 l0_0 x18_1) x28_2)) + 1)); go_wp2_with (first | ((with_reducible refine gate_store (t := 3) (p := 37) rfl ?_); refine store_event (t := 3) (p := 37) (v := ?vo_w26) (w1 := (wr.setCell ⟨go23, ((rd (rd_L1 l0_0 x18_1) x28_2) : Int).toNat, none⟩ (.int .i64 (wrap64 ((rd x7_2 (rd (rd_L1 l0_0 x18_1) x28_2)) + 1))))) ?hg ?ho ?hn ?hr ?_; (case ho => rfl); (case hg => rfl); (case hn => rfl); (case hr => go_simp <;> rfl); intro w26 hw; have hg : wr.grownBy w26 (some go23) := (by rw [hw]; exact HP25.2); have hp_ : Kd.R (Kd.int .i64) 3 w26 w.heap.size (fun _ => True) (.slice (some ⟨go23, 0, none⟩) x7_2.length co24) y390 := (by rw [hw, Ny390.out]; exact HP25.1); clear HP25; replace HO_4 := aM (Kd.S_after (v := (.slice (some ⟨go23, 0, none⟩) x7_2.length co24)) (v1 := (.slice (some ⟨go23, 0, none⟩) x7_2.length co24)) (ok := (fun _ => True)) (by exact xS (Kd.S_mono HO_4.out (fun _ hk => ⟨trivial, hk⟩))) hg (.inl rfl)); replace BK379 := aM (blk_grown (g := gb379) (o := .cells #[.slice (some ad384) l0_0.length c0_0] 27 (0, 0)) (by exact rX BK379) hg (Kd.R_ne HO_7.out BK379.out (by decide))); replace HO_7 := aM (hp_); replace HB := aM ((by rw [hw]; exact below_set (HB.out) GB23.out : Below w.heap.size w w26)); clear hg hw hp_)); go_roundg k2
                case measure => have := HK1.out; have := HK2.out; omega
                case rel => exact ⟨(y390), (wrap64 (x28_2 + 1)), (by first | rfl | (simp; done) | (simp [*]; done)), H', ⟨by have := HK1.out; have := HK2.out; omega⟩, ⟨by exact xS (Kd.S_mono HO_4.out (fun _ hk => hk.2))⟩, ⟨by exact rR HO_7⟩, ⟨by exact rX BK379⟩, ⟨by exact rB HB⟩⟩
               ·rw [if_neg c22] at H; exact absurd H (by simp)
              ·rw [if_neg c21] at H; exact absurd H (by simp)
             ·rw [if_neg c20] at H; exact absurd H (by simp)
            ·rw [if_neg c19] at H; exact absurd H (by simp)
           ·rw [if_neg c18] at H; have c18b0 : decide (x28_2 < ((rd_L1 l0_0 x18_1).length : Int)) = false := decide_eq_false c18; clear c18; by_cases c27 : x4_1.length < 5864062014805
            ·rw [if_pos c27] at H; have LMc27 := aM c27; clear c27; obtain ⟨y391, hy391⟩ : ∃ y_ : List (List Int), y_ = (x4_1 ++ [x7_2]) := ⟨_, rfl⟩; replace H : (impl_IncidenceOf.l0 k2 y391 l0_0 (l0_0.length : Int) (wrap64 (x18_1 + 1)) l0_0) = some (r1, r2) := by rw [hy391]; first | exact H | exact (Option.bind_some _ _).symm.trans H
             have Ny391 := aM hy391; clear hy391; have H' := aM H; clear H; obtain ⟨Ao29, co29, eo29⟩ := Kd.R_slice HO_7.out; subst eo29; go_wp2_with (first | ((with_reducible refine gate_builtin (b := .append) (xs := #[.tmp 39, .tmp 41]) rfl ?_); at_builtin; refine Kd.S_append (Kd.slice 3 (Kd.int .i64)) (w0 := w) w.heap.size rfl (.tmp 39) (.tmp 41) 22 31 (.slice none 0 0) 24 rfl Try.underlying22 info31 rfl (by decide) (by omega) u4 x4_1 x7_2 [.slice Ao29 x7_2.length co29] (fun _ => True) (fun k_ => some k_ = (.slice Ao29 x7_2.length co29 : Value).ownBlock) rfl rfl ?aP (fun k_ hk_ => ((Kd.R_mono (ok' := fun k_ => ((fun _ => True)) k_ ∧ some k_ ≠ (u4 : Value).ownBlock) (Kd.R_apart' (HO_7.out) (Kd.S_typed HO_4.out) (by decide)) (fun k_ hk => ⟨trivial, hk.2⟩))).1 k_ hk_.symm) ?aF ?aO ?aB ?aS ?aL ?_; (case aP => exact Kd.M_row (Kd.R_mono (Kd.R_tight rfl (Kd.R_mono (ok' := fun k_ => ((fun _ => True)) k_ ∧ some k_ ≠ (u4 : Value).ownBlock) (Kd.R_apart' (HO_7.out) (Kd.S_typed HO_4.out) (by decide)) (fun k_ hk => ⟨trivial, hk.2⟩))) (fun _ h_ => h_))); (case aB => exact (by exact rB HB)); (case aF => exact (fun _ _ => trivial)); (case aO => exact (by exact xS (Kd.S_mono HO_4.out (fun k_ hk => ⟨trivial, fun e_ => hk e_⟩)))); (case aS => exact (bZ HB)); (case aL => have := LMc27.out; omega); intro v392 w28 ho hb hg hat; rw [← Ny391.out] at ho; replace BK379 := aM (blk_grown (g := gb379) (o := .cells #[.slice (some ad384) l0_0.length c0_0] 27 (0, 0)) (by exact rX BK379) hg (Kd.S_ne HO_4.out BK379.out (by decide))); replace HB := aM (hb); have HO393 := aM (ho); clear HO_4 HO_7; clear ho hb hg hat)); go_roundg k2
             case measure => have := HK1.out; have := HK2.out; omega
             case rel => exact ⟨(y391), (wrap64 (x18_1 + 1)), (by first | rfl | (simp; done) | (simp [*]; done)), H', ⟨by have := HK1.out; have := HK2.out; omega⟩, ⟨by exact rS HO393⟩, ⟨by exact rX BK379⟩, ⟨by exact rB HB⟩⟩
            ·rw [if_neg c27] at H; exact absurd H (by simp)
        ·rw [if_neg c14] at H; exact absurd H (by simp)
       ·rw [if_neg c13] at H; exact absurd H (by simp)
      ·rw [if_neg c12] at H; exact absurd H (by simp)
     ·rw [if_neg c11] at H; exact absurd H (by simp)
    ·rw [if_neg c10] at H; have c10b0 : decide (x18_1 < (l0_0.length : Int)) = false := decide_eq_false c10; clear c10; simp only [Option.some.injEq, Prod.mk.injEq] at H; obtain ⟨rfl, rfl⟩ := H; go_wp2; go_ret2; exact ⟨_, by first | rfl | (simp [errW_none, errW_some] <;> rfl) | (simp [*, errW_none, errW_some] <;> rfl), by exact rS HO_4, by exact rB HB⟩
 ·replace c3 := Bool.eq_false_iff.mpr c3; subst c3; have H1 : (some (y380, false)) = some (r1, r2) := by rw [if_neg (show ¬ (false = true) by decide)] at H; exact H
  clear H; have H := H1; clear H1; simp only [Option.some.injEq, Prod.mk.injEq] at H; obtain ⟨rfl, rfl⟩ := H; go_enter Try.func61, Try.ntmps61; go_wp2_with (first | ((with_reducible refine gate_dst (N := 1) rfl ?_); refine box_event ?hg (N := 1) ?hd (cs := #[.slice A0_0 l0_0.length c0_0]) (t := 27) ?hr ?_; (case hd | hg => rfl); (case hr => go_simp <;> rfl); intro gb379 hg w30 hbox hb; have BK379 := aM (hbox); have GW379 := bG HB hg; have GE379 := bG HB hg; replace HB := bS HB hb; have qW379 := Ge.mk GW379.out; have qE379 := Ge.mk GE379.out; clear hb hbox hg) | ((with_reducible refine gate_dst (N := 10) rfl ?_); refine Kd.S_lit (Kd.slice 3 (Kd.int .i64)) _ 31 ?hg (N := 10) ?hd (xs := ([] : List (List Int))) (inner := []) (ok := fun _ => True) (okp := fun _ => True) ?hr ?hp (fun _ hk => hk) trivial (Below.refl _ _) (Nat.le_refl _) (by simp) ?_; (case hd | hg => rfl); (case hr => go_simp <;> rfl); (case hp => exact (Reps.none _ _)); intro v381 w31 ho32 hb hg_ hnew_; clear hg_ hnew_; (first | rw [← Ny380.out] at ho32 | (simp only [Int.reduceToNat] at ho32; rw [← Ny380.out] at ho32)); have HO382 := aM (Kd.S_lower ho32 (bZ HB)); replace BK379 := bK BK379 hb; replace HB := bS HB hb; clear hb ho32; have hcz33_0 := z10 BK379; have hfz33_0 := blk_frozen BK379.out 0) | ((with_reducible refine gate_callee (f := 26) rfl ?_); refine goesL_ (some 12) rfl rfl Try.func26 (by kernel_rfl) rfl #[.agg #[.slice A0_0 l0_0.length c0_0]] rfl (by (try simp only [mT, mC, mN]); first | done | rfl) ?_; (with_reducible refine (impl_IsMorphism.calls k _ _ l0_0 false _ ?side1 ?side2 A2.out).mono ?_); (case side1 => exact xC ((Kd.C_below HR0_0.out HB.out))); (case side2 => exact HC0_0.out); rintro e w34 ⟨rfl, hb⟩; refine ⟨_, rfl, ?_⟩; replace HO382 := aM (Kd.S_below (by exact rS HO382) hb); replace BK379 := bK BK379 hb; replace HB := bS HB hb; clear hb)); go_ret2; exact ⟨_, by first | rfl | (simp [errW_none, errW_some] <;> rfl) | (simp [*, errW_none, errW_some] <;> rfl), by exact rS HO382, by exact rB HB⟩
end Go.Proofs.Ytdekenijnbhpfaa.M
/- The incidence of a morphism: program and reference count the same. No condition but lengths that fit. -/
namespace Go.Proofs.Ytdekenijnbhpfaa.M
open Go.RowKit Go.Proofs.YtdekenijnbhpfaaW.PrintWords Go.Proofs.Ytdekenijnbhpfaa.K
set_option linter.unusedVariables false
def cnt (w : List Int) (b : Int) : Nat := w.countP fun x => decide (x = b)
theorem cnt_take (w : List Int) (b : Int) (i : Nat) (h : i < w.length) : cnt (w.take (i + 1)) b = cnt (w.take i) b + (if w[i] = b then 1 else 0) := by
 unfold cnt; rw [take_succ w i h, List.countP_append]; simp [List.countP_cons]
theorem cnt_le (w : List Int) (b : Int) : cnt w b ≤ w.length := List.countP_le_length
def incRow (w : List Int) (n : Nat) : List Int := row n fun b => (cnt w (b : Int) : Int)
def inc (ms : List (List Int)) : List (List Int) := if mo ms = true then ms.map fun w => incRow w ms.length else []
theorem mo_letters {ms : List (List Int)} (h : mo ms = true) (i : Nat) (hi : i < ms.length) (j : Nat) (hj : j < ms[i].length) : 0 ≤ ms[i][j] ∧ ms[i][j] < (ms.length : Int) := by
 unfold mo isL at h; rw [Bool.and_eq_true, List.all_eq_true] at h; have := h.2 _ (List.getElem_mem hi); rw [Bool.and_eq_true, List.all_eq_true] at this; exact of_decide_eq_true (this.2 _ (List.getElem_mem hj))
theorem implInc_ev (ms : List (List Int)) (h : ms.length ≤ 1048576) (ht : total ms ≤ 1048576) : Ev (fun k => impl_IncidenceOf.f k ms) (inc ms, mo ms) := by
 unfold impl_IncidenceOf.f; refine Ev.bind (Ev.some _) (Ev.bind (implIsMorphism_ev ms h ht) ?_); by_cases q : mo ms = true
 ·unfold inc; rw [_root_.if_pos q]; refine Ev.if_pos q ?_; rw [q]; have l1 : ∀ i, i < ms.length → ∀ (w : List Int), w = rd_L1 ms (i : Int) → w.length ≤ 8 → (∀ j, (hj : j < w.length) → 0 ≤ w[j] ∧ w[j] < (ms.length : Int)) → Ev (fun k => impl_IncidenceOf.l0 k (((ms.take i).map fun w => incRow w ms.length) ++ [incRow w ms.length]) ms (ms.length : Int) ((i + 1 : Nat) : Int) ms) (ms.map (fun w => incRow w ms.length), true) →
    ∀ j, j ≤ w.length → Ev (fun k => impl_IncidenceOf.l1 k ((ms.take i).map fun w => incRow w ms.length) (incRow (w.take j) ms.length) ms (ms.length : Int) (i : Int) w (w.length : Int) (j : Int) ms) (ms.map (fun w => incRow w ms.length), true) := by
   intro i hi w hwe hw8 hl ih0; refine down w.length ?_ ?_
   ·refine Ev.step (fun k => by simp only [impl_IncidenceOf.l1]; rw [_root_.if_neg (by omega), _root_.if_pos (by rw [List.length_map, List.length_take]; omega), wsucc (by omega)]) ?_; rw [List.take_length]; exact ih0
   ·intro j hj ih; have h1 := hl j hj; obtain ⟨x, hx⟩ : ∃ x : Nat, w[j] = (x : Int) := ⟨w[j].toNat, by omega⟩; have h2 := cnt_le (w.take j) (x : Int); rw [List.length_take] at h2; have e : (incRow (w.take j) ms.length).set ((w[j]) : Int).toNat (wrap64 (rd (incRow (w.take j) ms.length) w[j] + 1)) = incRow (w.take (j + 1)) ms.length := by
     rw [hx, Int.toNat_natCast]; unfold incRow; rw [rd_row _ _ _ (by omega), row_set]; refine row_congr _ _ _ (fun b hb => ?_); rw [cnt_take w _ j hj, hx]; by_cases e : b = x
     ·rw [_root_.if_pos e, e, _root_.if_pos rfl, w_id (by omega) (by omega)]; omega
     ·rw [_root_.if_neg e, _root_.if_neg (by omega)]; rfl
    refine Ev.step (fun k => by simp only [impl_IncidenceOf.l1]; rw [_root_.if_pos (by omega), _root_.if_pos (by omega), _root_.if_pos (by omega), wsucc (by omega), rd_get w j hj, _root_.if_pos h1.1, _root_.if_pos (by unfold incRow; rw [row_length]; exact h1.2), e]) ih
  have key : ∀ i, i ≤ ms.length → Ev (fun k => impl_IncidenceOf.l0 k ((ms.take i).map fun w => incRow w ms.length) ms (ms.length : Int) (i : Int) ms) (ms.map (fun w => incRow w ms.length), true) := by
   refine down ms.length ?_ ?_
   ·refine Ev.step (fun k => by simp only [impl_IncidenceOf.l0]; rw [_root_.if_neg (by omega)]) ?_; rw [List.take_length]; exact Ev.some _
   ·intro i hi ih; rw [take_succ ms i hi, List.map_append, List.map_cons, List.map_nil] at ih; refine Ev.step (fun k => by simp only [impl_IncidenceOf.l0]; rw [_root_.if_pos (by omega), _root_.if_pos (by omega), _root_.if_pos (by omega), _root_.if_pos (by omega), _root_.if_pos (by omega), Int.toNat_natCast]) ?_; have hr := rdLL ms i hi; have := l1 i hi (rd_L1 ms (i : Int)) rfl (by rw [hr]; exact mo_at q i hi) (fun j hj => by simp only [hr] at hj ⊢; exact mo_letters q i hi j hj) (by rw [hr]; exact ih) 0 (by omega); have e : incRow ((rd_L1 ms (i : Int)).take 0) ms.length = List.replicate ms.length 0 := by
     rw [row_replicate]; unfold incRow; exact row_congr _ _ _ (fun b _ => by simp [cnt])
    rw [e] at this; exact this
  exact key 0 (by omega)
 ·unfold inc; rw [_root_.if_neg q]; refine Ev.if_neg q ?_; rw [Bool.eq_false_iff.2 q]; exact Ev.some _
end Go.Proofs.Ytdekenijnbhpfaa.M
