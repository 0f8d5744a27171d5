/- Texts of the claim on FnAvoidance, joined (part 2 of 6): walks of the functions, what they come to, and in the last part the row. No condition of mine. -/
import Derived.Test.YthkkpdgadfhijaaBFnAvoidance0
import Derived.Test.YthkkpdgadfhijaaBFnAvoidance1
/- Walks for this claim, written by a program of mine over the kit's print. No condition of mine. -/
namespace Go.Proofs.Ythkkpdgadfhijaa.M
open Go.RowKit Go.Proofs.Ythkkpdgadfhijaa.KW Go.Proofs.YthkkpdgadfhijaaW.PrintWords Go.Proofs.YthkkpdgadfhijaaW.PrintLast Go.Proofs.YthkkpdgadfhijaaW.PrintMore
attribute [local go_sem] max2_int min2_int max_two min_two max_three min_three max_four min_four   -- for this text's walks alone
set_option linter.unusedVariables false
set_option linter.unusedSimpArgs false

/-! ### impl_MatchAt: function 66 -/
/-- Two words held against each other: 0 just where they are the same. -/
theorem cmp_val (u v : List Int) (hu : u.length ≤ 9223372036854775807) : ∃ (k : Nat) (c : Int), impl_CompareWords.f k u v = some c ∧ (c = 0 ↔ u = v) := by
 have key : ∀ i, i ≤ u.length → ∃ c : Int, Ev (fun k => slices_Compare_int_int.l0 k u v u (u.length : Int) (i : Int)) c ∧ (c = 0 ↔ u.drop i = v.drop i) := by
  refine K.down u.length ?_ ?_
  ·by_cases h : (u.length : Int) < (v.length : Int)
   ·refine ⟨-1, Ev.step (fun k => by simp only [slices_Compare_int_int.l0]; rw [if_neg (by omega), if_pos h]) (K.Ev.some _), ?_⟩
    rw [List.drop_length, K.drop_eq v u.length (by omega)]; simp; omega
   ·refine ⟨0, Ev.step (fun k => by simp only [slices_Compare_int_int.l0]; rw [if_neg (by omega), if_neg h]) (K.Ev.some _), ?_⟩
    rw [List.drop_length, List.drop_eq_nil_of_le (by omega)]; simp
  ·intro i hi ⟨c, hc, hcc⟩
   by_cases h : i < v.length
   ·have hv : cmp_Compare_int.f (rd u (i : Int)) (rd v (i : Int)) = some (if rd u (i : Int) < rd v (i : Int) then -1 else if rd u (i : Int) > rd v (i : Int) then 1 else 0) := by
     unfold cmp_Compare_int.f cmp_isNaN_int.f
     simp only [bne_self_eq_false, Option.bind_some, Bool.false_eq_true, if_false]
     split
     ·rfl
     ·split <;> rfl
    by_cases e : rd u (i : Int) = rd v (i : Int)
    ·refine ⟨c, Ev.step (fun k => by simp only [slices_Compare_int_int.l0]; rw [if_pos (by omega), if_pos (by omega), if_pos (by omega), if_neg (by omega), if_pos (by omega), hv, if_neg (by omega), if_neg (by omega), Option.bind_some, if_pos rfl, K.wsucc (by omega)]) hc, ?_⟩
     rw [hcc, K.drop_eq u i hi, K.drop_eq v i h, ← K.rd_get u i hi, ← K.rd_get v i h, e]
     simp
    ·refine ⟨if rd u (i : Int) < rd v (i : Int) then -1 else 1, Ev.step (fun k => by simp only [slices_Compare_int_int.l0]; rw [if_pos (by omega), if_pos (by omega), if_pos (by omega), if_neg (by omega), if_pos (by omega), hv]) ?_, ?_⟩
     ·by_cases q : rd u (i : Int) < rd v (i : Int)
      ·rw [if_pos q, if_pos q]; exact Ev.bind (K.Ev.some _) (K.Ev.if_neg (by omega) (K.Ev.some _))
      ·rw [if_neg q, if_neg q, if_pos (by omega)]; exact Ev.bind (K.Ev.some _) (K.Ev.if_neg (by omega) (K.Ev.some _))
     ·rw [K.drop_eq u i hi, K.drop_eq v i h, ← K.rd_get u i hi, ← K.rd_get v i h]
      constructor
      ·intro h1; split at h1 <;> omega
      ·intro h1; exact absurd (List.cons.inj h1).1 e
   ·refine ⟨1, Ev.step (fun k => by simp only [slices_Compare_int_int.l0]; rw [if_pos (by omega), if_pos (by omega), if_pos (by omega), if_pos (by omega)]) (K.Ev.some _), ?_⟩
    rw [List.drop_eq_nil_of_le (show v.length ≤ i by omega), K.drop_eq u i hi]; simp; omega
 obtain ⟨c, hc, hcc⟩ := key 0 (by omega)
 obtain ⟨k, hk⟩ := hc.rounds
 refine ⟨k, c, ?_, hcc⟩
 unfold impl_CompareWords.f slices_Compare_int_int.f
 have hk' : slices_Compare_int_int.l0 k u v u (u.length : Int) 0 = some c := hk
 rw [hk']; rfl

/-- A pattern, held against a word from a place on; us: the words of the letters that have been met. -/
def mgo (w L : List Int) : List Int → Nat → List (Option (List Int)) → Bool
 | [], _, _ => true
 | x :: p, i, us =>
  let e := i + (L.getD x.toNat 0).toNat
  if w.length < e then false
  else match us.getD x.toNat none with
   | none => mgo w L p e (us.set x.toNat (some ((w.take e).drop i)))
   | some u => if u = (w.take e).drop i then mgo w L p e us else false
theorem mgo_cons (w L p : List Int) (x n i : Nat) (us : List (Option (List Int))) (hn : L.getD x 0 = (n : Int)) : mgo w L ((x : Int) :: p) i us = if w.length < i + n then false else match us.getD x none with
   | none => mgo w L p (i + n) (us.set x (some ((w.take (i + n)).drop i)))
   | some u => if u = (w.take (i + n)).drop i then mgo w L p (i + n) us else false := by
 simp only [mgo, Int.toNat_natCast, hn]
def matOk (w p : List Int) (L : List Int) : Prop := (∀ x ∈ p, 0 ≤ x ∧ x < (L.length : Int)) ∧ (∀ y ∈ L, 1 ≤ y ∧ y ≤ 40) ∧ w.length ≤ 1000000 ∧ p.length ≤ 1000000 ∧ L.length ≤ 1000000
instance (w p L : List Int) : Decidable (matOk w p L) := by unfold matOk; exact inferInstance
def impl_MatchAt.f (k : Nat) (l0 l1 : List Int) (a2 : Int) (l3 : List Int) : Option Bool := (impl_areLengths.f k l1 l3).bind fun t => if t = true ∧ 0 ≤ a2 ∧ a2 ≤ (l0.length : Int) then (if matOk l0 l1 l3 then some (mgo l0 l3 l1 a2.toNat (List.replicate l3.length none)) else none) else some false
theorem impl_MatchAt.mono : ∀ l0 l1 a2 l3 k, LeO (impl_MatchAt.f k l0 l1 a2 l3) (impl_MatchAt.f (k + 1) l0 l1 a2 l3) := fun l0 l1 a2 l3 k => LeO.bind (impl_areLengths.mono _ _ k) (fun _ => LeO.refl _)
/-- A slice's three words. -/
abbrev Sd := Option Addr × Nat × Nat
def sdv (d : Sd) : Value := .slice d.1 d.2.1 d.2.2
def WdOk (W : World) (d : Sd) : Option (List Int) → Prop
 | none => d = (none, 0, 0)
 | some u => ∃ ad c, d = (some ad, u.length, c) ∧ u.length ≤ c ∧ Kd.C (Kd.int .i64) W (some ad) u.length u
def WdsOk (W : World) (ds : List Sd) (us : List (Option (List Int))) : Prop := ds.length = us.length ∧ ∀ j, j < us.length → WdOk W (rdOf (none, 0, 0) ds (j : Int)) (us.getD j none)
theorem WdsOk.set {W : World} {ds : List Sd} {us : List (Option (List Int))} (h : WdsOk W ds us) (x : Nat) (ad : Addr) (c : Nat) (u : List Int) (hc : u.length ≤ c) (hC : Kd.C (Kd.int .i64) W (some ad) u.length u) : WdsOk W (ds.set x (some ad, u.length, c)) (us.set x (some u)) := by
 refine ⟨by rw [List.length_set, List.length_set]; exact h.1, fun j hj => ?_⟩
 rw [List.length_set] at hj
 have := h.2 j hj
 unfold rdOf at this ⊢
 rw [Int.toNat_natCast] at this ⊢
 rw [List.getD_eq_getElem?_getD] at this ⊢
 rw [List.getD_eq_getElem?_getD] at this ⊢
 by_cases e : x = j
 ·subst e
  rw [List.getElem?_set_self (by rw [h.1]; exact hj), List.getElem?_set_self hj]
  exact ⟨ad, c, rfl, hc, hC⟩
 ·rw [List.getElem?_set_ne e, List.getElem?_set_ne e]; exact this
set_option maxHeartbeats 4000000 in
set_option maxRecDepth 100000 in
theorem impl_MatchAt.calls (k : Nat) (A0 : Option Addr) (c0 : Nat) (l0 : List Int) (A1 : Option Addr) (c1 : Nat) (l1 : List Int) (a2 : Int) (A3 : Option Addr) (c3 : Nat) (l3 : List Int) (r : Bool) (w : World) (hr0 : Kd.C (Kd.int .i64) w A0 l0.length l0) (hc0 : l0.length ≤ c0) (hr1 : Kd.C (Kd.int .i64) w A1 l1.length l1) (hc1 : l1.length ≤ c1) (hr3 : Kd.C (Kd.int .i64) w A3 l3.length l3) (hc3 : l3.length ≤ c3) (h : impl_MatchAt.f k l0 l1 a2 l3 = some r) :
  Calls Try.prog 66 #[.slice A0 l0.length c0, .slice A1 l1.length c1, .int .i64 a2, .slice A3 l3.length c3] w fun e w' => e = .returned (.bool r) ∧ Below w.heap.size w w' := by
 have HR0 := Aside0.mk hr0
 have HC0 := Aside0.mk hc0
 have HR1 := Aside0.mk hr1
 have HC1 := Aside0.mk hc1
 have HR3 := Aside0.mk hr3
 have HC3 := Aside0.mk hc3
 clear hr0 hc0 hr1 hc1 hr3 hc3
 unfold impl_MatchAt.f at h
 have h_ := Option.bind_eq_some_iff.mp h
 clear h
 obtain ⟨t, ht, h⟩ := h_
 have HT := Aside0.mk ht
 clear ht
 have HNIL := Aside0.mk (fun W : World => (show (binOp .eql 22 (.slice none 0 0) (.slice none 0 0)).run Try.prog W = .ok (.bool true) W from by kernel_rfl))
 by_cases hok : t = true ∧ 0 ≤ a2 ∧ a2 ≤ (l0.length : Int)
 ·rw [if_pos hok] at h
  obtain ⟨rfl, h0, h1⟩ := hok
  by_cases hm : matOk l0 l1 l3
  ·rw [if_pos hm] at h
   obtain ⟨at0, rfl⟩ : ∃ n : Nat, a2 = (n : Int) := ⟨a2.toNat, by omega⟩
   rw [Int.toNat_natCast] at h
   have HG := Aside0.mk (Option.some.inj h)
   obtain ⟨hm1, hm2, hm3, hm4, hm5⟩ := hm
   have HM1 := Aside0.mk hm1
   have HM2 := Aside0.mk hm2
   clear h hm1 hm2 h0
   have h1' : at0 ≤ l0.length := by omega
   have hd1 : decide ((at0 : Int) < 0) = false := by simp
   have hd2 : decide ((l0.length : Int) < (at0 : Int)) = false := by simp; omega
   clear h1
   go_enter Try.func66, Try.ntmps66
   go_wp2_with fail
   refine (impl_areLengths.calls k A1 c1 l1 A3 c3 l3 true w HR1.out HC1.out HR3.out HC3.out HT.out).mono ?_
   rintro e_ w1 ⟨rfl, ⟨n1, rfl⟩⟩
   go_wp2_with ((with_reducible refine gate_dst (N := 30) rfl ?_); refine Aside0.out ?_)
   refine Aside0.mk ?_
   refine Kd.R_make (Kd.scalar sdv (fun _ => rfl)) (w0 := w) w.heap.size 22 rfl (N := 30) rfl 32 _ _ rfl (l3.length : Int) rfl rfl Try.underlying32 (.slice none 0 0) 24 (by kernel_rfl) rfl (by decide) (by omega) ((none, 0, 0) : Sd) (ok := fun _ => True) (okp := fun _ => True) rfl (fun _ hk => hk) trivial (by omega) (by rw [Int.toNat_natCast]; omega) (pw_below_drewN (Below.refl _ _) _) (Nat.le_refl _) ?_
   intro v30 w2 ho2 hb2 _ _
   rw [Int.toNat_natCast] at ho2
   obtain ⟨A30, c30, rfl⟩ := Kd.R_slice ho2
   rw [List.length_replicate] at *
   have HO2 := Aside0.mk ho2
   have HB2 := Aside0.mk hb2
   clear ho2 hb2
   go_wp2_with fail
   go_loopw [2, 33] (fun v2 v33 wr => ∃ (i b : Nat) (us : List (Option (List Int))) (ds : List Sd), i ≤ l1.length ∧ v33 = .int .i64 i ∧ v2 = .int .i64 b ∧ Aside0 (mgo l0 l3 (l1.drop i) b us = r) ∧ b ≤ l0.length ∧ Aside0 (WdsOk w ds us) ∧ Aside0 (ds.length = l3.length) ∧ Aside0 (Kd.R (Kd.scalar sdv (fun _ => rfl)) 22 wr w.heap.size (fun _ => True) (.slice A30 l3.length c30) ds) ∧ Aside0 (Below w.heap.size w wr)) (fun _ v33 _ => l1.length - (intOf v33).toNat)
   case atStart =>
    refine ⟨0, at0, List.replicate l3.length none, List.replicate l3.length (none, 0, 0), Nat.zero_le _, rfl, rfl, HG, h1', ⟨by rw [List.length_replicate, List.length_replicate], fun j hj => ?_⟩, ⟨List.length_replicate⟩, HO2, HB2⟩
    rw [List.length_replicate] at hj
    unfold rdOf
    rw [Int.toNat_natCast, List.getD_eq_getElem?_getD, List.getD_eq_getElem?_getD]
    simp [hj, WdOk]
   case round =>
    clear HO2 HB2 HG
    obtain ⟨i, b, us, ds, hi, rfl, rfl, HG, hb, HW, HD, HO, HB⟩ := hrel
    by_cases hlt : i < l1.length
    ·obtain ⟨x, hx, hxl⟩ : ∃ x : Nat, l1[i] = (x : Int) ∧ x < l3.length := by
      have := HM1.out l1[i] (List.getElem_mem hlt)
      exact ⟨l1[i].toNat, by omega, by omega⟩
     obtain ⟨n, hn, hn1, hn2⟩ : ∃ n : Nat, l3[x] = (n : Int) ∧ 1 ≤ n ∧ n ≤ 40 := by
      have := HM2.out l3[x] (List.getElem_mem hxl)
      exact ⟨l3[x].toNat, by omega, by omega, by omega⟩
     obtain ⟨ad1, e1, hx1⟩ := Kd.at_int HR1.out (i : Int) (by omega) (by omega)
     subst e1
     rw [Int.toNat_natCast, K.rd_get l1 i hlt, hx] at hx1
     replace hx1 := pw_cell_below HB.out hx1
     obtain ⟨ad3, e3, hx3⟩ := Kd.at_int HR3.out (x : Int) (by omega) (by omega)
     subst e3
     rw [Int.toNat_natCast, K.rd_get l3 x hxl, hn] at hx3
     replace hx3 := pw_cell_below HB.out hx3
     have hg := HG.out
     rw [K.drop_eq l1 i hlt, hx, mgo_cons _ _ _ x n _ _ (by rw [List.getD_eq_getElem?_getD, List.getElem?_eq_getElem hxl]; exact hn)] at hg
     clear hx hn
     by_cases hle : l0.length < b + n
     ·rw [if_pos hle] at hg
      subst hg
      have hd : decide ((l0.length : Int) < (b : Int) + (n : Int)) = true := by simp; omega
      go_wp2_with fail
      go_ret
      exact ⟨rfl, HB.out⟩
     ·rw [if_neg hle] at hg
      have hd : decide ((l0.length : Int) < (b : Int) + (n : Int)) = false := by simp; omega
      obtain ⟨i0, hi0, _, hsz, _⟩ := info_parts info3
      obtain ⟨A', hcut, hA', hC'⟩ := print_mid_of (P := Try.prog) (Value.int .i64) 0 22 3 .i64 .i64 Try.underlying22 hi0 hsz A0 c0 l0 (b : Int) ((b : Int) + (n : Int)) (by omega) (by omega) (by omega) HC0.out
      have hrp := Kd.C_of_reads (h1 := fun _ => rfl) (hA' _ (Kd.reads_of_C HR0.out))
      clear hi0 hsz hA'
      rw [show ((b : Int) + (n : Int)).toNat = b + n from by omega, Int.toNat_natCast] at hcut hC' hrp
      generalize hp : (l0.take (b + n)).drop b = part at *
      have hpl : part.length = n := by rw [← hp, List.length_drop, List.length_take]; omega
      clear hp
      obtain ⟨adp, rfl⟩ : ∃ ad, A' = some ad := by
       obtain ⟨ad, e, _⟩ := Kd.at_int hrp 0 (by omega) (by omega)
       exact ⟨ad, e⟩
      have HRP := Aside0.mk hrp
      have HCP := Aside0.mk hC'
      have HPL := Aside0.mk hpl
      clear hrp hC' hpl
      obtain ⟨g, cap, e30, hbg, hgl, _⟩ := Kd.R_form HO.out (by rw [HD.out]; omega)
      injection e30 with ea en ec
      subst ea ec
      clear en
      obtain ⟨hxw, hfw⟩ := Kd.R_celln ((none, 0, 0) : Sd) HO.out (x : Int) (by omega) (by omega)
      rw [Int.toNat_natCast] at hxw hfw
      have hw := HW.out.2 x (by rw [← HW.out.1, HD.out]; exact hxl)
      generalize rdOf ((none, 0, 0) : Sd) ds (x : Int) = dd at hxw hw
      generalize hux : us.getD x none = ux at hw hg
      clear hux
      have HBG := Aside0.mk hbg
      clear hbg hgl
      cases ux with
      | none =>
       obtain rfl : dd = (none, 0, 0) := hw
       have hg1 : mgo l0 l3 (l1.drop (i + 1)) (b + n) (us.set x (some part)) = r := hg
       have HG1 := Aside0.mk hg1
       clear hg hg1
       have hxw' : wr.cell? ⟨g, x, none⟩ = some (.slice none 0 0) := hxw
       clear hxw
       have hnil := HNIL.out
       have HP := Aside0.mk (Kd.R_putg HO.out (x : Int) ((some adp, part.length, c0 - b) : Sd))
       go_wp2_with ((with_reducible refine gate_store (t := 22) (p := 59) rfl ?_); refine Aside0.out ?_)
       refine Aside0.mk ?_
       refine store_event (t := 22) (p := 59) (v := ?vo) (w1 := (wr.setCell ⟨g, x, none⟩ (.slice (some adp) part.length (c0 - b)))) ?hg ?ho ?hn ?hr ?_
       case ho => rfl
       case hg => rfl
       case hn => rfl
       case hr => first | (go_simp; done) | (go_simp; rfl)
       intro w3 hw3
       have HP2 := HP.out
       rw [Int.toNat_natCast] at HP2
       have HO3 := Aside0.mk (show Kd.R (Kd.scalar sdv (fun _ => rfl)) 22 w3 w.heap.size (fun _ => True) (.slice (some ⟨g, 0, none⟩) l3.length c30) (ds.set x (some adp, part.length, c0 - b)) from by rw [hw3]; exact HP2.1)
       have HB3 := Aside0.mk (show Below w.heap.size w w3 from by rw [hw3]; exact below_set HB.out HBG.out)
       clear HP2 HP hxw' hw3 HO HB hx1 hx3
       obtain ⟨hxv, hfv⟩ := Kd.R_celln ((none, 0, 0) : Sd) HO3.out (x : Int) (by omega) (by omega)
       rw [Int.toNat_natCast, show rdOf ((none, 0, 0) : Sd) (ds.set x (some adp, part.length, c0 - b)) (x : Int) = (some adp, part.length, c0 - b) from by unfold rdOf; rw [Int.toNat_natCast, List.getD_eq_getElem?_getD, List.getElem?_set_self (by rw [HD.out]; exact hxl)]; rfl] at hxv
       have hxv' : w3.cell? ⟨g, x, none⟩ = some (.slice (some adp) part.length (c0 - b)) := hxv
       clear hxv hfv
       obtain ⟨kc, cc, hcc, hc2⟩ := cmp_val part part (by have := HPL.out; omega)
       obtain rfl : cc = 0 := hc2.2 rfl
       clear hc2
       have HCC := Aside0.mk hcc
       clear hcc
       go_wp2_with fail
       refine (impl_CompareWords.calls kc (some adp) (c0 - b) part (some adp) (c0 - b) part 0 w3 (Kd.C_below HRP.out HB3.out) HCP.out (Kd.C_below HRP.out HB3.out) HCP.out HCC.out).mono ?_
       rintro e_ w4 ⟨rfl, ⟨n4, rfl⟩⟩
       go_wp2_with fail
       go_roundw
       case rel => exact ⟨i + 1, b + n, us.set x (some part), ds.set x (some adp, part.length, c0 - b), by omega, by go_num, by go_num, HG1, by omega, ⟨HW.out.set x adp (c0 - b) part HCP.out HRP.out⟩, ⟨by rw [List.length_set]; exact HD.out⟩, ⟨Kd.R_drewN HO3.out _⟩, ⟨pw_below_drewN HB3.out _⟩⟩
       case measure => simp [intOf]; omega
      | some u =>
       obtain ⟨adu, cu, rfl, hcu, hCu⟩ := hw
       have hxw' : wr.cell? ⟨g, x, none⟩ = some (.slice (some adu) u.length cu) := hxw
       clear hxw
       have hnn : ∀ W : World, (binOp .eql 22 (.slice (some adu) u.length cu) (.slice none 0 0)).run Try.prog W = .ok (.bool false) W := fun W => by kernel_rfl
       have HCU := Aside0.mk hcu
       have HRU := Aside0.mk hCu
       clear hcu hCu
       have hg1 : (if u = part then mgo l0 l3 (l1.drop (i + 1)) (b + n) us else false) = r := hg
       have HG1 := Aside0.mk hg1
       clear hg hg1
       obtain ⟨kc, cc, hcc, hc2⟩ := cmp_val u part (Kd.C_max HRU.out)
       have HCC := Aside0.mk hcc
       clear hcc
       by_cases q : u = part
       ·obtain rfl : cc = 0 := hc2.2 q
        clear hc2
        rw [if_pos q] at HG1
        clear q
        go_wp2_with fail
        refine (impl_CompareWords.calls kc (some adu) cu u (some adp) (c0 - b) part 0 wr (Kd.C_below HRU.out HB.out) HCU.out (Kd.C_below HRP.out HB.out) HCP.out HCC.out).mono ?_
        rintro e_ w4 ⟨rfl, ⟨n4, rfl⟩⟩
        go_wp2_with fail
        go_roundw
        case rel => exact ⟨i + 1, b + n, us, ds, by omega, by go_num, by go_num, HG1, by omega, HW, HD, ⟨Kd.R_drewN HO.out _⟩, ⟨pw_below_drewN HB.out _⟩⟩
        case measure => simp [intOf]; omega
       ·have hcn : (cc != 0) = true := by
         rw [bne_iff_ne]; intro h0; exact q (hc2.1 h0)
        clear hc2
        rw [if_neg q] at HG1
        obtain rfl := HG1.out
        clear q
        go_wp2_with fail
        refine (impl_CompareWords.calls kc (some adu) cu u (some adp) (c0 - b) part cc wr (Kd.C_below HRU.out HB.out) HCU.out (Kd.C_below HRP.out HB.out) HCP.out HCC.out).mono ?_
        rintro e_ w4 ⟨rfl, ⟨n4, rfl⟩⟩
        go_wp2_with fail
        go_ret
        exact ⟨rfl, pw_below_drewN HB.out _⟩
    ·have e : i = l1.length := by omega
     subst e
     have hg := HG.out
     rw [List.drop_length] at hg
     obtain rfl : true = r := hg
     go_wp2_with fail
     go_ret
     exact ⟨rfl, HB.out⟩
  ·rw [if_neg hm] at h; cases h
 ·rw [if_neg hok] at h
  obtain rfl := Option.some.inj h
  cases t with
  | false =>
   go_enter Try.func66, Try.ntmps66
   go_wp2_with fail
   refine (impl_areLengths.calls k A1 c1 l1 A3 c3 l3 false w HR1.out HC1.out HR3.out HC3.out HT.out).mono ?_
   rintro e_ w1 ⟨rfl, ⟨n1, rfl⟩⟩
   go_wp2_with fail
   go_ret
   exact ⟨rfl, pw_below_drewN (Below.refl _ _) _⟩
  | true =>
   by_cases h0 : a2 < 0
   ·have hd1 : decide (a2 < 0) = true := decide_eq_true h0
    clear hok h0
    go_enter Try.func66, Try.ntmps66
    go_wp2_with fail
    refine (impl_areLengths.calls k A1 c1 l1 A3 c3 l3 true w HR1.out HC1.out HR3.out HC3.out HT.out).mono ?_
    rintro e_ w1 ⟨rfl, ⟨n1, rfl⟩⟩
    go_wp2_with fail
    go_ret
    exact ⟨rfl, pw_below_drewN (Below.refl _ _) _⟩
   ·have hd1 : decide (a2 < 0) = false := decide_eq_false h0
    have hd2 : decide ((l0.length : Int) < a2) = true := decide_eq_true (by
     apply Int.not_le.1; intro h1; exact hok ⟨rfl, by omega, h1⟩)
    clear hok h0
    go_enter Try.func66, Try.ntmps66
    go_wp2_with fail
    refine (impl_areLengths.calls k A1 c1 l1 A3 c3 l3 true w HR1.out HC1.out HR3.out HC3.out HT.out).mono ?_
    rintro e_ w1 ⟨rfl, ⟨n1, rfl⟩⟩
    go_wp2_with fail
    go_ret
    exact ⟨rfl, pw_below_drewN (Below.refl _ _) _⟩

end Go.Proofs.Ythkkpdgadfhijaa.M
/- Matches of patterns as values: program and reference tell the same. No condition but lengths that fit. -/
namespace Go.Proofs.Ythkkpdgadfhijaa.M
open Go.RowKit Go.Proofs.YthkkpdgadfhijaaW.PrintWords Go.Proofs.Ythkkpdgadfhijaa.K
set_option linter.unusedVariables false
/-- How long a match is. -/
def tot (L : List Int) : List Int → Nat
  | [] => 0
  | x :: p => (L.getD x.toNat 0).toNat + tot L p
theorem tot_append (L p q : List Int) : tot L (p ++ q) = tot L p + tot L q := by
  induction p with
  | nil => simp [tot]
  | cons x p ih => simp only [List.cons_append, tot, ih]; omega
theorem okL_at {p L : List Int} (h : okL p L = true) : isPat p = true ∧ L.length = nl p ∧ (∀ y ∈ L, 1 ≤ y ∧ y ≤ 40) ∧ ∀ x ∈ p, 0 ≤ x ∧ x < (L.length : Int) ∧ x < 3 := by
  unfold okL at h
  rw [Bool.and_eq_true, Bool.and_eq_true, List.all_eq_true] at h
  obtain ⟨h1, h2, h3⟩ := h
  have h2 := of_decide_eq_true h2
  obtain ⟨h0, h6, hn3, hn1⟩ := isPat_nl h1
  refine ⟨h1, h2, fun y hy => of_decide_eq_true (h3 y hy), fun x hx => ?_⟩
  have := (ngo_mem p 0 _ h0).1 x hx
  omega
theorem tot_le (L : List Int) (hL : ∀ y ∈ L, 1 ≤ y ∧ y ≤ 40) (p : List Int) (hp : ∀ x ∈ p, 0 ≤ x ∧ x < (L.length : Int)) : p.length ≤ tot L p ∧ tot L p ≤ 40 * p.length := by
  induction p with
  | nil => simp [tot]
  | cons x p ih =>
    have h1 := ih (fun y hy => hp y (List.mem_cons_of_mem _ hy))
    have h2 := hp x (List.mem_cons_self ..)
    have h3 : x.toNat < L.length := by omega
    have h4 := hL _ (List.getElem_mem h3)
    simp only [tot, List.length_cons]
    rw [List.getD_eq_getElem?_getD, List.getElem?_eq_getElem h3]
    simp only [Option.getD_some]
    omega
theorem specMatchLength_ev (p L : List Int) (hp : p.length ≤ 1048576) (hL : L.length ≤ 1048576) : Ev (fun k => spec_MatchLength.f k p L) (if okL p L = true then (tot L p : Int) else -1) := by
  unfold spec_MatchLength.f
  refine Ev.bind (specLengths_ev p L hp hL) ?_
  refine Ev.ite (fun h => ?_) (fun h => ?_)
  · rw [_root_.if_pos h]
    obtain ⟨h1, h2, h3, h4⟩ := okL_at h
    have h6 := (isPat_nl h1).2.1
    have key : ∀ i, i ≤ p.length → Ev (fun k => spec_MatchLength.l0 k p L (tot L (p.take i) : Int) (i : Int)) (tot L p : Int) := by
      refine down p.length ?_ ?_
      · refine Ev.step (fun k => by simp only [spec_MatchLength.l0]; rw [_root_.if_neg (by omega)]) ?_
        rw [List.take_length]; exact Ev.some _
      · intro i hi ih
        have h5 := h4 p[i] (List.getElem_mem hi)
        obtain ⟨x, hx⟩ : ∃ x : Nat, p[i] = (x : Int) := ⟨p[i].toNat, by omega⟩
        have hxl : x < L.length := by omega
        have h7 := h3 _ (List.getElem_mem hxl)
        obtain ⟨n, hn⟩ : ∃ n : Nat, L[x] = (n : Int) := ⟨L[x].toNat, by omega⟩
        have h8 := (tot_le L h3 (p.take i) (fun y hy => ⟨(h4 y (List.mem_of_mem_take hy)).1, (h4 y (List.mem_of_mem_take hy)).2.1⟩)).2
        rw [List.length_take] at h8
        rw [take_succ p i hi, tot_append] at ih
        simp only [tot] at ih
        rw [hx, Int.toNat_natCast, List.getD_eq_getElem?_getD, List.getElem?_eq_getElem hxl, Option.getD_some, hn, Int.toNat_natCast] at ih
        refine Ev.step (fun k => by
          simp only [spec_MatchLength.l0]
          rw [_root_.if_pos (by omega), _root_.if_pos (by omega), rd_get p i hi, hx, _root_.if_pos (by omega), _root_.if_pos (by omega), rd_get L x hxl, hn, wsucc (i := i) (by omega), w_id (by omega) (by omega), show ((tot L (p.take i) : Nat) : Int) + (n : Int) = ((tot L (p.take i) + (n + 0) : Nat) : Int) from by omega]) ih
    have := key 0 (by omega)
    rw [List.take_zero] at this
    exact this
  · rw [_root_.if_neg h]; exact Ev.some _

/-- Held against the word: does a pattern match at a place with lengths. -/
def mAt (w p : List Int) (at_ : Nat) (L : List Int) : Bool := okL p L && (decide (at_ ≤ w.length) && mgo w L p at_ (List.replicate L.length none))
theorem mgo_long (w L : List Int) (p : List Int) : ∀ i us, i ≤ w.length → w.length < i + tot L p → mgo w L p i us = false := by
  induction p with
  | nil => intro i us h1 h2; simp only [tot] at h2; omega
  | cons x p ih =>
    intro i us h1 h2
    simp only [tot] at h2
    simp only [mgo]
    by_cases q : w.length < i + (L.getD x.toNat 0).toNat
    · rw [_root_.if_pos q]
    · rw [_root_.if_neg q]
      split
      · exact ih _ _ (by omega) (by omega)
      · split
        · exact ih _ _ (by omega) (by omega)
        · rfl
/-- What the two ways keep in mind tells the same. -/
def Same (w L : List Int) (us : List (Option (List Int))) (fs : List Int) : Prop :=
  us.length = L.length ∧ fs.length = 3 ∧ ∀ j : Nat, j < L.length → match us.getD j none with
    | none => fs.getD j 0 < 0
    | some u => 0 ≤ fs.getD j 0 ∧ (fs.getD j 0).toNat + (L.getD j 0).toNat ≤ w.length ∧ u = (w.take ((fs.getD j 0).toNat + (L.getD j 0).toNat)).drop (fs.getD j 0).toNat
theorem sgo_mgo (w L : List Int) (p : List Int) (hp : ∀ x ∈ p, 0 ≤ x ∧ x < (L.length : Int) ∧ x < 3) : ∀ i us fs, Same w L us fs → i + tot L p ≤ w.length → sgo w L p i fs = some (mgo w L p i us) := by
  induction p with
  | nil => intro i us fs _ _; rfl
  | cons x p ih =>
    intro i us fs hS ht
    obtain ⟨hl, hf, hS⟩ := hS
    have hx := hp x (List.mem_cons_self ..)
    have hx' : x.toNat < L.length := by omega
    have ih := ih (fun y hy => hp y (List.mem_cons_of_mem _ hy))
    simp only [tot] at ht
    simp only [sgo, mgo]
    have h1 := hS x.toNat hx'
    have hn : ¬ w.length < i + (L.getD x.toNat 0).toNat := by omega
    rw [_root_.if_neg hn, _root_.if_neg hn]
    cases hu : us.getD x.toNat none with
    | none =>
      rw [hu] at h1
      simp only at h1 ⊢
      rw [_root_.if_pos h1]
      refine ih _ _ _ ⟨by rw [List.length_set]; exact hl, by rw [List.length_set]; exact hf, fun j hj => ?_⟩ (by omega)
      have h2 := hS j hj
      by_cases e : x.toNat = j
      · subst e
        have e1 : ∀ V, (us.set x.toNat (some V)).getD x.toNat none = some V := fun V => by rw [List.getD_eq_getElem?_getD, List.getElem?_set_self (by omega)]; rfl
        have e2 : (fs.set x.toNat (i : Int)).getD x.toNat 0 = (i : Int) := by rw [List.getD_eq_getElem?_getD, List.getElem?_set_self (by omega)]; rfl
        rw [e1, e2]
        simp only [Int.toNat_natCast]
        exact ⟨by omega, by omega, trivial⟩
      · have e1 : ∀ V, (us.set x.toNat (some V)).getD j none = us.getD j none := fun V => by rw [List.getD_eq_getElem?_getD, List.getElem?_set_ne e, ← List.getD_eq_getElem?_getD]
        have e2 : (fs.set x.toNat (i : Int)).getD j 0 = fs.getD j 0 := by rw [List.getD_eq_getElem?_getD, List.getElem?_set_ne e, ← List.getD_eq_getElem?_getD]
        rw [e1, e2]
        exact h2
    | some u =>
      rw [hu] at h1
      simp only at h1 ⊢
      obtain ⟨h2, h3, h4⟩ := h1
      rw [_root_.if_neg (show ¬ fs.getD x.toNat 0 < 0 by omega), _root_.if_neg (show ¬ w.length < (fs.getD x.toNat 0).toNat + (L.getD x.toNat 0).toNat by omega), ← h4]
      by_cases e : u = (w.take (i + (L.getD x.toNat 0).toNat)).drop i
      · rw [_root_.if_pos e, _root_.if_pos e]
        exact ih _ _ _ ⟨hl, hf, hS⟩ (by omega)
      · rw [_root_.if_neg e, _root_.if_neg e]
theorem mAt_len {w p L : List Int} {at_ : Nat} (h : mAt w p at_ L = true) : okL p L = true ∧ at_ + tot L p ≤ w.length := by
  unfold mAt at h
  rw [Bool.and_eq_true, Bool.and_eq_true] at h
  obtain ⟨h1, h2, h3⟩ := h
  have h2 := of_decide_eq_true h2
  refine ⟨h1, ?_⟩
  apply Nat.le_of_not_lt
  intro q
  rw [mgo_long w L p at_ _ h2 q] at h3
  cases h3
theorem implMatchAt_ev (w p : List Int) (at_ : Nat) (L : List Int) (hw : w.length ≤ 1000000) (hp : p.length ≤ 1048576) (hL : L.length ≤ 1048576) : Ev (fun k => impl_MatchAt.f k w p (at_ : Int) L) (mAt w p at_ L) := by
  unfold impl_MatchAt.f mAt
  refine Ev.bind (implLengths_ev p L hp hL) ?_
  by_cases h : okL p L = true
  · obtain ⟨h1, h2, h3, h4⟩ := okL_at h
    rw [h, Bool.true_and]
    by_cases h5 : at_ ≤ w.length
    · rw [decide_eq_true h5, Bool.true_and]
      have hok : matOk w p L := ⟨fun x hx => ⟨(h4 x hx).1, (h4 x hx).2.1⟩, h3, hw, by have := (isPat_nl h1).2.1; omega, by have := (isPat_nl h1).2.2.1; omega⟩
      refine Ev.if_pos ⟨rfl, by omega, by omega⟩ (Ev.if_pos hok ?_)
      rw [Int.toNat_natCast]; exact Ev.some _
    · rw [decide_eq_false h5, Bool.false_and]
      exact Ev.if_neg (fun q => h5 (by omega)) (Ev.some _)
  · rw [Bool.eq_false_iff.2 h, Bool.false_and]
    exact Ev.if_neg (by simp) (Ev.some _)
theorem specMatchAt_ev (w p : List Int) (at_ : Nat) (L : List Int) (hw : w.length ≤ 1000000) (hp : p.length ≤ 1048576) (hL : L.length ≤ 1048576) : Ev (fun k => spec_MatchAt.f k w p (at_ : Int) L) (mAt w p at_ L) := by
  unfold spec_MatchAt.f
  refine Ev.bind (specMatchLength_ev p L hp hL) ?_
  by_cases h : okL p L = true
  · rw [_root_.if_pos h]
    obtain ⟨h1, h2, h3, h4⟩ := okL_at h
    have h6 := (isPat_nl h1).2.1
    have h7 := (tot_le L h3 p (fun y hy => ⟨(h4 y hy).1, (h4 y hy).2.1⟩)).2
    by_cases h5 : at_ ≤ w.length
    · refine Ev.if_neg (by omega) (Ev.if_neg (fun q => q ⟨hw, by omega⟩) ?_)
      unfold mAt
      rw [h, decide_eq_true h5, Bool.true_and, Bool.true_and]
      by_cases h8 : w.length < at_ + tot L p
      · rw [mgo_long w L p at_ _ h5 h8]
        exact Ev.if_pos (by omega) (Ev.some _)
      · have hok : smatOk w p L := ⟨h4, h3, hw, by omega, by have := (isPat_nl h1).2.2.1; omega⟩
        refine Ev.if_neg (by omega) (Ev.if_pos hok ?_)
        rw [Int.toNat_natCast, sgo_mgo w L p h4 at_ (List.replicate L.length none) [-1, -1, -1] ⟨List.length_replicate, rfl, fun j hj => ?_⟩ (by omega)]
        · exact Ev.some _
        · rw [List.getD_eq_getElem?_getD]
          have hj3 : j < 3 := by have := (isPat_nl h1).2.2.1; omega
          simp only [List.getElem?_replicate, hj, if_true, Option.getD_some]
          rcases j with _ | _ | _ | j
          · decide
          · decide
          · decide
          · omega
    · unfold mAt
      rw [decide_eq_false h5, Bool.false_and, Bool.and_false]
      exact Ev.if_pos (by omega) (Ev.some _)
  · rw [_root_.if_neg h]
    unfold mAt
    rw [Bool.eq_false_iff.2 h, Bool.false_and]
    exact Ev.if_pos (by omega) (Ev.some _)

/-- The first of the lists that begin as pre, go on with a number from a to K and d more from 1 to K, at which F tells something. -/
def srch (K : Nat) (F : List Int → Option (List Int)) : Nat → List Int → Nat → Option (List Int)
  | 0, pre, a => (List.range' a (K + 1 - a)).findSome? fun (j : Nat) => F (pre ++ [(j : Int)])
  | d + 1, pre, a => (List.range' a (K + 1 - a)).findSome? fun (j : Nat) => srch K F d (pre ++ [(j : Int)]) 1
def inner (K : Nat) (F : List Int → Option (List Int)) : Nat → List Int → Nat → Option (List Int)
  | 0, pre, j => F (pre ++ [(j : Int)])
  | d + 1, pre, j => srch K F d (pre ++ [(j : Int)]) 1
theorem srch_def (K : Nat) (F : List Int → Option (List Int)) (d : Nat) (pre : List Int) (a : Nat) : srch K F d pre a = (List.range' a (K + 1 - a)).findSome? (inner K F d pre) := by cases d <;> rfl
theorem srch_end (K : Nat) (F : List Int → Option (List Int)) (d : Nat) (pre : List Int) (a : Nat) (h : K < a) : srch K F d pre a = none := by
  rw [srch_def, show K + 1 - a = 0 from by omega]; rfl
theorem srch_step (K : Nat) (F : List Int → Option (List Int)) (d : Nat) (pre : List Int) (a : Nat) (h : a ≤ K) : srch K F d pre a = (inner K F d pre a).or (srch K F d pre (a + 1)) := by
  rw [srch_def, srch_def, show K + 1 - a = (K + 1 - (a + 1)) + 1 from by omega, List.range'_succ, List.findSome?_cons]
  cases inner K F d pre a <;> rfl
theorem srch_some (K : Nat) (F : List Int → Option (List Int)) : ∀ d pre a, (srch K F d pre a).isSome = true ↔ ∃ (j : Nat) (s : List Int), a ≤ j ∧ j ≤ K ∧ s.length = d ∧ (∀ y ∈ s, 1 ≤ y ∧ y ≤ (K : Int)) ∧ (F (pre ++ (j : Int) :: s)).isSome = true := by
  intro d
  induction d with
  | zero =>
    intro pre a
    rw [srch_def, List.findSome?_isSome_iff]
    constructor
    · rintro ⟨j, hj, h⟩
      rw [List.mem_range'_1] at hj
      exact ⟨j, [], hj.1, by omega, rfl, by simp, h⟩
    · rintro ⟨j, s, h1, h2, h3, _, h4⟩
      obtain rfl := List.length_eq_zero_iff.1 h3
      exact ⟨j, by rw [List.mem_range'_1]; omega, h4⟩
  | succ d ih =>
    intro pre a
    rw [srch_def, List.findSome?_isSome_iff]
    constructor
    · rintro ⟨j, hj, h⟩
      rw [List.mem_range'_1] at hj
      obtain ⟨i, s, h1, h2, h3, h4, h5⟩ := (ih _ _).1 h
      refine ⟨j, (i : Int) :: s, hj.1, by omega, by simp [h3], fun y hy => ?_, by simpa using h5⟩
      rcases List.mem_cons.1 hy with rfl | hy
      · omega
      · exact h4 y hy
    · rintro ⟨j, s, h1, h2, h3, h4, h5⟩
      cases s with
      | nil => simp at h3
      | cons i s =>
        have hi := h4 i (List.mem_cons_self ..)
        refine ⟨j, by rw [List.mem_range'_1]; omega, (ih _ _).2 ⟨i.toNat, s, by omega, by omega, by simpa using h3, fun y hy => h4 y (List.mem_cons_of_mem _ hy), ?_⟩⟩
        rw [show ((i.toNat : Nat) : Int) = i from by omega]
        simpa using h5
theorem srch_none (K : Nat) (F : List Int → Option (List Int)) (d : Nat) (pre : List Int) (a : Nat) (h : ∀ (j : Nat) (s : List Int), a ≤ j → j ≤ K → s.length = d → F (pre ++ (j : Int) :: s) = none) : srch K F d pre a = none := by
  cases q : srch K F d pre a with
  | none => rfl
  | some x =>
    obtain ⟨j, s, h1, h2, h3, h4, h5⟩ := (srch_some K F d pre a).1 (by rw [q]; rfl)
    rw [h j s h1 h2 h3] at h5
    cases h5
/-- Numbers above K' are tried in vain. -/
theorem srch_cut (K K' : Nat) (hK : K' ≤ K) (F : List Int → Option (List Int)) (hF : ∀ L, (∃ y ∈ L, (K' : Int) < y) → F L = none) : ∀ d pre a, srch K F d pre a = srch K' F d pre a := by
  intro d
  induction d with
  | zero =>
    intro pre a
    by_cases ha : a ≤ K + 1
    · have key : ∀ b, b ≤ K + 1 → srch K F 0 pre b = srch K' F 0 pre b := by
        refine down (K + 1) ?_ ?_
        · rw [srch_end _ _ _ _ _ (by omega), srch_end _ _ _ _ _ (by omega)]
        · intro b hb ih
          by_cases q : b ≤ K'
          · rw [srch_step _ _ _ _ _ (by omega), srch_step _ _ _ _ _ q, ih]; rfl
          · rw [srch_end K' _ _ _ _ (by omega)]
            refine srch_none _ _ _ _ _ (fun j s h1 h2 h3 => hF _ ⟨(j : Int), by simp, by omega⟩)
      exact key a ha
    · rw [srch_end _ _ _ _ _ (by omega), srch_end _ _ _ _ _ (by omega)]
  | succ d ih =>
    intro pre a
    by_cases ha : a ≤ K + 1
    · have key : ∀ b, b ≤ K + 1 → srch K F (d + 1) pre b = srch K' F (d + 1) pre b := by
        refine down (K + 1) ?_ ?_
        · rw [srch_end _ _ _ _ _ (by omega), srch_end _ _ _ _ _ (by omega)]
        · intro b hb ih2
          by_cases q : b ≤ K'
          · rw [srch_step _ _ _ _ _ (by omega), srch_step _ _ _ _ _ q, ih2]
            simp only [inner]
            rw [ih]
          · rw [srch_end K' _ _ _ _ (by omega)]
            refine srch_none _ _ _ _ _ (fun j s h1 h2 h3 => hF _ ⟨(j : Int), by simp, by omega⟩)
      exact key a ha
    · rw [srch_end _ _ _ _ _ (by omega), srch_end _ _ _ _ _ (by omega)]
end Go.Proofs.Ythkkpdgadfhijaa.M
/- Walks for this claim, written by a program of mine over the kit's print. No condition of mine. -/
namespace Go.Proofs.Ythkkpdgadfhijaa.M
open Go.RowKit Go.Proofs.Ythkkpdgadfhijaa.KW Go.Proofs.YthkkpdgadfhijaaW.PrintWords Go.Proofs.YthkkpdgadfhijaaW.PrintLast Go.Proofs.YthkkpdgadfhijaaW.PrintMore
attribute [local go_sem] max2_int min2_int max_two min_two max_three min_three max_four min_four   -- for this text's walks alone
set_option linter.unusedVariables false
set_option linter.unusedSimpArgs false

/-! ### slices_Clone_int_int: function 152 -/
def slices_Clone_int_int.f (l0 : List Int) : Option (List Int) := if l0.length < 17592186044416 then some l0 else none
set_option maxHeartbeats 1000000 in
set_option maxRecDepth 100000 in
theorem slices_Clone_int_int.calls (A0 : Option Addr) (c0 : Nat) (l0 : List Int) (r : List Int) (w : World) (hr0 : Kd.C (Kd.int .i64) w A0 l0.length l0) (hc0 : l0.length ≤ c0) (h : slices_Clone_int_int.f l0 = some r) :
  Calls Try.prog 152 #[.slice A0 l0.length c0] w fun e w' => ∃ v0_ : Value, e = .returned (v0_) ∧ Kd.R (Kd.int .i64) 3 w' w.heap.size (fun _ => True) v0_ r ∧ Below w.heap.size w w' := by
 unfold slices_Clone_int_int.f at h
 split at h
 case isFalse => cases h
 rename_i hlen
 obtain rfl := Option.some.inj h
 clear h
 have HLEN := Aside0.mk hlen
 have HC := Aside0.mk hr0
 have Hc := Aside0.mk hc0
 clear hlen hr0 hc0
 cases A0 with
 | none =>
  have e : l0 = [] := by
   cases l0 with
   | nil => rfl
   | cons x l =>
    obtain ⟨ad, he, _⟩ := Kd.at_int HC.out 0 (by omega) (by simp only [List.length_cons]; omega)
    cases he
  subst e
  have hnil : ∀ W : World, (binOp .eql 22 (.slice none 0 c0) (.slice none 0 0)).run Try.prog W = .ok (.bool true) W := fun W => by kernel_rfl
  go_enter Try.func152, Try.ntmps152
  go_wp2_with fail
  go_ret
  exact ⟨_, rfl, Kd.R_nil _ _ _ _ _, Below.refl _ _⟩
 | some a =>
  have hnil : ∀ W : World, (binOp .eql 22 (.slice (some a) l0.length c0) (.slice none 0 0)).run Try.prog W = .ok (.bool false) W := fun W => by kernel_rfl
  go_enter Try.func152, Try.ntmps152
  go_wp2_with ((with_reducible refine gate_dst (N := 5) rfl ?_); refine Aside0.out ?_)
  refine Aside0.mk ?_
  refine Kd.R_lit (Kd.int .i64) _ 3 ?hg (N := 5) ?hd (xs := ([] : List Int)) (inner := []) (ok := fun _ => True) (okp := fun _ => True) ?hr ?hp (fun _ hk => hk) trivial (Below.refl _ _) (Nat.le_refl _) (by simp) ?_
  case hd => rfl
  case hg => rfl
  case hr => first | (go_simp; done) | (go_simp; rfl)
  case hp => exact (Reps.none _ _)
  intro v5 w1 ho1 hb1 _ _
  have HO1 := Aside0.mk ho1
  have HB1 := Aside0.mk hb1
  clear ho1 hb1
  go_wp2_with ((with_reducible refine gate_builtin (b := .append) (xs := #[.tmp 5, .tmp 6]) rfl ?_); refine Aside0.out ?_)
  refine Aside0.mk ?_
  at_builtin
  refine Kd.R_append_rows (Kd.int .i64) (Rr := (Kd.int .i64).K w1) (w0 := w) w.heap.size rfl (.tmp 5) (.tmp 6) 22 3 (.int .i64 0) 8 rfl Try.underlying22 info3 rfl (by decide) (by omega) v5 [] l0 (some a) _ c0 (fun _ => True) (fun _ => False) rfl rfl HO1.out ?aR (fun _ _ h => h) (fun _ hk => hk.elim) (fun _ _ => trivial) HB1.out HB1.out.size ?aL ?_
  case aR => exact Kd.C_below HC.out HB1.out
  case aL => have := HLEN.out; simp only [List.length_nil]; omega
  intro v7 w2 ho2 hb2 _ _
  rw [List.nil_append] at ho2
  have HO2 := Aside0.mk ho2
  have HB2 := Aside0.mk hb2
  clear ho2 hb2 HO1 HB1
  go_wp2_with fail
  go_ret
  exact ⟨_, rfl, HO2.out, HB2.out⟩

end Go.Proofs.Ythkkpdgadfhijaa.M
/- Walks for this claim, written by a program of mine over the kit's print. No condition of mine. -/
namespace Go.Proofs.Ythkkpdgadfhijaa.M
open Go.RowKit Go.Proofs.Ythkkpdgadfhijaa.KW Go.Proofs.YthkkpdgadfhijaaW.PrintWords Go.Proofs.YthkkpdgadfhijaaW.PrintLast Go.Proofs.YthkkpdgadfhijaaW.PrintMore
attribute [local go_sem] max2_int min2_int max_two min_two max_three min_three max_four min_four   -- for this text's walks alone
set_option linter.unusedVariables false
set_option linter.unusedSimpArgs false

/-! ### impl_matchLengths: function 119 -/
mutual
def impl_matchLengths.l0 : Nat → List Int → List Int → Int → List Int → Int → Option (List Int × Bool)
 | 0, _, _, _, _, _ => none
 | k + 1, x0, x1, x2, x3, x10 => if (wrap64 (x2 + x10)) ≤ (x0.length : Int) then ((slices_Clone_int_int.f x3).bind fun t941 => (if t941.length < 17592186044416 then ((impl_matchLengths.f k x0 x1 x2 (t941 ++ [x10])).bind fun bt947 => (if bt947.2 = true then (some (bt947.1, true)) else (impl_matchLengths.l0 k x0 x1 x2 x3 (wrap64 (x10 + 1))))) else (none))) else (some (([] : List Int), false))
def impl_matchLengths.f : Nat → List Int → List Int → Int → List Int → Option (List Int × Bool)
 | 0, _, _, _, _ => none
 | k + 1, l0, l1, a2, l3 => (impl_patternLetters.f k l1).bind fun t939 => (if (l3.length : Int) = t939 then ((impl_MatchAt.f k l0 l1 a2 l3).bind fun t940 => (some (l3, t940))) else (impl_matchLengths.l0 k l0 l1 a2 l3 1))
end
theorem impl_matchLengths.mono_l : ∀ k, (∀ y0 y1 y2 y3, LeO (impl_matchLengths.f k y0 y1 y2 y3) (impl_matchLengths.f (k + 1) y0 y1 y2 y3)) ∧ (∀ y0 y1 y2 y3 y4, LeO (impl_matchLengths.l0 k y0 y1 y2 y3 y4) (impl_matchLengths.l0 (k + 1) y0 y1 y2 y3 y4))
 | 0 => ⟨fun _ _ _ _ r h => by simp [impl_matchLengths.f] at h, fun _ _ _ _ _ r h => by simp [impl_matchLengths.l0] at h⟩
 | k + 1 => by
  obtain ⟨ih0, ih1⟩ := impl_matchLengths.mono_l k
  refine ⟨?_, ?_⟩
  ·intro y0 y1 y2 y3
   unfold impl_matchLengths.f
   repeat' first
   | (with_reducible exact ih0 _ _ _ _)
   | (with_reducible exact ih1 _ _ _ _ _)
   | (with_reducible exact impl_MatchAt.mono _ _ _ _ _)
   | (with_reducible exact impl_patternLetters.mono _ _)
   | (with_reducible exact LeO.refl _)
   | (with_reducible exact LeO.none _)
   | (with_reducible refine LeO.ite ?_ ?_)
   | (with_reducible refine LeO.bind ?_ (fun _ => ?_))
   | exact ih0 _ _ _ _
   | exact ih1 _ _ _ _ _
   | exact impl_MatchAt.mono _ _ _ _ _
   | exact impl_patternLetters.mono _ _
   | exact LeO.none _
   | refine LeO.ite ?_ ?_
   | refine LeO.bind ?_ (fun _ => ?_)
  ·intro y0 y1 y2 y3 y4
   unfold impl_matchLengths.l0
   repeat' first
   | (with_reducible exact ih0 _ _ _ _)
   | (with_reducible exact ih1 _ _ _ _ _)
   | (with_reducible exact impl_MatchAt.mono _ _ _ _ _)
   | (with_reducible exact impl_patternLetters.mono _ _)
   | (with_reducible exact LeO.refl _)
   | (with_reducible exact LeO.none _)
   | (with_reducible refine LeO.ite ?_ ?_)
   | (with_reducible refine LeO.bind ?_ (fun _ => ?_))
   | exact ih0 _ _ _ _
   | exact ih1 _ _ _ _ _
   | exact impl_MatchAt.mono _ _ _ _ _
   | exact impl_patternLetters.mono _ _
   | exact LeO.none _
   | refine LeO.ite ?_ ?_
   | refine LeO.bind ?_ (fun _ => ?_)
theorem impl_matchLengths.mono : ∀ a0 a1 a2 a3 k, LeO (impl_matchLengths.f k a0 a1 a2 a3) (impl_matchLengths.f (k + 1) a0 a1 a2 a3) := by
 intro a0 a1 a2 a3 k
 obtain ⟨ih0, ih1⟩ := impl_matchLengths.mono_l k
 exact ih0 a0 a1 a2 a3
set_option maxHeartbeats 8000000 in
set_option maxRecDepth 100000 in
theorem impl_matchLengths.calls (k : Nat) : ∀ (A0 : Option Addr) (c0 : Nat) (l0 : List Int) (A1 : Option Addr) (c1 : Nat) (l1 : List Int) (a2 : Int) (P3_ : Nat → Prop) (u9000_ : Value) (l3 : List Int) (r1 : List Int) (r2 : Bool) (w0 w : World) (hB : Below w0.heap.size w0 w) (hr0 : ∀ W_, Kept w W_ (fun k_ => P3_ k_) → Kd.C (Kd.int .i64) W_ A0 l0.length l0) (hc0 : l0.length ≤ c0) (hr1 : ∀ W_, Kept w W_ (fun k_ => P3_ k_) → Kd.C (Kd.int .i64) W_ A1 l1.length l1) (hc1 : l1.length ≤ c1) (ho3 : Kd.R (Kd.int .i64) 3 w w0.heap.size P3_ u9000_ l3) (h : impl_matchLengths.f k l0 l1 a2 l3 = some (r1, r2)),
  Calls Try.prog 119 #[.slice A0 l0.length c0, .slice A1 l1.length c1, .int .i64 a2, u9000_] w fun e w' => ∃ v0_ : Value, e = .returned (.tuple #[v0_, .bool r2]) ∧ Kd.R (Kd.int .i64) 3 w' w0.heap.size (fun k_ => (P3_ k_ ∨ w.heap.size ≤ k_)) v0_ r1 ∧ Below w0.heap.size w0 w' ∧ Kept w w' (fun k_ => P3_ k_) := by
 induction k using Nat.strongRecOn with
 | _ k ih =>
 intro A0 c0 l0 A1 c1 l1 a2 P3_ u9000_ l3 r1 r2 w0 w hB hr0 hc0 hr1 hc1 ho3 h
 cases k with
 | zero => exact absurd h (by simp [impl_matchLengths.f])
 | succ k =>
 simp only [impl_matchLengths.f] at h
 have HR0 := Aside0.mk hr0
 have HC0 := Aside0.mk hc0
 clear hr0 hc0
 have HR1 := Aside0.mk hr1
 have HC1 := Aside0.mk hc1
 clear hr1 hc1
 have HO3 := Aside0.mk (show Kd.R (Kd.int .i64) 3 w w0.heap.size (fun k_ => (P3_ k_ ∨ w.heap.size ≤ k_)) u9000_ l3 from Kd.R_mono ho3 (fun k_ hk => (.inl hk)))
 have HK := Aside0.mk (Kept.refl w (fun k_ => P3_ k_))
 have HW0 := Aside0.mk hB.size
 have HB := Aside0.mk hB
 clear hB
 have H : ((impl_patternLetters.f k l1).bind fun t939 => (if (l3.length : Int) = t939 then ((impl_MatchAt.f k l0 l1 a2 l3).bind fun t940 => (some (l3, t940))) else (impl_matchLengths.l0 k l0 l1 a2 l3 1))) = some (r1, r2) := h
 clear h
 replace H := Option.bind_eq_some_iff.mp H
 obtain ⟨t939, A50, H⟩ := H
 replace H : (if (l3.length : Int) = t939 then ((impl_MatchAt.f k l0 l1 a2 l3).bind fun t940 => (some (l3, t940))) else (impl_matchLengths.l0 k l0 l1 a2 l3 1)) = some (r1, r2) := H
 have A5 := Aside0.mk A50
 clear A50
 by_cases c6 : (l3.length : Int) = t939
 ·rw [if_pos c6] at H
  have c6b0 : ((l3.length : Int) == t939) = true := beq_iff_eq.mpr c6
  have c6b1 : ((l3.length : Int) != t939) = false := bne_eq_false_iff_eq.mpr c6
  clear c6
  replace H := Option.bind_eq_some_iff.mp H
  obtain ⟨t940, A70, H⟩ := H
  replace H : (some (l3, t940)) = some (r1, r2) := H
  have A7 := Aside0.mk A70
  clear A70
  simp only [Option.some.injEq, Prod.mk.injEq] at H
  obtain ⟨rfl, rfl⟩ := H
  obtain ⟨Ao8, co8, eo8⟩ := Kd.R_slice HO3.out
  subst eo8
  go_enter Try.func119, Try.ntmps119
  go_wp2_with (first | ((with_reducible refine gate_callee (f := 121) rfl ?_); refine goesL_ (some 16) rfl rfl Try.func121 (by kernel_rfl) rfl #[.slice A1 l1.length c1] rfl (by (try simp only [List.map_toArray, List.map_cons, List.map_nil]); first | done | rfl | (simp only [List.length_drop, List.length_take]; rfl)) ?_; (with_reducible refine (impl_patternLetters.calls k _ _ l1 t939 _ ?side1 ?side2 A5.out).mono ?_); (case side1 => exact Kd.C_kept_now HR1.out (by repeat (first | (with_reducible first | exact HK.out | apply Kept.alloc | apply Kept.drewN | apply Kept.drew) | exact HK.out))); (case side2 => exact HC1.out); rintro e w' ⟨rfl, ⟨nd, rfl⟩⟩; refine ⟨_, rfl, ?_⟩) | ((with_reducible refine gate_callee (f := 66) rfl ?_); refine goesL_ (some 23) rfl rfl Try.func66 (by kernel_rfl) rfl #[.slice A0 l0.length c0, .slice A1 l1.length c1, .int .i64 a2, .slice Ao8 l3.length co8] rfl (by (try simp only [List.map_toArray, List.map_cons, List.map_nil]); first | done | rfl | (simp only [List.length_drop, List.length_take]; rfl)) ?_; (with_reducible refine (impl_MatchAt.calls k _ _ l0 _ _ l1 a2 _ _ l3 t940 _ ?side1 ?side2 ?side3 ?side4 ?side5 ?side6 A7.out).mono ?_); (case side1 => exact Kd.C_kept_now HR0.out (by repeat (first | (with_reducible first | exact HK.out | apply Kept.alloc | apply Kept.drewN | apply Kept.drew) | exact HK.out))); (case side2 => exact HC0.out); (case side3 => exact Kd.C_kept_now HR1.out (by repeat (first | (with_reducible first | exact HK.out | apply Kept.alloc | apply Kept.drewN | apply Kept.drew) | exact HK.out))); (case side4 => exact HC1.out); (case side5 => repeat (first | exact (Kd.R_reads' HO3.out).2.2 | (with_reducible refine Kd.C_alloc ?_ _) | (with_reducible refine Kd.C_drewN ?_ _) | (with_reducible refine Kd.C_drew ?_))); (case side6 => exact (Kd.R_reads' HO3.out).2.1); rintro e w9 ⟨rfl, hb⟩; refine ⟨_, rfl, ?_⟩; have n0_ := Aside0.mk (Kd.R_below (by (with_reducible repeat (first | apply Kd.R_alloc | apply Kd.R_drewN | apply Kd.R_drew)); exact HO3.out) hb); have n1_ := Aside0.mk (Kept.below (S := (fun k_ => P3_ k_)) (by repeat (first | (with_reducible first | exact HK.out | apply Kept.alloc | apply Kept.drewN | apply Kept.drew) | exact HK.out)) hb); have n2_ := Aside0.mk (below_step (by repeat (first | (with_reducible first | exact HB.out | apply below_alloc | apply pw_below_drewN | apply below_drew1) | exact HB.out)) hb); clear HO3; clear HK; clear HB; have HO3 := n0_; have HK := n1_; have HB := n2_; clear n0_ n1_ n2_; (try clear hb); (try clear hb2); (try clear hk); (try clear hi)))
  go_ret2
  exact ⟨_, by first | rfl | (simp [errW_none, errW_some] <;> rfl) | (simp [*, errW_none, errW_some] <;> rfl), by (with_reducible repeat (first | apply Kd.R_alloc | apply Kd.R_drewN | apply Kd.R_drew)); exact HO3.out, by repeat (first | (with_reducible first | exact HB.out | apply below_alloc | apply pw_below_drewN | apply below_drew1) | exact HB.out), by repeat (first | (with_reducible first | exact HK.out | apply Kept.alloc | apply Kept.drewN | apply Kept.drew) | exact HK.out)⟩
 ·rw [if_neg c6] at H
  have c6b0 : ((l3.length : Int) == t939) = false := beq_eq_false_iff_ne.mpr c6
  have c6b1 : ((l3.length : Int) != t939) = true := bne_iff_ne.mpr c6
  have H' := Aside0.mk H
  clear H
  obtain ⟨Ao10, co10, eo10⟩ := Kd.R_slice HO3.out
  subst eo10
  go_enter Try.func119, Try.ntmps119
  go_wp2_with (first | ((with_reducible refine gate_callee (f := 121) rfl ?_); refine goesL_ (some 16) rfl rfl Try.func121 (by kernel_rfl) rfl #[.slice A1 l1.length c1] rfl (by (try simp only [List.map_toArray, List.map_cons, List.map_nil]); first | done | rfl | (simp only [List.length_drop, List.length_take]; rfl)) ?_; (with_reducible refine (impl_patternLetters.calls k _ _ l1 t939 _ ?side1 ?side2 A5.out).mono ?_); (case side1 => exact Kd.C_kept_now HR1.out (by repeat (first | (with_reducible first | exact HK.out | apply Kept.alloc | apply Kept.drewN | apply Kept.drew) | exact HK.out))); (case side2 => exact HC1.out); rintro e w' ⟨rfl, ⟨nd, rfl⟩⟩; refine ⟨_, rfl, ?_⟩))
  go_loopg [10] k (fun kq v10 w' => ∃ (x10_1 : Int), v10 = .int .i64 x10_1 ∧ Aside0 (impl_matchLengths.l0 kq l0 l1 a2 l3 x10_1 = some (r1, r2)) ∧ Aside0 (kq ≤ k) ∧ Aside0 (Kd.R (Kd.int .i64) 3 w' w0.heap.size (fun k_ => (P3_ k_ ∨ w.heap.size ≤ k_)) (.slice Ao10 l3.length co10) l3) ∧ Aside0 (Kept w w' (fun k_ => P3_ k_)) ∧ Aside0 (Below w0.heap.size w0 w'))
  case atStart => exact ⟨(1), (by first | rfl | (simp; done) | (simp [*]; done)), H', ⟨Nat.le_refl _⟩, ⟨by (with_reducible repeat (first | apply Kd.R_alloc | apply Kd.R_drewN | apply Kd.R_drew)); exact HO3.out⟩, ⟨by repeat (first | (with_reducible first | exact HK.out | apply Kept.alloc | apply Kept.drewN | apply Kept.drew) | exact HK.out)⟩, ⟨by repeat (first | (with_reducible first | exact HB.out | apply below_alloc | apply pw_below_drewN | apply below_drew1) | exact HB.out)⟩⟩
  case round =>
   clear H'
   try clear c1
   try clear p2
   try clear c6
   try clear c6b0
   try clear c6b1
   obtain ⟨x10_1, rfl, HA, HK1, HO_3, HK, HB⟩ := hrel
   cases gk with
   | zero => exact absurd HA.out (by simp [impl_matchLengths.l0])
   | succ k1 =>
    have H := HA.out
    clear HA
    simp only [impl_matchLengths.l0] at H
    by_cases c11 : (wrap64 (a2 + x10_1)) ≤ (l0.length : Int)
    ·rw [if_pos c11] at H
     have c11b0 : decide ((wrap64 (a2 + x10_1)) ≤ (l0.length : Int)) = true := decide_eq_true c11
     clear c11
     replace H := Option.bind_eq_some_iff.mp H
     obtain ⟨t941, A120, H⟩ := H
     replace H : (if t941.length < 17592186044416 then ((impl_matchLengths.f k1 l0 l1 a2 (t941 ++ [x10_1])).bind fun bt947 => (if bt947.2 = true then (some (bt947.1, true)) else (impl_matchLengths.l0 k1 l0 l1 a2 l3 (wrap64 (x10_1 + 1))))) else (none)) = some (r1, r2) := H
     have A12 := Aside0.mk A120
     clear A120
     by_cases c13 : t941.length < 17592186044416
     ·rw [if_pos c13] at H
      have LMc13 := Aside0.mk c13
      clear c13
      obtain ⟨y944, hy944⟩ : ∃ y_ : List Int, y_ = (t941 ++ [x10_1]) := ⟨_, rfl⟩
      replace H : ((impl_matchLengths.f k1 l0 l1 a2 y944).bind fun bt947 => (if bt947.2 = true then (some (bt947.1, true)) else (impl_matchLengths.l0 k1 l0 l1 a2 l3 (wrap64 (x10_1 + 1))))) = some (r1, r2) := by first | (rw [hy944]; with_reducible exact H) | (have H2_ := (Option.bind_some _ _).symm.trans H; rw [hy944]; with_reducible exact H2_) | (have H2_ := (Option.bind_some _ _).symm.trans H; with_reducible exact H2_) | with_reducible exact H | (rw [hy944]; exact H) | exact H
      have Ny944 := Aside0.mk hy944
      clear hy944
      replace H := Option.bind_eq_some_iff.mp H
      obtain ⟨⟨t947, t950⟩, A140, H⟩ := H
      replace H : (if t950 = true then (some (t947, true)) else (impl_matchLengths.l0 k1 l0 l1 a2 l3 (wrap64 (x10_1 + 1)))) = some (r1, r2) := H
      have A14 := Aside0.mk A140
      clear A140
      by_cases c15 : t950 = true
      ·subst c15
       have H1 : (some (t947, true)) = some (r1, r2) := by rw [if_pos rfl] at H; exact H
       clear H
       have H := H1
       clear H1
       simp only [Option.some.injEq, Prod.mk.injEq] at H
       obtain ⟨rfl, rfl⟩ := H
       go_wp2_with (first | ((with_reducible refine gate_callee (f := 152) rfl ?_); refine goesL_ (some 37) rfl rfl Try.func152 (by kernel_rfl) rfl #[.slice Ao10 l3.length co10] rfl (by (try simp only [List.map_toArray, List.map_cons, List.map_nil]); first | done | rfl | (simp only [List.length_drop, List.length_take]; rfl)) ?_; (with_reducible refine (slices_Clone_int_int.calls _ _ l3 t941 _ ?side1 ?side2 A12.out).mono ?_); (case side1 => repeat (first | exact (Kd.R_reads' HO_3.out).2.2 | (with_reducible refine Kd.C_alloc ?_ _) | (with_reducible refine Kd.C_drewN ?_ _) | (with_reducible refine Kd.C_drew ?_))); (case side2 => exact (Kd.R_reads' HO_3.out).2.1); rintro e w16 ⟨v942, rfl, ho0, hb⟩; refine ⟨_, rfl, ?_⟩; have n0_ := Aside0.mk (Kd.R_elder' (by (with_reducible repeat (first | apply Kd.R_alloc | apply Kd.R_drewN | apply Kd.R_drew)); exact HO_3.out) (Kd.R_base ho0) hb); have n1_ := Aside0.mk (Kd.R_lower (Kd.R_new' (Kd.R_newM (M := fun k_ => (P3_ k_ ∨ w.heap.size ≤ k_)) ho0 (by first | exact HK.out.1 | exact (show Kept w _ (fun k_ => P3_ k_) from by repeat (first | (with_reducible first | exact HK.out | apply Kept.alloc | apply Kept.drewN | apply Kept.drew) | exact HK.out)).1) (fun k_ h_ => .inr h_)) (Kd.R_lt (by (with_reducible repeat (first | apply Kd.R_alloc | apply Kd.R_drewN | apply Kd.R_drew)); exact HO_3.out))) (below_size (by repeat (first | (with_reducible first | exact HB.out | apply below_alloc | apply pw_below_drewN | apply below_drew1) | exact HB.out)))); have n2_ := Aside0.mk (Kept.below (S := (fun k_ => P3_ k_)) (by repeat (first | (with_reducible first | exact HK.out | apply Kept.alloc | apply Kept.drewN | apply Kept.drew) | exact HK.out)) hb); have n3_ := Aside0.mk (below_step (by repeat (first | (with_reducible first | exact HB.out | apply below_alloc | apply pw_below_drewN | apply below_drew1) | exact HB.out)) hb); clear HO_3; clear HK; clear HB; have HO_3 := n0_; have HO943 := n1_; have HK := n2_; have HB := n3_; clear n0_ n1_ n2_ n3_; (try clear hb); (try clear hb2); (try clear hk); (try clear hi); (try clear ho0)) | ((with_reducible refine gate_builtin (b := .append) (xs := #[.tmp 37, .tmp 39]) rfl ?_); at_builtin; refine Kd.R_append (Kd.int .i64) (w0 := w0) w0.heap.size rfl (.tmp 37) (.tmp 39) 22 3 (.int .i64 0) 8 rfl Try.underlying22 info3 rfl (by decide) (by omega) v942 t941 x10_1 [.int .i64 x10_1] (fun k_ => (P3_ k_ ∨ w.heap.size ≤ k_) ∧ some k_ ≠ (.slice Ao10 l3.length co10 : Value).ownBlock) (fun _ => False) rfl rfl ?aP (fun _ hk => hk.elim) ?aF ?aO ?aB ?aS ?aL ?_; (case aP => exact rfl); (case aB => exact (by repeat (first | (with_reducible first | exact HB.out | apply below_alloc | apply pw_below_drewN | apply below_drew1) | exact HB.out))); (case aF => exact (fun k_ hk => ⟨(.inr (Nat.le_trans (by first | exact HK.out.1 | exact (show Kept w _ (fun k_ => P3_ k_) from by repeat (first | (with_reducible first | exact HK.out | apply Kept.alloc | apply Kept.drewN | apply Kept.drew) | exact HK.out)).1) hk)), Kd.fresh' (Kd.R_lt (by (with_reducible repeat (first | apply Kd.R_alloc | apply Kd.R_drewN | apply Kd.R_drew)); exact HO_3.out)) k_ hk⟩)); (case aO => exact (by (with_reducible repeat (first | apply Kd.R_alloc | apply Kd.R_drewN | apply Kd.R_drew)); exact Kd.R_mono HO943.out (fun _ hk => ⟨hk.1.1, hk.2⟩))); (case aS => exact (below_size (by repeat (first | (with_reducible first | exact HB.out | apply below_alloc | apply pw_below_drewN | apply below_drew1) | exact HB.out)))); (case aL => have := LMc13.out; omega); intro v945 w17 ho hb hg hat; rw [← Ny944.out] at ho; have n0_ := Aside0.mk (Kd.R_after (ok := (fun k_ => (P3_ k_ ∨ w.heap.size ≤ k_))) (by (with_reducible repeat (first | apply Kd.R_alloc | apply Kd.R_drewN | apply Kd.R_drew)); exact HO_3.out) hg hat); have n1_ := Aside0.mk (hb); have n2_ := Aside0.mk (Kept.of_grown (S := (fun k_ => P3_ k_)) hg (by repeat (first | (with_reducible first | exact HK.out | apply Kept.alloc | apply Kept.drewN | apply Kept.drew) | exact HK.out)) (fun k_ e_ => (HO943.out.1 k_ e_).1.1)); have n3_ := Aside0.mk (ho); clear HO_3; clear HB; clear HK; clear HO943; have HO_3 := n0_; have HB := n1_; have HK := n2_; have HO946 := n3_; clear n0_ n1_ n2_ n3_; clear ho hb hg hat; obtain ⟨Ao18, co18, eo18⟩ := Kd.R_slice HO946.out; subst eo18) | ((with_reducible refine gate_callee (f := 119) rfl ?_); refine goesL_ (some 41) rfl rfl Try.func119 (by kernel_rfl) rfl #[.slice A0 l0.length c0, .slice A1 l1.length c1, .int .i64 a2, .slice Ao18 y944.length co18] rfl (by (try simp only [List.map_toArray, List.map_cons, List.map_nil]); first | done | rfl | (simp only [List.length_drop, List.length_take]; rfl)) ?_; (with_reducible refine (ih k1 (by have := HK1.out; omega) _ _ l0 _ _ l1 a2 (fun k_ => some k_ = (.slice Ao18 y944.length co18 : Value).ownBlock) (.slice Ao18 y944.length co18) y944 t947 true w0 _ ?side1 ?side2 ?side3 ?side4 ?side5 ?side6 A14.out).mono ?_); (case side1 => repeat (first | (with_reducible first | exact HB.out | apply below_alloc | apply pw_below_drewN | apply below_drew1) | exact HB.out)); (case side2 => exact Kd.C_kept_call HR0.out (by repeat (first | (with_reducible first | exact HK.out | apply Kept.alloc | apply Kept.drewN | apply Kept.drew) | exact HK.out)) (fun k_ hs_ => (fun e_ => (HO946.out.1 k_ e_.symm).1) hs_)); (case side3 => exact HC0.out); (case side4 => exact Kd.C_kept_call HR1.out (by repeat (first | (with_reducible first | exact HK.out | apply Kept.alloc | apply Kept.drewN | apply Kept.drew) | exact HK.out)) (fun k_ hs_ => (fun e_ => (HO946.out.1 k_ e_.symm).1) hs_)); (case side5 => exact HC1.out); (case side6 => exact Kd.R_tight rfl HO946.out); rintro e w19 ⟨v948, rfl, ho0, hb, hkp⟩; refine ⟨_, rfl, ?_⟩; have n0_ := Aside0.mk (Kd.R_mono (ok' := fun k_ => (P3_ k_ ∨ w.heap.size ≤ k_) ∧ some k_ ≠ (v948 : Value).ownBlock) (Kd.R_keptB (HO_3.out) hkp (fun k_ hk_ hs_ => (hk_.2) hs_)) (fun k_ hk_ => ⟨hk_.1.1, fun e_ => Or.elim (ho0.1 k_ e_.symm) (fun hs_ => hk_.2.1 hs_) (fun hn_ => Nat.not_le.2 hk_.2.2 hn_)⟩)); have n1_ := Aside0.mk (Kd.R_mono (ok' := fun k_ => (P3_ k_ ∨ w.heap.size ≤ k_) ∧ some k_ ≠ (.slice Ao10 l3.length co10 : Value).ownBlock) ho0 (fun k_ hk_ => ⟨Or.elim hk_ (fun hs_ => (HO946.out.1 k_ (hs_).symm).1) (fun hn_ => (.inr (Nat.le_trans (by first | exact HK.out.1 | exact (show Kept w _ (fun k_ => P3_ k_) from by repeat (first | (with_reducible first | exact HK.out | apply Kept.alloc | apply Kept.drewN | apply Kept.drew) | exact HK.out)).1) hn_))), Or.elim hk_ (fun hs_ => fun e_ => (((HO_3.out).1 k_ e_.symm).2) hs_) (fun hn_ => (Kd.fresh' (Kd.R_lt (by (with_reducible repeat (first | apply Kd.R_alloc | apply Kd.R_drewN | apply Kd.R_drew)); exact HO_3.out)) k_ hn_))⟩)); have n2_ := Aside0.mk (Kept.then_ (S := (fun k_ => P3_ k_)) (by repeat (first | (with_reducible first | exact HK.out | apply Kept.alloc | apply Kept.drewN | apply Kept.drew) | exact HK.out)) hkp (fun k_ hs_ => (fun e_ => (HO946.out.1 k_ e_.symm).1) hs_)); have n3_ := Aside0.mk (hb); clear HO_3; clear HK; clear HB; clear HO946; have HO_3 := n0_; have HO949 := n1_; have HK := n2_; have HB := n3_; clear n0_ n1_ n2_ n3_; (try clear hb); (try clear hkp); (try clear ho0)))
       go_ret2
       exact ⟨_, by first | rfl | (simp [errW_none, errW_some] <;> rfl) | (simp [*, errW_none, errW_some] <;> rfl), by (with_reducible repeat (first | apply Kd.R_alloc | apply Kd.R_drewN | apply Kd.R_drew)); exact Kd.R_mono HO949.out (fun _ hk => hk.1), by repeat (first | (with_reducible first | exact HB.out | apply below_alloc | apply pw_below_drewN | apply below_drew1) | exact HB.out), by repeat (first | (with_reducible first | exact HK.out | apply Kept.alloc | apply Kept.drewN | apply Kept.drew) | exact HK.out)⟩
      ·replace c15 := Bool.eq_false_iff.mpr c15
       subst c15
       have H1 : (impl_matchLengths.l0 k1 l0 l1 a2 l3 (wrap64 (x10_1 + 1))) = some (r1, r2) := by rw [if_neg (show ¬ (false = true) by decide)] at H; exact H
       clear H
       have H := H1
       clear H1
       have H' := Aside0.mk H
       clear H
       go_wp2_with (first | ((with_reducible refine gate_callee (f := 152) rfl ?_); refine goesL_ (some 37) rfl rfl Try.func152 (by kernel_rfl) rfl #[.slice Ao10 l3.length co10] rfl (by (try simp only [List.map_toArray, List.map_cons, List.map_nil]); first | done | rfl | (simp only [List.length_drop, List.length_take]; rfl)) ?_; (with_reducible refine (slices_Clone_int_int.calls _ _ l3 t941 _ ?side1 ?side2 A12.out).mono ?_); (case side1 => repeat (first | exact (Kd.R_reads' HO_3.out).2.2 | (with_reducible refine Kd.C_alloc ?_ _) | (with_reducible refine Kd.C_drewN ?_ _) | (with_reducible refine Kd.C_drew ?_))); (case side2 => exact (Kd.R_reads' HO_3.out).2.1); rintro e w20 ⟨v942, rfl, ho0, hb⟩; refine ⟨_, rfl, ?_⟩; have n0_ := Aside0.mk (Kd.R_elder' (by (with_reducible repeat (first | apply Kd.R_alloc | apply Kd.R_drewN | apply Kd.R_drew)); exact HO_3.out) (Kd.R_base ho0) hb); have n1_ := Aside0.mk (Kd.R_lower (Kd.R_new' (Kd.R_newM (M := fun k_ => (P3_ k_ ∨ w.heap.size ≤ k_)) ho0 (by first | exact HK.out.1 | exact (show Kept w _ (fun k_ => P3_ k_) from by repeat (first | (with_reducible first | exact HK.out | apply Kept.alloc | apply Kept.drewN | apply Kept.drew) | exact HK.out)).1) (fun k_ h_ => .inr h_)) (Kd.R_lt (by (with_reducible repeat (first | apply Kd.R_alloc | apply Kd.R_drewN | apply Kd.R_drew)); exact HO_3.out))) (below_size (by repeat (first | (with_reducible first | exact HB.out | apply below_alloc | apply pw_below_drewN | apply below_drew1) | exact HB.out)))); have n2_ := Aside0.mk (Kept.below (S := (fun k_ => P3_ k_)) (by repeat (first | (with_reducible first | exact HK.out | apply Kept.alloc | apply Kept.drewN | apply Kept.drew) | exact HK.out)) hb); have n3_ := Aside0.mk (below_step (by repeat (first | (with_reducible first | exact HB.out | apply below_alloc | apply pw_below_drewN | apply below_drew1) | exact HB.out)) hb); clear HO_3; clear HK; clear HB; have HO_3 := n0_; have HO943 := n1_; have HK := n2_; have HB := n3_; clear n0_ n1_ n2_ n3_; (try clear hb); (try clear hb2); (try clear hk); (try clear hi); (try clear ho0)) | ((with_reducible refine gate_builtin (b := .append) (xs := #[.tmp 37, .tmp 39]) rfl ?_); at_builtin; refine Kd.R_append (Kd.int .i64) (w0 := w0) w0.heap.size rfl (.tmp 37) (.tmp 39) 22 3 (.int .i64 0) 8 rfl Try.underlying22 info3 rfl (by decide) (by omega) v942 t941 x10_1 [.int .i64 x10_1] (fun k_ => (P3_ k_ ∨ w.heap.size ≤ k_) ∧ some k_ ≠ (.slice Ao10 l3.length co10 : Value).ownBlock) (fun _ => False) rfl rfl ?aP (fun _ hk => hk.elim) ?aF ?aO ?aB ?aS ?aL ?_; (case aP => exact rfl); (case aB => exact (by repeat (first | (with_reducible first | exact HB.out | apply below_alloc | apply pw_below_drewN | apply below_drew1) | exact HB.out))); (case aF => exact (fun k_ hk => ⟨(.inr (Nat.le_trans (by first | exact HK.out.1 | exact (show Kept w _ (fun k_ => P3_ k_) from by repeat (first | (with_reducible first | exact HK.out | apply Kept.alloc | apply Kept.drewN | apply Kept.drew) | exact HK.out)).1) hk)), Kd.fresh' (Kd.R_lt (by (with_reducible repeat (first | apply Kd.R_alloc | apply Kd.R_drewN | apply Kd.R_drew)); exact HO_3.out)) k_ hk⟩)); (case aO => exact (by (with_reducible repeat (first | apply Kd.R_alloc | apply Kd.R_drewN | apply Kd.R_drew)); exact Kd.R_mono HO943.out (fun _ hk => ⟨hk.1.1, hk.2⟩))); (case aS => exact (below_size (by repeat (first | (with_reducible first | exact HB.out | apply below_alloc | apply pw_below_drewN | apply below_drew1) | exact HB.out)))); (case aL => have := LMc13.out; omega); intro v945 w21 ho hb hg hat; rw [← Ny944.out] at ho; have n0_ := Aside0.mk (Kd.R_after (ok := (fun k_ => (P3_ k_ ∨ w.heap.size ≤ k_))) (by (with_reducible repeat (first | apply Kd.R_alloc | apply Kd.R_drewN | apply Kd.R_drew)); exact HO_3.out) hg hat); have n1_ := Aside0.mk (hb); have n2_ := Aside0.mk (Kept.of_grown (S := (fun k_ => P3_ k_)) hg (by repeat (first | (with_reducible first | exact HK.out | apply Kept.alloc | apply Kept.drewN | apply Kept.drew) | exact HK.out)) (fun k_ e_ => (HO943.out.1 k_ e_).1.1)); have n3_ := Aside0.mk (ho); clear HO_3; clear HB; clear HK; clear HO943; have HO_3 := n0_; have HB := n1_; have HK := n2_; have HO946 := n3_; clear n0_ n1_ n2_ n3_; clear ho hb hg hat; obtain ⟨Ao22, co22, eo22⟩ := Kd.R_slice HO946.out; subst eo22) | ((with_reducible refine gate_callee (f := 119) rfl ?_); refine goesL_ (some 41) rfl rfl Try.func119 (by kernel_rfl) rfl #[.slice A0 l0.length c0, .slice A1 l1.length c1, .int .i64 a2, .slice Ao22 y944.length co22] rfl (by (try simp only [List.map_toArray, List.map_cons, List.map_nil]); first | done | rfl | (simp only [List.length_drop, List.length_take]; rfl)) ?_; (with_reducible refine (ih k1 (by have := HK1.out; omega) _ _ l0 _ _ l1 a2 (fun k_ => some k_ = (.slice Ao22 y944.length co22 : Value).ownBlock) (.slice Ao22 y944.length co22) y944 t947 false w0 _ ?side1 ?side2 ?side3 ?side4 ?side5 ?side6 A14.out).mono ?_); (case side1 => repeat (first | (with_reducible first | exact HB.out | apply below_alloc | apply pw_below_drewN | apply below_drew1) | exact HB.out)); (case side2 => exact Kd.C_kept_call HR0.out (by repeat (first | (with_reducible first | exact HK.out | apply Kept.alloc | apply Kept.drewN | apply Kept.drew) | exact HK.out)) (fun k_ hs_ => (fun e_ => (HO946.out.1 k_ e_.symm).1) hs_)); (case side3 => exact HC0.out); (case side4 => exact Kd.C_kept_call HR1.out (by repeat (first | (with_reducible first | exact HK.out | apply Kept.alloc | apply Kept.drewN | apply Kept.drew) | exact HK.out)) (fun k_ hs_ => (fun e_ => (HO946.out.1 k_ e_.symm).1) hs_)); (case side5 => exact HC1.out); (case side6 => exact Kd.R_tight rfl HO946.out); rintro e w23 ⟨v948, rfl, ho0, hb, hkp⟩; refine ⟨_, rfl, ?_⟩; have n0_ := Aside0.mk (Kd.R_mono (ok' := fun k_ => (P3_ k_ ∨ w.heap.size ≤ k_) ∧ some k_ ≠ (v948 : Value).ownBlock) (Kd.R_keptB (HO_3.out) hkp (fun k_ hk_ hs_ => (hk_.2) hs_)) (fun k_ hk_ => ⟨hk_.1.1, fun e_ => Or.elim (ho0.1 k_ e_.symm) (fun hs_ => hk_.2.1 hs_) (fun hn_ => Nat.not_le.2 hk_.2.2 hn_)⟩)); have n1_ := Aside0.mk (Kd.R_mono (ok' := fun k_ => (P3_ k_ ∨ w.heap.size ≤ k_) ∧ some k_ ≠ (.slice Ao10 l3.length co10 : Value).ownBlock) ho0 (fun k_ hk_ => ⟨Or.elim hk_ (fun hs_ => (HO946.out.1 k_ (hs_).symm).1) (fun hn_ => (.inr (Nat.le_trans (by first | exact HK.out.1 | exact (show Kept w _ (fun k_ => P3_ k_) from by repeat (first | (with_reducible first | exact HK.out | apply Kept.alloc | apply Kept.drewN | apply Kept.drew) | exact HK.out)).1) hn_))), Or.elim hk_ (fun hs_ => fun e_ => (((HO_3.out).1 k_ e_.symm).2) hs_) (fun hn_ => (Kd.fresh' (Kd.R_lt (by (with_reducible repeat (first | apply Kd.R_alloc | apply Kd.R_drewN | apply Kd.R_drew)); exact HO_3.out)) k_ hn_))⟩)); have n2_ := Aside0.mk (Kept.then_ (S := (fun k_ => P3_ k_)) (by repeat (first | (with_reducible first | exact HK.out | apply Kept.alloc | apply Kept.drewN | apply Kept.drew) | exact HK.out)) hkp (fun k_ hs_ => (fun e_ => (HO946.out.1 k_ e_.symm).1) hs_)); have n3_ := Aside0.mk (hb); clear HO_3; clear HK; clear HB; clear HO946; have HO_3 := n0_; have HO949 := n1_; have HK := n2_; have HB := n3_; clear n0_ n1_ n2_ n3_; (try clear hb); (try clear hkp); (try clear ho0)))
       go_roundg k1
       case measure => have := HK1.out; omega
       case rel => exact ⟨(wrap64 (x10_1 + 1)), (by first | rfl | (simp; done) | (simp [*]; done)), H', ⟨by have := HK1.out; omega⟩, ⟨by (with_reducible repeat (first | apply Kd.R_alloc | apply Kd.R_drewN | apply Kd.R_drew)); exact Kd.R_mono HO_3.out (fun _ hk => hk.1)⟩, ⟨by repeat (first | (with_reducible first | exact HK.out | apply Kept.alloc | apply Kept.drewN | apply Kept.drew) | exact HK.out)⟩, ⟨by repeat (first | (with_reducible first | exact HB.out | apply below_alloc | apply pw_below_drewN | apply below_drew1) | exact HB.out)⟩⟩
     ·rw [if_neg c13] at H
      exact absurd H (by simp)
    ·rw [if_neg c11] at H
     have c11b0 : decide ((wrap64 (a2 + x10_1)) ≤ (l0.length : Int)) = false := decide_eq_false c11
     clear c11
     simp only [Option.some.injEq, Prod.mk.injEq] at H
     obtain ⟨rfl, rfl⟩ := H
     go_wp2
     go_ret2
     exact ⟨_, by first | rfl | (simp [errW_none, errW_some] <;> rfl) | (simp [*, errW_none, errW_some] <;> rfl), by first | exact Kd.R_nil _ _ _ _ _ | exact Kd.N_nil _ _ _ _ _ | exact Kd.V_nil _ _ _ _ _ | exact Kd.Q_nil _ _ _ _ _ | exact Kd.S_nil _ _ _ _ _, by repeat (first | (with_reducible first | exact HB.out | apply below_alloc | apply pw_below_drewN | apply below_drew1) | exact HB.out), by repeat (first | (with_reducible first | exact HK.out | apply Kept.alloc | apply Kept.drewN | apply Kept.drew) | exact HK.out)⟩

end Go.Proofs.Ythkkpdgadfhijaa.M
/- Walks for this claim, written by a program of mine over the kit's print. No condition of mine. -/
namespace Go.Proofs.Ythkkpdgadfhijaa.M
open Go.RowKit Go.Proofs.Ythkkpdgadfhijaa.KW Go.Proofs.YthkkpdgadfhijaaW.PrintWords Go.Proofs.YthkkpdgadfhijaaW.PrintLast Go.Proofs.YthkkpdgadfhijaaW.PrintMore
attribute [local go_sem] max2_int min2_int max_two min_two max_three min_three max_four min_four   -- for this text's walks alone
set_option linter.unusedVariables false
set_option linter.unusedSimpArgs false

/-! ### impl_FindPattern: function 60 -/
mutual
def impl_FindPattern.j0 : Nat → List Int → List Int → Bool → Option (Int × List Int × Bool)
 | 0, _, _, _ => none
 | k + 1, x0, x1, x16 => if x16 = true then (some (0, ([] : List Int), false)) else (impl_FindPattern.l0 k x0 x1 (x0.length : Int) 0)
def impl_FindPattern.l0 : Nat → List Int → List Int → Int → Int → Option (Int × List Int × Bool)
 | 0, _, _, _, _ => none
 | k + 1, x0, x1, x19, x20 => if x20 < x19 then ((impl_matchLengths.f k x0 x1 x20 ([] : List Int)).bind fun bt953 => (if bt953.2 = true then (some (x20, bt953.1, true)) else (impl_FindPattern.l0 k x0 x1 x19 (wrap64 (x20 + 1))))) else (some (0, ([] : List Int), false))
end
def impl_FindPattern.f (k : Nat) (l0 : List Int) (l1 : List Int) : Option (Int × List Int × Bool) := (impl_IsPattern.f k l1).bind fun t952 => (if t952 = true then (impl_FindPattern.j0 k l0 l1 (decide ((l0.length : Int) > 24))) else (impl_FindPattern.j0 k l0 l1 true))
theorem impl_FindPattern.mono_l : ∀ k, (∀ y0 y1 y2, LeO (impl_FindPattern.j0 k y0 y1 y2) (impl_FindPattern.j0 (k + 1) y0 y1 y2)) ∧ (∀ y0 y1 y2 y3, LeO (impl_FindPattern.l0 k y0 y1 y2 y3) (impl_FindPattern.l0 (k + 1) y0 y1 y2 y3))
 | 0 => ⟨fun _ _ _ r h => by simp [impl_FindPattern.j0] at h, fun _ _ _ _ r h => by simp [impl_FindPattern.l0] at h⟩
 | k + 1 => by
  obtain ⟨ih0, ih1⟩ := impl_FindPattern.mono_l k
  refine ⟨?_, ?_⟩
  ·intro y0 y1 y2
   unfold impl_FindPattern.j0
   repeat' first
   | (with_reducible exact ih0 _ _ _)
   | (with_reducible exact ih1 _ _ _ _)
   | (with_reducible exact impl_IsPattern.mono _ _)
   | (with_reducible exact impl_matchLengths.mono _ _ _ _ _)
   | (with_reducible exact LeO.refl _)
   | (with_reducible exact LeO.none _)
   | (with_reducible refine LeO.ite ?_ ?_)
   | (with_reducible refine LeO.bind ?_ (fun _ => ?_))
   | exact ih0 _ _ _
   | exact ih1 _ _ _ _
   | exact impl_IsPattern.mono _ _
   | exact impl_matchLengths.mono _ _ _ _ _
   | exact LeO.none _
   | refine LeO.ite ?_ ?_
   | refine LeO.bind ?_ (fun _ => ?_)
  ·intro y0 y1 y2 y3
   unfold impl_FindPattern.l0
   repeat' first
   | (with_reducible exact ih0 _ _ _)
   | (with_reducible exact ih1 _ _ _ _)
   | (with_reducible exact impl_IsPattern.mono _ _)
   | (with_reducible exact impl_matchLengths.mono _ _ _ _ _)
   | (with_reducible exact LeO.refl _)
   | (with_reducible exact LeO.none _)
   | (with_reducible refine LeO.ite ?_ ?_)
   | (with_reducible refine LeO.bind ?_ (fun _ => ?_))
   | exact ih0 _ _ _
   | exact ih1 _ _ _ _
   | exact impl_IsPattern.mono _ _
   | exact impl_matchLengths.mono _ _ _ _ _
   | exact LeO.none _
   | refine LeO.ite ?_ ?_
   | refine LeO.bind ?_ (fun _ => ?_)
theorem impl_FindPattern.mono : ∀ a0 a1 k, LeO (impl_FindPattern.f k a0 a1) (impl_FindPattern.f (k + 1) a0 a1) := by
 intro a0 a1 k
 obtain ⟨ih0, ih1⟩ := impl_FindPattern.mono_l k
 unfold impl_FindPattern.f
 repeat' first
   | (with_reducible exact ih0 _ _ _)
   | (with_reducible exact ih1 _ _ _ _)
   | (with_reducible exact impl_IsPattern.mono _ _)
   | (with_reducible exact impl_matchLengths.mono _ _ _ _ _)
   | (with_reducible exact LeO.refl _)
   | (with_reducible exact LeO.none _)
   | (with_reducible refine LeO.ite ?_ ?_)
   | (with_reducible refine LeO.bind ?_ (fun _ => ?_))
   | exact ih0 _ _ _
   | exact ih1 _ _ _ _
   | exact impl_IsPattern.mono _ _
   | exact impl_matchLengths.mono _ _ _ _ _
   | exact LeO.none _
   | refine LeO.ite ?_ ?_
   | refine LeO.bind ?_ (fun _ => ?_)
set_option maxHeartbeats 8000000 in
set_option maxRecDepth 100000 in
theorem impl_FindPattern.calls (k : Nat) (A0 : Option Addr) (c0 : Nat) (l0 : List Int) (A1 : Option Addr) (c1 : Nat) (l1 : List Int) (r1 : Int) (r2 : List Int) (r3 : Bool) (w : World) (hr0 : Kd.C (Kd.int .i64) w A0 l0.length l0) (hc0 : l0.length ≤ c0) (hr1 : Kd.C (Kd.int .i64) w A1 l1.length l1) (hc1 : l1.length ≤ c1) (h : impl_FindPattern.f k l0 l1 = some (r1, r2, r3)) :
  Calls Try.prog 60 #[.slice A0 l0.length c0, .slice A1 l1.length c1] w fun e w' => ∃ v1_ : Value, e = .returned (.tuple #[.agg #[.int .i64 r1, v1_], .bool r3]) ∧ Kd.R (Kd.int .i64) 3 w' w.heap.size (fun _ => True) v1_ r2 ∧ Below w.heap.size w w' := by
 have hu75 := Try.underlying75
 have HR0 := Aside0.mk hr0
 have HC0 := Aside0.mk hc0
 clear hr0 hc0
 have HR1 := Aside0.mk hr1
 have HC1 := Aside0.mk hc1
 clear hr1 hc1
 have HB := Aside0.mk (Below.refl w.heap.size w)
 have H : ((impl_IsPattern.f k l1).bind fun t952 => (if t952 = true then (impl_FindPattern.j0 k l0 l1 (decide ((l0.length : Int) > 24))) else (impl_FindPattern.j0 k l0 l1 true))) = some (r1, r2, r3) := h
 clear h
 have HC3 := Aside0.mk H
 clear H
 go_enter Try.func60, Try.ntmps60
 go_upto_region 1 with (first | ((with_reducible refine gate_dst (N := 4) rfl ?_); (try (refine gate_guard (by rfl) ?_; dsimp only)); refine box_event ?hg (N := 4) ?hd (cs := #[.int .i64 0, .slice none 0 0]) (t := 75) ?hr ?_; (case hd => rfl); (case hg => rfl); (case hr => first | (go_simp; done) | (go_simp; rfl)); intro gb951 hg w4 hbox hb; have n0_ := Aside0.mk (below_step (by repeat (first | (with_reducible first | exact HB.out | apply below_alloc | apply pw_below_drewN | apply below_drew1) | exact HB.out)) hb); have n1_ := Aside0.mk (hbox); have n2_ := Aside0.mk ((by rw [hg]; exact (below_size (by repeat (first | (with_reducible first | exact HB.out | apply below_alloc | apply pw_below_drewN | apply below_drew1) | exact HB.out))) : w.heap.size ≤ gb951)); have n3_ := Aside0.mk ((by rw [hg]; exact (below_size (by repeat (first | (with_reducible first | exact HB.out | apply below_alloc | apply pw_below_drewN | apply below_drew1) | exact HB.out))) : w.heap.size ≤ gb951)); clear HB; have HB := n0_; have BK951 := n1_; have GW951 := n2_; have GE951 := n3_; clear n0_ n1_ n2_ n3_; clear hb hbox hg))
 (try simp only [Act.put, List.setIfInBounds_toArray, List.set_cons_zero, List.set_cons_succ])
 go_cut [16] (fun v16 wc => ∃ (kq : Nat) (x16_2 : Bool), v16 = .bool x16_2 ∧ Aside0 (impl_FindPattern.j0 kq l0 l1 x16_2 = some (r1, r2, r3)) ∧ Aside0 (kq ≤ k) ∧ Aside0 (wc.heap[gb951]? = some (.cells #[.int .i64 0, (.slice none 0 0)] 75 (0, 0))) ∧ Aside0 (Below w.heap.size w wc))
 case first =>
  have H := HC3.out
  clear HC3
  replace H := Option.bind_eq_some_iff.mp H
  obtain ⟨t952, A50, H⟩ := H
  replace H : (if t952 = true then (impl_FindPattern.j0 k l0 l1 (decide ((l0.length : Int) > 24))) else (impl_FindPattern.j0 k l0 l1 true)) = some (r1, r2, r3) := H
  have A5 := Aside0.mk A50
  clear A50
  by_cases c6 : t952 = true
  ·subst c6
   have H1 : (impl_FindPattern.j0 k l0 l1 (decide ((l0.length : Int) > 24))) = some (r1, r2, r3) := by rw [if_pos rfl] at H; exact H
   clear H
   have H := H1
   clear H1
   have H' := Aside0.mk H
   clear H
   go_wp2_with (first | ((with_reducible refine gate_callee (f := 62) rfl ?_); refine goesL_ (some 10) rfl rfl Try.func62 (by kernel_rfl) rfl #[.slice A1 l1.length c1] rfl (by (try simp only [List.map_toArray, List.map_cons, List.map_nil]); first | done | rfl | (simp only [List.length_drop, List.length_take]; rfl)) ?_; (with_reducible refine (impl_IsPattern.calls k _ _ l1 true _ ?side1 ?side2 A5.out).mono ?_); (case side1 => repeat (first | exact (Kd.C_below HR1.out HB.out) | (with_reducible refine Kd.C_alloc ?_ _) | (with_reducible refine Kd.C_drewN ?_ _) | (with_reducible refine Kd.C_drew ?_))); (case side2 => exact HC1.out); rintro e w' ⟨rfl, ⟨nd, rfl⟩⟩; refine ⟨_, rfl, ?_⟩))
   go_meet
   case rel => exact ⟨_, (decide ((l0.length : Int) > 24)), (by first | rfl | (simp; done) | (simp [*]; done)), H', ⟨by first | omega | exact Nat.le_refl _⟩, ⟨by (with_reducible repeat (first | refine blk_drewN ?_ _ | refine blk_drew ?_ | refine blk_alloc ?_ _)); exact BK951.out⟩, ⟨by repeat (first | (with_reducible first | exact HB.out | apply below_alloc | apply pw_below_drewN | apply below_drew1 | refine below_set ?_ GE951.out) | exact HB.out)⟩⟩
  ·replace c6 := Bool.eq_false_iff.mpr c6
   subst c6
   have H1 : (impl_FindPattern.j0 k l0 l1 true) = some (r1, r2, r3) := by rw [if_neg (show ¬ (false = true) by decide)] at H; exact H
   clear H
   have H := H1
   clear H1
   have H' := Aside0.mk H
   clear H
   go_wp2_with (first | ((with_reducible refine gate_callee (f := 62) rfl ?_); refine goesL_ (some 10) rfl rfl Try.func62 (by kernel_rfl) rfl #[.slice A1 l1.length c1] rfl (by (try simp only [List.map_toArray, List.map_cons, List.map_nil]); first | done | rfl | (simp only [List.length_drop, List.length_take]; rfl)) ?_; (with_reducible refine (impl_IsPattern.calls k _ _ l1 false _ ?side1 ?side2 A5.out).mono ?_); (case side1 => repeat (first | exact (Kd.C_below HR1.out HB.out) | (with_reducible refine Kd.C_alloc ?_ _) | (with_reducible refine Kd.C_drewN ?_ _) | (with_reducible refine Kd.C_drew ?_))); (case side2 => exact HC1.out); rintro e w' ⟨rfl, ⟨nd, rfl⟩⟩; refine ⟨_, rfl, ?_⟩))
   go_meet
   case rel => exact ⟨_, (true), (by first | rfl | (simp; done) | (simp [*]; done)), H', ⟨by first | omega | exact Nat.le_refl _⟩, ⟨by (with_reducible repeat (first | refine blk_drewN ?_ _ | refine blk_drew ?_ | refine blk_alloc ?_ _)); exact BK951.out⟩, ⟨by repeat (first | (with_reducible first | exact HB.out | apply below_alloc | apply pw_below_drewN | apply below_drew1 | refine below_set ?_ GE951.out) | exact HB.out)⟩⟩
 case rest =>
  clear HC3
  try clear c1
  try clear p2
  try clear c6
  obtain ⟨kq, x16_2, rfl, HA, HJ2, BK951, HB⟩ := hcut
  cases kq with
  | zero => exact absurd HA.out (by simp [impl_FindPattern.j0])
  | succ kj2 =>
   have H := HA.out
   clear HA
   simp only [impl_FindPattern.j0] at H
   by_cases c7 : x16_2 = true
   ·subst c7
    have H1 : (some (0, ([] : List Int), false)) = some (r1, r2, r3) := by rw [if_pos rfl] at H; exact H
    clear H
    have H := H1
    clear H1
    simp only [Option.some.injEq, Prod.mk.injEq] at H
    obtain ⟨rfl, rfl, rfl⟩ := H
    have hcz8_0 : wc.cell? ⟨gb951, 0, none⟩ = some (.int .i64 0) := (blk_cell BK951.out 0).trans rfl
    have hcz8_1 : wc.cell? ⟨gb951, 1, none⟩ = some (.slice none 0 0) := (blk_cell BK951.out 1).trans rfl
    have hfz8_0 := blk_frozen BK951.out 0
    have hfz8_1 := blk_frozen BK951.out 1
    go_wp2
    refine bodyPost_ret (results_ct rfl _ _ gb951 75 #[.int .i64 0, .slice none 0 0] (0, 0) _ rfl (by (with_reducible repeat (first | refine blk_drewN ?_ _ | refine blk_drew ?_ | refine blk_alloc ?_ _)); refine blk_put (cs := #[.int .i64 0, .slice none 0 0]) ?_ 1 _ rfl; (with_reducible repeat (first | refine blk_drewN ?_ _ | refine blk_drew ?_ | refine blk_alloc ?_ _)); refine blk_put (cs := #[.int .i64 0, .slice none 0 0]) ?_ 0 _ rfl; (with_reducible repeat (first | refine blk_drewN ?_ _ | refine blk_drew ?_ | refine blk_alloc ?_ _)); exact BK951.out) Try.underlying75 rfl (by kernel_rfl)) rfl ?_
    exact ⟨_, by first | rfl | (simp [errW_none, errW_some] <;> rfl) | (simp [*, errW_none, errW_some] <;> rfl), by first | exact Kd.R_nil _ _ _ _ _ | exact Kd.N_nil _ _ _ _ _ | exact Kd.V_nil _ _ _ _ _ | exact Kd.Q_nil _ _ _ _ _ | exact Kd.S_nil _ _ _ _ _, by repeat (first | (with_reducible first | exact HB.out | apply below_alloc | apply pw_below_drewN | apply below_drew1 | refine below_set ?_ GE951.out) | exact HB.out)⟩
   ·replace c7 := Bool.eq_false_iff.mpr c7
    subst c7
    have H1 : (impl_FindPattern.l0 kj2 l0 l1 (l0.length : Int) 0) = some (r1, r2, r3) := by rw [if_neg (show ¬ (false = true) by decide)] at H; exact H
    clear H
    have H := H1
    clear H1
    have H' := Aside0.mk H
    clear H
    go_wp2
    go_loopg [20] kj2 (fun kq v20 w' => ∃ (x20_2 : Int) (x952000_2 : Int), v20 = .int .i64 x20_2 ∧ Aside0 (impl_FindPattern.l0 kq l0 l1 (l0.length : Int) x20_2 = some (r1, r2, r3)) ∧ Aside0 (kq ≤ kj2) ∧ Aside0 (w'.heap[gb951]? = some (.cells #[.int .i64 x952000_2, (.slice none 0 0)] 75 (0, 0))) ∧ Aside0 (Below w.heap.size w w'))
    case atStart => exact ⟨(0), (0), (by first | rfl | (simp; done) | (simp [*]; done)), H', ⟨Nat.le_refl _⟩, ⟨by (with_reducible repeat (first | refine blk_drewN ?_ _ | refine blk_drew ?_ | refine blk_alloc ?_ _)); exact BK951.out⟩, ⟨by repeat (first | (with_reducible first | exact HB.out | apply below_alloc | apply pw_below_drewN | apply below_drew1 | refine below_set ?_ GE951.out) | exact HB.out)⟩⟩
    case round =>
     clear H'
     try clear c1
     try clear p2
     try clear c6
     try clear c7
     try clear hcz8_0
     try clear hcz8_1
     try clear hfz8_0
     try clear hfz8_1
     try clear p2
     obtain ⟨x20_2, x952000_2, rfl, HA, HK2, BK951, HB⟩ := hrel
     cases gk with
     | zero => exact absurd HA.out (by simp [impl_FindPattern.l0])
     | succ k2 =>
      have H := HA.out
      clear HA
      simp only [impl_FindPattern.l0] at H
      by_cases c9 : x20_2 < (l0.length : Int)
      ·rw [if_pos c9] at H
       have c9b0 : decide (x20_2 < (l0.length : Int)) = true := decide_eq_true c9
       clear c9
       replace H := Option.bind_eq_some_iff.mp H
       obtain ⟨⟨t953, t956⟩, A100, H⟩ := H
       replace H : (if t956 = true then (some (x20_2, t953, true)) else (impl_FindPattern.l0 k2 l0 l1 (l0.length : Int) (wrap64 (x20_2 + 1)))) = some (r1, r2, r3) := H
       have A10 := Aside0.mk A100
       clear A100
       by_cases c11 : t956 = true
       ·subst c11
        have H1 : (some (x20_2, t953, true)) = some (r1, r2, r3) := by rw [if_pos rfl] at H; exact H
        clear H
        have H := H1
        clear H1
        simp only [Option.some.injEq, Prod.mk.injEq] at H
        obtain ⟨rfl, rfl, rfl⟩ := H
        go_wp2_with (first | ((with_reducible refine gate_callee (f := 119) rfl ?_); refine goesL_ (some 27) rfl rfl Try.func119 (by kernel_rfl) rfl #[.slice A0 l0.length c0, .slice A1 l1.length c1, .int .i64 x20_2, .slice none 0 0] rfl (by (try simp only [List.map_toArray, List.map_cons, List.map_nil]); first | done | rfl | (simp only [List.length_drop, List.length_take]; rfl)) ?_; (refine (impl_matchLengths.calls k2 _ _ l0 _ _ l1 x20_2 (fun k_ => some k_ = (.slice none 0 0 : Value).ownBlock) (.slice none 0 0) ([] : List Int) t953 true w _ ?side1 ?side2 ?side3 ?side4 ?side5 ?side6 A10.out).mono ?_); (case side1 => repeat (first | (with_reducible first | exact HB.out | apply below_alloc | apply pw_below_drewN | apply below_drew1 | refine below_set ?_ GE951.out) | exact HB.out)); (case side2 => exact Kd.C_kept_came (Kd.heap_int .i64) HR0.out (by repeat (first | (with_reducible first | exact HB.out | apply below_alloc | apply pw_below_drewN | apply below_drew1 | refine below_set ?_ GE951.out) | exact HB.out)) (fun k_ hs_ => (fun e_ => by simp [Value.ownBlock] at e_) hs_)); (case side3 => exact HC0.out); (case side4 => exact Kd.C_kept_came (Kd.heap_int .i64) HR1.out (by repeat (first | (with_reducible first | exact HB.out | apply below_alloc | apply pw_below_drewN | apply below_drew1 | refine below_set ?_ GE951.out) | exact HB.out)) (fun k_ hs_ => (fun e_ => by simp [Value.ownBlock] at e_) hs_)); (case side5 => exact HC1.out); (case side6 => exact Kd.R_nil _ _ _ _ _); rintro e w12 ⟨v954, rfl, ho0, hb, hkp⟩; refine ⟨_, rfl, ?_⟩; have n0_ := Aside0.mk (blk_kept (by (with_reducible repeat (first | refine blk_drewN ?_ _ | refine blk_drew ?_ | refine blk_alloc ?_ _)); exact BK951.out) hkp (fun hs_ => (fun e_ => by simp [Value.ownBlock] at e_) hs_)); have n1_ := Aside0.mk (Kd.R_mono (ok' := fun k_ => True) ho0 (fun k_ hk_ => trivial)); have n2_ := Aside0.mk (hb); clear BK951; clear HB; have BK951 := n0_; have HO955 := n1_; have HB := n2_; clear n0_ n1_ n2_; (try clear hb); (try clear hkp); (try clear ho0); obtain ⟨Ao13, co13, eo13⟩ := Kd.R_slice HO955.out; subst eo13; have hcz14_0 : w12.cell? ⟨gb951, 0, none⟩ = some (.int .i64 x952000_2) := (blk_cell BK951.out 0).trans rfl; have hcz14_1 : w12.cell? ⟨gb951, 1, none⟩ = some (.slice none 0 0) := (blk_cell BK951.out 1).trans rfl; have hfz14_0 := blk_frozen BK951.out 0; have hfz14_1 := blk_frozen BK951.out 1))
        refine bodyPost_ret (results_ct rfl _ _ gb951 75 #[.int .i64 x20_2, .slice Ao13 t953.length co13] (0, 0) _ rfl (by (with_reducible repeat (first | refine blk_drewN ?_ _ | refine blk_drew ?_ | refine blk_alloc ?_ _)); refine blk_put (cs := #[.int .i64 x20_2, .slice none 0 0]) ?_ 1 _ rfl; (with_reducible repeat (first | refine blk_drewN ?_ _ | refine blk_drew ?_ | refine blk_alloc ?_ _)); refine blk_put (cs := #[.int .i64 x952000_2, .slice none 0 0]) ?_ 0 _ rfl; (with_reducible repeat (first | refine blk_drewN ?_ _ | refine blk_drew ?_ | refine blk_alloc ?_ _)); exact BK951.out) Try.underlying75 rfl (by kernel_rfl)) rfl ?_
        exact ⟨_, by first | rfl | (simp [errW_none, errW_some] <;> rfl) | (simp [*, errW_none, errW_some] <;> rfl), by (with_reducible repeat (first | apply Kd.R_alloc | apply Kd.R_drewN | apply Kd.R_drew)); exact Kd.R_mono (Kd.R_far (p := ⟨gb951, 1, none⟩) (Kd.R_far (p := ⟨gb951, 0, none⟩) (Kd.R_types HO955.out BK951.out (by decide)) (fun _ hk => hk.2) (.int .i64 x20_2)) (fun _ hk => hk.2) (.slice Ao13 t953.length co13)) (fun _ hk => trivial), by repeat (first | (with_reducible first | exact HB.out | apply below_alloc | apply pw_below_drewN | apply below_drew1 | refine below_set ?_ GE951.out) | exact HB.out)⟩
       ·replace c11 := Bool.eq_false_iff.mpr c11
        subst c11
        have H1 : (impl_FindPattern.l0 k2 l0 l1 (l0.length : Int) (wrap64 (x20_2 + 1))) = some (r1, r2, r3) := by rw [if_neg (show ¬ (false = true) by decide)] at H; exact H
        clear H
        have H := H1
        clear H1
        have H' := Aside0.mk H
        clear H
        go_wp2_with (first | ((with_reducible refine gate_callee (f := 119) rfl ?_); refine goesL_ (some 27) rfl rfl Try.func119 (by kernel_rfl) rfl #[.slice A0 l0.length c0, .slice A1 l1.length c1, .int .i64 x20_2, .slice none 0 0] rfl (by (try simp only [List.map_toArray, List.map_cons, List.map_nil]); first | done | rfl | (simp only [List.length_drop, List.length_take]; rfl)) ?_; (refine (impl_matchLengths.calls k2 _ _ l0 _ _ l1 x20_2 (fun k_ => some k_ = (.slice none 0 0 : Value).ownBlock) (.slice none 0 0) ([] : List Int) t953 false w _ ?side1 ?side2 ?side3 ?side4 ?side5 ?side6 A10.out).mono ?_); (case side1 => repeat (first | (with_reducible first | exact HB.out | apply below_alloc | apply pw_below_drewN | apply below_drew1 | refine below_set ?_ GE951.out) | exact HB.out)); (case side2 => exact Kd.C_kept_came (Kd.heap_int .i64) HR0.out (by repeat (first | (with_reducible first | exact HB.out | apply below_alloc | apply pw_below_drewN | apply below_drew1 | refine below_set ?_ GE951.out) | exact HB.out)) (fun k_ hs_ => (fun e_ => by simp [Value.ownBlock] at e_) hs_)); (case side3 => exact HC0.out); (case side4 => exact Kd.C_kept_came (Kd.heap_int .i64) HR1.out (by repeat (first | (with_reducible first | exact HB.out | apply below_alloc | apply pw_below_drewN | apply below_drew1 | refine below_set ?_ GE951.out) | exact HB.out)) (fun k_ hs_ => (fun e_ => by simp [Value.ownBlock] at e_) hs_)); (case side5 => exact HC1.out); (case side6 => exact Kd.R_nil _ _ _ _ _); rintro e w15 ⟨v954, rfl, ho0, hb, hkp⟩; refine ⟨_, rfl, ?_⟩; have n0_ := Aside0.mk (blk_kept (by (with_reducible repeat (first | refine blk_drewN ?_ _ | refine blk_drew ?_ | refine blk_alloc ?_ _)); exact BK951.out) hkp (fun hs_ => (fun e_ => by simp [Value.ownBlock] at e_) hs_)); have n1_ := Aside0.mk (Kd.R_mono (ok' := fun k_ => True) ho0 (fun k_ hk_ => trivial)); have n2_ := Aside0.mk (hb); clear BK951; clear HB; have BK951 := n0_; have HO955 := n1_; have HB := n2_; clear n0_ n1_ n2_; (try clear hb); (try clear hkp); (try clear ho0)))
        go_roundg k2
        case measure => have := HJ2.out; have := HK2.out; omega
        case rel => exact ⟨(wrap64 (x20_2 + 1)), (x952000_2), (by first | rfl | (simp; done) | (simp [*]; done)), H', ⟨by have := HJ2.out; have := HK2.out; omega⟩, ⟨by (with_reducible repeat (first | refine blk_drewN ?_ _ | refine blk_drew ?_ | refine blk_alloc ?_ _)); exact BK951.out⟩, ⟨by repeat (first | (with_reducible first | exact HB.out | apply below_alloc | apply pw_below_drewN | apply below_drew1 | refine below_set ?_ GE951.out) | exact HB.out)⟩⟩
      ·rw [if_neg c9] at H
       have c9b0 : decide (x20_2 < (l0.length : Int)) = false := decide_eq_false c9
       clear c9
       simp only [Option.some.injEq, Prod.mk.injEq] at H
       obtain ⟨rfl, rfl, rfl⟩ := H
       have hcz16_0 : wr.cell? ⟨gb951, 0, none⟩ = some (.int .i64 x952000_2) := (blk_cell BK951.out 0).trans rfl
       have hcz16_1 : wr.cell? ⟨gb951, 1, none⟩ = some (.slice none 0 0) := (blk_cell BK951.out 1).trans rfl
       have hfz16_0 := blk_frozen BK951.out 0
       have hfz16_1 := blk_frozen BK951.out 1
       go_wp2
       refine bodyPost_ret (results_ct rfl _ _ gb951 75 #[.int .i64 0, .slice none 0 0] (0, 0) _ rfl (by (with_reducible repeat (first | refine blk_drewN ?_ _ | refine blk_drew ?_ | refine blk_alloc ?_ _)); refine blk_put (cs := #[.int .i64 0, .slice none 0 0]) ?_ 1 _ rfl; (with_reducible repeat (first | refine blk_drewN ?_ _ | refine blk_drew ?_ | refine blk_alloc ?_ _)); refine blk_put (cs := #[.int .i64 x952000_2, .slice none 0 0]) ?_ 0 _ rfl; (with_reducible repeat (first | refine blk_drewN ?_ _ | refine blk_drew ?_ | refine blk_alloc ?_ _)); exact BK951.out) Try.underlying75 rfl (by kernel_rfl)) rfl ?_
       exact ⟨_, by first | rfl | (simp [errW_none, errW_some] <;> rfl) | (simp [*, errW_none, errW_some] <;> rfl), by first | exact Kd.R_nil _ _ _ _ _ | exact Kd.N_nil _ _ _ _ _ | exact Kd.V_nil _ _ _ _ _ | exact Kd.Q_nil _ _ _ _ _ | exact Kd.S_nil _ _ _ _ _, by repeat (first | (with_reducible first | exact HB.out | apply below_alloc | apply pw_below_drewN | apply below_drew1 | refine below_set ?_ GE951.out) | exact HB.out)⟩

end Go.Proofs.Ythkkpdgadfhijaa.M
/- Walks for this claim, written by a program of mine over the kit's print. No condition of mine. -/
namespace Go.Proofs.Ythkkpdgadfhijaa.M
open Go.RowKit Go.Proofs.Ythkkpdgadfhijaa.KW Go.Proofs.YthkkpdgadfhijaaW.PrintWords Go.Proofs.YthkkpdgadfhijaaW.PrintLast Go.Proofs.YthkkpdgadfhijaaW.PrintMore
attribute [local go_sem] max2_int min2_int max_two min_two max_three min_three max_four min_four   -- for this text's walks alone
set_option linter.unusedVariables false
set_option linter.unusedSimpArgs false

/-! ### impl_AvoidsPattern: function 55 -/
def impl_AvoidsPattern.f (k : Nat) (l0 : List Int) (l1 : List Int) : Option (Bool) := (impl_IsPattern.f k l1).bind fun t957 => (if t957 = true then (if (l0.length : Int) > 24 then (some false) else ((impl_FindPattern.f k l0 l1).bind fun bt958 => (some (!bt958.2.2)))) else (some false))
theorem impl_AvoidsPattern.mono : ∀ a0 a1 k, LeO (impl_AvoidsPattern.f k a0 a1) (impl_AvoidsPattern.f (k + 1) a0 a1) := by
 intro a0 a1 k
 unfold impl_AvoidsPattern.f
 repeat' first
   | (with_reducible exact impl_FindPattern.mono _ _ _)
   | (with_reducible exact impl_IsPattern.mono _ _)
   | (with_reducible exact LeO.refl _)
   | (with_reducible exact LeO.none _)
   | (with_reducible refine LeO.ite ?_ ?_)
   | (with_reducible refine LeO.bind ?_ (fun _ => ?_))
   | exact impl_FindPattern.mono _ _ _
   | exact impl_IsPattern.mono _ _
   | exact LeO.none _
   | refine LeO.ite ?_ ?_
   | refine LeO.bind ?_ (fun _ => ?_)
set_option maxHeartbeats 8000000 in
set_option maxRecDepth 100000 in
theorem impl_AvoidsPattern.calls (k : Nat) (A0 : Option Addr) (c0 : Nat) (l0 : List Int) (A1 : Option Addr) (c1 : Nat) (l1 : List Int) (r : Bool) (w : World) (hr0 : Kd.C (Kd.int .i64) w A0 l0.length l0) (hc0 : l0.length ≤ c0) (hr1 : Kd.C (Kd.int .i64) w A1 l1.length l1) (hc1 : l1.length ≤ c1) (h : impl_AvoidsPattern.f k l0 l1 = some r) :
  Calls Try.prog 55 #[.slice A0 l0.length c0, .slice A1 l1.length c1] w fun e w' => e = .returned (.bool r) ∧ Below w.heap.size w w' := by
 have hu75 := Try.underlying75
 have HR0 := Aside0.mk hr0
 have HC0 := Aside0.mk hc0
 clear hr0 hc0
 have HR1 := Aside0.mk hr1
 have HC1 := Aside0.mk hc1
 clear hr1 hc1
 have HB := Aside0.mk (Below.refl w.heap.size w)
 have H : ((impl_IsPattern.f k l1).bind fun t957 => (if t957 = true then (if (l0.length : Int) > 24 then (some false) else ((impl_FindPattern.f k l0 l1).bind fun bt958 => (some (!bt958.2.2)))) else (some false))) = some r := h
 clear h
 replace H := Option.bind_eq_some_iff.mp H
 obtain ⟨t957, A30, H⟩ := H
 replace H : (if t957 = true then (if (l0.length : Int) > 24 then (some false) else ((impl_FindPattern.f k l0 l1).bind fun bt958 => (some (!bt958.2.2)))) else (some false)) = some r := H
 have A3 := Aside0.mk A30
 clear A30
 by_cases c4 : t957 = true
 ·subst c4
  have H1 : (if (l0.length : Int) > 24 then (some false) else ((impl_FindPattern.f k l0 l1).bind fun bt958 => (some (!bt958.2.2)))) = some r := by rw [if_pos rfl] at H; exact H
  clear H
  have H := H1
  clear H1
  by_cases c5 : (l0.length : Int) > 24
  ·rw [if_pos c5] at H
   have c5b0 : decide (24 < (l0.length : Int)) = true := decide_eq_true c5
   have c5b1 : decide (24 < l0.length) = true := decide_eq_true (by omega)
   clear c5
   obtain rfl := Option.some.inj H
   go_enter Try.func55, Try.ntmps55
   go_wp2_with (first | ((with_reducible refine gate_callee (f := 62) rfl ?_); refine goesL_ (some 8) rfl rfl Try.func62 (by kernel_rfl) rfl #[.slice A1 l1.length c1] rfl (by (try simp only [List.map_toArray, List.map_cons, List.map_nil]); first | done | rfl | (simp only [List.length_drop, List.length_take]; rfl)) ?_; (with_reducible refine (impl_IsPattern.calls k _ _ l1 true _ ?side1 ?side2 A3.out).mono ?_); (case side1 => repeat (first | exact HR1.out | (with_reducible refine Kd.C_alloc ?_ _) | (with_reducible refine Kd.C_drewN ?_ _) | (with_reducible refine Kd.C_drew ?_))); (case side2 => exact HC1.out); rintro e w' ⟨rfl, ⟨nd, rfl⟩⟩; refine ⟨_, rfl, ?_⟩))
   go_ret
   exact ⟨by first | rfl | (simp [errW_none, errW_some] <;> rfl) | (simp [*, errW_none, errW_some] <;> rfl), by repeat (first | (with_reducible first | exact HB.out | apply below_alloc | apply pw_below_drewN | apply below_drew1) | exact HB.out)⟩
  ·rw [if_neg c5] at H
   have c5b0 : decide (24 < (l0.length : Int)) = false := decide_eq_false c5
   have c5b1 : decide (24 < l0.length) = false := decide_eq_false (by omega)
   clear c5
   replace H := Option.bind_eq_some_iff.mp H
   obtain ⟨⟨t958, t959, t962⟩, A60, H⟩ := H
   replace H : (some (!t962)) = some r := H
   have A6 := Aside0.mk A60
   clear A60
   obtain rfl := Option.some.inj H
   go_enter Try.func55, Try.ntmps55
   go_wp2_with (first | ((with_reducible refine gate_callee (f := 62) rfl ?_); refine goesL_ (some 8) rfl rfl Try.func62 (by kernel_rfl) rfl #[.slice A1 l1.length c1] rfl (by (try simp only [List.map_toArray, List.map_cons, List.map_nil]); first | done | rfl | (simp only [List.length_drop, List.length_take]; rfl)) ?_; (with_reducible refine (impl_IsPattern.calls k _ _ l1 true _ ?side1 ?side2 A3.out).mono ?_); (case side1 => repeat (first | exact HR1.out | (with_reducible refine Kd.C_alloc ?_ _) | (with_reducible refine Kd.C_drewN ?_ _) | (with_reducible refine Kd.C_drew ?_))); (case side2 => exact HC1.out); rintro e w' ⟨rfl, ⟨nd, rfl⟩⟩; refine ⟨_, rfl, ?_⟩) | ((with_reducible refine gate_callee (f := 60) rfl ?_); refine goesL_ (some 18) rfl rfl Try.func60 (by kernel_rfl) rfl #[.slice A0 l0.length c0, .slice A1 l1.length c1] rfl (by (try simp only [List.map_toArray, List.map_cons, List.map_nil]); first | done | rfl | (simp only [List.length_drop, List.length_take]; rfl)) ?_; (with_reducible refine (impl_FindPattern.calls k _ _ l0 _ _ l1 t958 t959 t962 _ ?side1 ?side2 ?side3 ?side4 A6.out).mono ?_); (case side1 => repeat (first | exact HR0.out | (with_reducible refine Kd.C_alloc ?_ _) | (with_reducible refine Kd.C_drewN ?_ _) | (with_reducible refine Kd.C_drew ?_))); (case side2 => exact HC0.out); (case side3 => repeat (first | exact HR1.out | (with_reducible refine Kd.C_alloc ?_ _) | (with_reducible refine Kd.C_drewN ?_ _) | (with_reducible refine Kd.C_drew ?_))); (case side4 => exact HC1.out); rintro e w7 ⟨v960, rfl, ho0, hb⟩; refine ⟨_, rfl, ?_⟩; have n0_ := Aside0.mk (Kd.R_lower ho0 (below_size (by repeat (first | (with_reducible first | exact HB.out | apply below_alloc | apply pw_below_drewN | apply below_drew1) | exact HB.out)))); have n1_ := Aside0.mk (below_step (by repeat (first | (with_reducible first | exact HB.out | apply below_alloc | apply pw_below_drewN | apply below_drew1) | exact HB.out)) hb); clear HB; have HO961 := n0_; have HB := n1_; clear n0_ n1_; (try clear hb); (try clear hb2); (try clear hk); (try clear hi); (try clear ho0)) | ((with_reducible refine gate_dst (N := 5) rfl ?_); (try (refine gate_guard (by rfl) ?_; dsimp only)); refine box_event ?hg (N := 5) ?hd (cs := #[.int .i64 0, .slice none 0 0]) (t := 75) ?hr ?_; (case hd => rfl); (case hg => rfl); (case hr => first | (go_simp; done) | (go_simp; rfl)); intro gb963 hg w8 hbox hb; have n0_ := Aside0.mk (Kd.R_below (by (with_reducible repeat (first | apply Kd.R_alloc | apply Kd.R_drewN | apply Kd.R_drew)); exact HO961.out) hb); have n1_ := Aside0.mk (below_step (by repeat (first | (with_reducible first | exact HB.out | apply below_alloc | apply pw_below_drewN | apply below_drew1) | exact HB.out)) hb); have n2_ := Aside0.mk (hbox); have n3_ := Aside0.mk ((by rw [hg]; exact (below_size (by repeat (first | (with_reducible first | exact HB.out | apply below_alloc | apply pw_below_drewN | apply below_drew1) | exact HB.out))) : w.heap.size ≤ gb963)); have n4_ := Aside0.mk ((by rw [hg]; exact (below_size (by repeat (first | (with_reducible first | exact HB.out | apply below_alloc | apply pw_below_drewN | apply below_drew1) | exact HB.out))) : w.heap.size ≤ gb963)); clear HO961; clear HB; have HO961 := n0_; have HB := n1_; have BK963 := n2_; have GW963 := n3_; have GE963 := n4_; clear n0_ n1_ n2_ n3_ n4_; clear hb hbox hg; have hcz9_0 : w8.cell? ⟨gb963, 0, none⟩ = some (.int .i64 0) := (blk_cell BK963.out 0).trans rfl; have hcz9_1 : w8.cell? ⟨gb963, 1, none⟩ = some (.slice none 0 0) := (blk_cell BK963.out 1).trans rfl; have hfz9_0 := blk_frozen BK963.out 0; have hfz9_1 := blk_frozen BK963.out 1; obtain ⟨Ao10, co10, eo10⟩ := Kd.R_slice HO961.out; subst eo10))
   go_ret
   exact ⟨by first | rfl | (simp [errW_none, errW_some] <;> rfl) | (simp [*, errW_none, errW_some] <;> rfl), by repeat (first | (with_reducible first | exact HB.out | apply below_alloc | apply pw_below_drewN | apply below_drew1 | refine below_set ?_ GE963.out) | exact HB.out)⟩
 ·replace c4 := Bool.eq_false_iff.mpr c4
  subst c4
  have H1 : (some false) = some r := by rw [if_neg (show ¬ (false = true) by decide)] at H; exact H
  clear H
  have H := H1
  clear H1
  obtain rfl := Option.some.inj H
  go_enter Try.func55, Try.ntmps55
  go_wp2_with (first | ((with_reducible refine gate_callee (f := 62) rfl ?_); refine goesL_ (some 8) rfl rfl Try.func62 (by kernel_rfl) rfl #[.slice A1 l1.length c1] rfl (by (try simp only [List.map_toArray, List.map_cons, List.map_nil]); first | done | rfl | (simp only [List.length_drop, List.length_take]; rfl)) ?_; (with_reducible refine (impl_IsPattern.calls k _ _ l1 false _ ?side1 ?side2 A3.out).mono ?_); (case side1 => repeat (first | exact HR1.out | (with_reducible refine Kd.C_alloc ?_ _) | (with_reducible refine Kd.C_drewN ?_ _) | (with_reducible refine Kd.C_drew ?_))); (case side2 => exact HC1.out); rintro e w' ⟨rfl, ⟨nd, rfl⟩⟩; refine ⟨_, rfl, ?_⟩))
  go_ret
  exact ⟨by first | rfl | (simp [errW_none, errW_some] <;> rfl) | (simp [*, errW_none, errW_some] <;> rfl), by repeat (first | (with_reducible first | exact HB.out | apply below_alloc | apply pw_below_drewN | apply below_drew1) | exact HB.out)⟩

end Go.Proofs.Ythkkpdgadfhijaa.M
/- Finding a pattern, as values: program and reference find the same first match. No condition but lengths that fit. -/
namespace Go.Proofs.Ythkkpdgadfhijaa.M
open Go.RowKit Go.Proofs.YthkkpdgadfhijaaW.PrintWords Go.Proofs.Ythkkpdgadfhijaa.K
set_option linter.unusedVariables false
theorem odo1 (K : Nat) (F : List Int → Option (List Int)) (P : Nat → Option (List Int) → Prop) (hend : P (K + 1) none) (h1 : ∀ a, a ≤ K → ∀ v, P (a + 1) v → P a ((F [(a : Int)]).or v)) : P 1 (srch K F 0 [] 1) := by
  have key : ∀ a, a ≤ K + 1 → P a (srch K F 0 [] a) := by
    refine down (K + 1) ?_ ?_
    · rw [srch_end _ _ _ _ _ (by omega)]; exact hend
    · intro a ha ih
      rw [srch_step _ _ _ _ _ (by omega)]
      exact h1 a (by omega) _ ih
  exact key 1 (by omega)
theorem odo2 (K : Nat) (F : List Int → Option (List Int)) (P : Nat → Nat → Option (List Int) → Prop) (hend : ∀ b, P (K + 1) b none) (h1 : ∀ a b, a ≤ K → b < K → ∀ v, P a (b + 1) v → P a b ((F [(a : Int), (b : Int)]).or v)) (h2 : ∀ a, a ≤ K → ∀ v, P (a + 1) 1 v → P a K ((F [(a : Int), (K : Int)]).or v)) : P 1 1 (srch K F 1 [] 1) := by
  have key : ∀ a, a ≤ K + 1 → 1 ≤ a → P a 1 (srch K F 1 [] a) := by
    refine down (K + 1) ?_ ?_
    · intro _; rw [srch_end _ _ _ _ _ (by omega)]; exact hend 1
    · intro a ha ih ha1
      have ih := ih (by omega)
      have in_ : ∀ b, b ≤ K → P a b ((srch K F 0 [(a : Int)] b).or (srch K F 1 [] (a + 1))) := by
        refine down K ?_ ?_
        · rw [srch_step _ _ _ _ _ (Nat.le_refl _), srch_end _ _ _ _ _ (by omega), Option.or_none]
          exact h2 a (by omega) _ ih
        · intro b hb ih2
          rw [srch_step _ _ _ _ _ (by omega), Option.or_assoc]
          exact h1 a b (by omega) hb _ ih2
      rw [srch_step _ _ _ _ _ (by omega)]
      exact in_ 1 (by omega)
  exact key 1 (by omega) (by omega)
theorem odo3 (K : Nat) (F : List Int → Option (List Int)) (P : Nat → Nat → Nat → Option (List Int) → Prop) (hend : ∀ b c, P (K + 1) b c none) (h1 : ∀ a b c, a ≤ K → b ≤ K → c < K → ∀ v, P a b (c + 1) v → P a b c ((F [(a : Int), (b : Int), (c : Int)]).or v)) (h2 : ∀ a b, a ≤ K → b < K → ∀ v, P a (b + 1) 1 v → P a b K ((F [(a : Int), (b : Int), (K : Int)]).or v)) (h3 : ∀ a, a ≤ K → ∀ v, P (a + 1) 1 1 v → P a K K ((F [(a : Int), (K : Int), (K : Int)]).or v)) : P 1 1 1 (srch K F 2 [] 1) := by
  have key : ∀ a, a ≤ K + 1 → 1 ≤ a → P a 1 1 (srch K F 2 [] a) := by
    refine down (K + 1) ?_ ?_
    · intro _; rw [srch_end _ _ _ _ _ (by omega)]; exact hend 1 1
    · intro a ha ih ha1
      have ih := ih (by omega)
      have mid_ : ∀ b, b ≤ K → P a b 1 ((srch K F 1 [(a : Int)] b).or (srch K F 2 [] (a + 1))) := by
        refine down K ?_ ?_
        · have in_ : ∀ c, c ≤ K → P a K c ((srch K F 0 [(a : Int), (K : Int)] c).or (srch K F 2 [] (a + 1))) := by
            refine down K ?_ ?_
            · rw [srch_step _ _ _ _ _ (Nat.le_refl _), srch_end _ _ _ _ _ (by omega), Option.or_none]
              exact h3 a (by omega) _ ih
            · intro c hc ih2
              rw [srch_step _ _ _ _ _ (by omega), Option.or_assoc]
              exact h1 a K c (by omega) (Nat.le_refl _) hc _ ih2
          rw [srch_step _ _ _ _ _ (Nat.le_refl _), srch_end K F 1 _ _ (by omega), Option.or_none]
          exact in_ 1 (by omega)
        · intro b hb ih2
          have in_ : ∀ c, c ≤ K → P a b c ((srch K F 0 [(a : Int), (b : Int)] c).or ((srch K F 1 [(a : Int)] (b + 1)).or (srch K F 2 [] (a + 1)))) := by
            refine down K ?_ ?_
            · rw [srch_step _ _ _ _ _ (Nat.le_refl _), srch_end _ _ _ _ _ (by omega), Option.or_none]
              exact h2 a b (by omega) hb _ ih2
            · intro c hc ih3
              rw [srch_step _ _ _ _ _ (by omega), Option.or_assoc]
              exact h1 a b c (by omega) (by omega) hc _ ih3
          rw [srch_step _ _ _ _ _ (by omega), Option.or_assoc]
          exact in_ 1 (by omega)
      rw [srch_step _ _ _ _ _ (by omega)]
      exact mid_ 1 (by omega)
  exact key 1 (by omega) (by omega)

def FA (w p : List Int) (at_ : Nat) (L : List Int) : Option (List Int) := if mAt w p at_ L = true then some L else none
def mres : Option (List Int) → List Int × Bool
  | none => ([], false)
  | some L => (L, true)
theorem implML_leaf (w p : List Int) (at_ : Nat) (hw : w.length ≤ 1000000) (hp : p.length ≤ 1048576) (h : isPat p = true) (L : List Int) (hL : L.length = nl p) : Ev (fun k => impl_matchLengths.f k w p (at_ : Int) L) (L, mAt w p at_ L) := by
  refine Ev.step (fun k => by simp only [impl_matchLengths.f]; rfl) ?_
  have := (isPat_nl h).2.2.1
  refine Ev.bind (implLetters_ev p hp) (Ev.if_pos (by rw [_root_.if_pos h, hL]) (Ev.bind (implMatchAt_ev w p at_ L hw hp (by omega)) (Ev.some _)))
theorem implML_step (w p : List Int) (at_ : Nat) (hw : w.length ≤ 1000000) (hat : at_ ≤ w.length) (hp : p.length ≤ 1048576) (h : isPat p = true) : ∀ d (L : List Int), L.length + d + 1 = nl p → Ev (fun k => impl_matchLengths.f k w p (at_ : Int) L) (mres (srch (w.length - at_) (FA w p at_) d L 1)) := by
  have h3 := (isPat_nl h).2.2.1
  have loop : ∀ d (L : List Int), L.length + d + 1 = nl p → (∀ a : Nat, Ev (fun k => impl_matchLengths.f k w p (at_ : Int) (L ++ [(a : Int)])) (match inner (w.length - at_) (FA w p at_) d L a with | none => ((if d = 0 then L ++ [(a : Int)] else []), false) | some L' => (L', true))) → Ev (fun k => impl_matchLengths.f k w p (at_ : Int) L) (mres (srch (w.length - at_) (FA w p at_) d L 1)) := by
    intro d L hL hin
    have key : ∀ a, a ≤ w.length - at_ + 1 → Ev (fun k => impl_matchLengths.l0 k w p (at_ : Int) L (a : Int)) (mres (srch (w.length - at_) (FA w p at_) d L a)) := by
      refine down (w.length - at_ + 1) ?_ ?_
      · rw [srch_end _ _ _ _ _ (by omega)]
        refine Ev.step (fun k => by simp only [impl_matchLengths.l0]; rw [w_id (by omega) (by omega), _root_.if_neg (by omega)]) ?_
        exact Ev.some _
      · intro a ha ih
        refine Ev.step (fun k => by simp only [impl_matchLengths.l0, slices_Clone_int_int.f]; rw [w_id (by omega) (by omega), _root_.if_pos (by omega), _root_.if_pos (show L.length < 17592186044416 by omega), Option.bind_some, _root_.if_pos (show L.length < 17592186044416 by omega), wsucc (i := a) (by omega)]) ?_
        rw [srch_step _ _ _ _ _ (by omega)]
        have hb := hin a
        refine Ev.bind hb ?_
        cases inner (w.length - at_) (FA w p at_) d L a with
        | none => exact Ev.if_neg (by simp) ih
        | some L' => exact Ev.if_pos rfl (Ev.some _)
    refine Ev.step (fun k => by simp only [impl_matchLengths.f]; rfl) ?_
    refine Ev.bind (implLetters_ev p hp) (Ev.if_neg (by rw [_root_.if_pos h]; omega) ?_)
    exact key 1 (by omega)
  intro d
  induction d with
  | zero =>
    intro L hL
    refine loop 0 L hL (fun a => ?_)
    have := implML_leaf w p at_ hw hp h (L ++ [(a : Int)]) (by simp; omega)
    refine Ev.same this ?_
    simp only [inner, FA]
    by_cases q : mAt w p at_ (L ++ [(a : Int)]) = true
    · rw [_root_.if_pos q, q]
    · rw [_root_.if_neg q, Bool.eq_false_iff.2 q]; rfl
  | succ d ih =>
    intro L hL
    refine loop (d + 1) L hL (fun a => ?_)
    refine Ev.same (ih (L ++ [(a : Int)]) (by simp; omega)) ?_
    simp only [inner]
    cases srch (w.length - at_) (FA w p at_) d (L ++ [(a : Int)]) 1 <;> rfl

/-- The first match from a place on. -/
def fFrom (w p : List Int) (a : Nat) : Option (Nat × List Int) := (List.range' a (w.length - a)).findSome? fun i => (srch (w.length - i) (FA w p i) (nl p - 1) [] 1).map fun L => (i, L)
theorem fFrom_end (w p : List Int) (a : Nat) (h : w.length ≤ a) : fFrom w p a = none := by
  unfold fFrom; rw [show w.length - a = 0 from by omega]; rfl
theorem fFrom_step (w p : List Int) (a : Nat) (h : a < w.length) : fFrom w p a = ((srch (w.length - a) (FA w p a) (nl p - 1) [] 1).map fun L => (a, L)).or (fFrom w p (a + 1)) := by
  unfold fFrom
  rw [show w.length - a = (w.length - (a + 1)) + 1 from by omega, List.range'_succ, List.findSome?_cons, show w.length - (a + 1) + 1 = w.length - a from by omega]
  cases srch (w.length - a) (FA w p a) (nl p - 1) [] 1 <;> rfl
def fres : Option (Nat × List Int) → Int × List Int × Bool
  | none => (0, [], false)
  | some (i, L) => ((i : Int), L, true)
def fnd (w p : List Int) : Option (Nat × List Int) := if isPat p = true ∧ w.length ≤ 24 then fFrom w p 0 else none
theorem implFind_ev (w p : List Int) (hw : w.length ≤ 1048576) (hp : p.length ≤ 1048576) : Ev (fun k => impl_FindPattern.f k w p) (fres (fnd w p)) := by
  have bad : ∀ b, b = true → Ev (fun k => impl_FindPattern.j0 k w p b) (fres none) := fun b hb => by
    refine Ev.step (fun k => by simp only [impl_FindPattern.j0]; rw [_root_.if_pos hb]) ?_
    exact Ev.some _
  unfold impl_FindPattern.f fnd
  refine Ev.bind (implIsPattern_ev p hp) ?_
  by_cases h : isPat p = true
  · refine Ev.if_pos h ?_
    by_cases h2 : w.length ≤ 24
    · rw [_root_.if_pos ⟨h, h2⟩, decide_eq_false (by omega)]
      have hn := isPat_nl h
      have key : ∀ a, a ≤ w.length → Ev (fun k => impl_FindPattern.l0 k w p (w.length : Int) (a : Int)) (fres (fFrom w p a)) := by
        refine down w.length ?_ ?_
        · refine Ev.step (fun k => by simp only [impl_FindPattern.l0]; rw [_root_.if_neg (by omega)]) ?_
          rw [fFrom_end _ _ _ (Nat.le_refl _)]; exact Ev.some _
        · intro a ha ih
          refine Ev.step (fun k => by simp only [impl_FindPattern.l0]; rw [_root_.if_pos (by omega), wsucc (i := a) (by omega)]) ?_
          rw [fFrom_step _ _ _ ha]
          refine Ev.bind (implML_step w p a (by omega) (by omega) hp h (nl p - 1) [] (by simp only [List.length_nil]; omega)) ?_
          cases srch (w.length - a) (FA w p a) (nl p - 1) [] 1 with
          | none => exact Ev.if_neg (by simp [mres]) ih
          | some L => exact Ev.if_pos rfl (Ev.some _)
      refine Ev.step (fun k => by simp only [impl_FindPattern.j0]; rw [_root_.if_neg (by simp)]) ?_
      exact key 0 (by omega)
    · rw [_root_.if_neg (fun q => h2 q.2), decide_eq_true (by omega)]; exact bad _ rfl
  · rw [_root_.if_neg (fun q => h q.1)]
    exact Ev.if_neg h (bad _ rfl)
theorem implAvoids_ev (w p : List Int) (hw : w.length ≤ 1048576) (hp : p.length ≤ 1048576) : Ev (fun k => impl_AvoidsPattern.f k w p) (decide (isPat p = true ∧ w.length ≤ 24 ∧ fnd w p = none)) := by
  unfold impl_AvoidsPattern.f
  refine Ev.bind (implIsPattern_ev p hp) ?_
  refine Ev.ite (fun h => ?_) (fun h => ?_)
  · refine Ev.ite (fun h2 => ?_) (fun h2 => ?_)
    · rw [decide_eq_false (by omega)]; exact Ev.some _
    · refine Ev.bind (implFind_ev w p hw hp) (Ev.same (Ev.some _) ?_)
      cases q : fnd w p with
      | none => rw [decide_eq_true ⟨h, by omega, rfl⟩]; rfl
      | some x => rw [decide_eq_false (by simp)]; obtain ⟨i, L⟩ := x; rfl
  · rw [decide_eq_false (fun q => h q.1)]; exact Ev.some _

theorem tot_mem (L p : List Int) (x : Int) (hx : x ∈ p) : (L.getD x.toNat 0).toNat ≤ tot L p := by
  induction p with
  | nil => cases hx
  | cons y p ih =>
    simp only [tot]
    rcases List.mem_cons.1 hx with rfl | hx
    · omega
    · have := ih hx; omega
theorem mAt_small {w p : List Int} {at_ : Nat} {L : List Int} (h : mAt w p at_ L = true) : ∀ y ∈ L, y ≤ ((w.length - at_ : Nat) : Int) := by
  obtain ⟨h1, h2⟩ := mAt_len h
  obtain ⟨h3, h4, h5, h6⟩ := okL_at h1
  intro y hy
  obtain ⟨j, hj, rfl⟩ := List.getElem_of_mem hy
  have hm := (ngo_mem p 0 _ (isPat_nl h3).1).2 j (by omega) (by omega)
  have := tot_mem L p _ hm
  rw [Int.toNat_natCast, List.getD_eq_getElem?_getD, List.getElem?_eq_getElem hj, Option.getD_some] at this
  omega
/-- The reference tries all lengths up to the word's own. -/
theorem srch_all (w p : List Int) (at_ : Nat) (d : Nat) (pre : List Int) (a : Nat) : srch w.length (FA w p at_) d pre a = srch (w.length - at_) (FA w p at_) d pre a := by
  refine srch_cut _ _ (by omega) _ (fun L ⟨y, hy, hlt⟩ => ?_) d pre a
  unfold FA
  refine _root_.if_neg (fun h => ?_)
  have := mAt_small h y hy
  omega
end Go.Proofs.Ythkkpdgadfhijaa.M
/- Walks for this claim, written by a program of mine over the kit's print. No condition of mine. -/
namespace Go.Proofs.Ythkkpdgadfhijaa.M
open Go.RowKit Go.Proofs.Ythkkpdgadfhijaa.KW Go.Proofs.YthkkpdgadfhijaaW.PrintWords Go.Proofs.YthkkpdgadfhijaaW.PrintLast Go.Proofs.YthkkpdgadfhijaaW.PrintMore
attribute [local go_sem] max2_int min2_int max_two min_two max_three min_three max_four min_four   -- for this text's walks alone
set_option linter.unusedVariables false
set_option linter.unusedSimpArgs false

/-! ### spec_FindPattern: function 61 -/
mutual
def spec_FindPattern.j0 : Nat → List Int → List Int → Bool → Option (Int × List Int × Bool)
 | 0, _, _, _ => none
 | k + 1, x0, x1, x17 => if x17 = true then (some (0, ([] : List Int), false)) else ((spec_l28Letters.f k x1).bind fun t879 => (spec_FindPattern.l0 k x0 x1 t879 0))
def spec_FindPattern.l0 : Nat → List Int → List Int → Int → Int → Option (Int × List Int × Bool)
 | 0, _, _, _, _ => none
 | k + 1, x0, x1, x6, x7 => if x7 < (x0.length : Int) then (spec_FindPattern.l1 k x0 x1 x6 x7 (([1, 1, 1] : List Int))) else (some (0, ([] : List Int), false))
def spec_FindPattern.l1 : Nat → List Int → List Int → Int → Int → List Int → Option (Int × List Int × Bool)
 | 0, _, _, _, _, _ => none
 | k + 1, x0, x1, x6, x7, x8 => if 0 < (x8.length : Int) then (if (rd x8 0) ≤ (x0.length : Int) then (if 0 ≤ x6 then (if x6 ≤ (x8.length : Int) then ((spec_MatchAt.f k x0 x1 x7 (x8.take (x6 : Int).toNat)).bind fun t888 => (if t888 = true then ((some (([] : List Int) : List Int)).bind fun y889 => ((some (x8.take (x6 : Int).toNat : List Int)).bind fun y892 => (if y889.length + y892.length < 17592186044416 then (some (x7, (y889 ++ y892), true)) else (none)))) else (if 0 ≤ (wrap64 (x6 - 1)) then (if (wrap64 (x6 - 1)) < (x8.length : Int) then (spec_FindPattern.l2 k x0 x1 x6 x7 (x8.set ((wrap64 (x6 - 1)) : Int).toNat (wrap64 ((rd x8 (wrap64 (x6 - 1))) + 1))) (wrap64 (x6 - 1))) else (none)) else (none)))) else (none)) else (none)) else (spec_FindPattern.l0 k x0 x1 x6 (wrap64 (x7 + 1)))) else (none)
def spec_FindPattern.l2 : Nat → List Int → List Int → Int → Int → List Int → Int → Option (Int × List Int × Bool)
 | 0, _, _, _, _, _, _ => none
 | k + 1, x0, x1, x6, x7, x8, x9 => if x9 > 0 then (if 0 ≤ x9 then (if x9 < (x8.length : Int) then (if (rd x8 x9) > (x0.length : Int) then ((some (x8.set (x9 : Int).toNat 1 : List Int)).bind fun y902 => (if 0 ≤ (wrap64 (x9 - 1)) then (if (wrap64 (x9 - 1)) < (x8.length : Int) then (spec_FindPattern.l2 k x0 x1 x6 x7 (y902.set ((wrap64 (x9 - 1)) : Int).toNat (wrap64 ((rd y902 (wrap64 (x9 - 1))) + 1))) (wrap64 (x9 - 1))) else (none)) else (none))) else (spec_FindPattern.l1 k x0 x1 x6 x7 x8)) else (none)) else (none)) else (spec_FindPattern.l1 k x0 x1 x6 x7 x8)
end
def spec_FindPattern.f (k : Nat) (l0 : List Int) (l1 : List Int) : Option (Int × List Int × Bool) := (spec_IsPattern.f k l1).bind fun t878 => (if t878 = true then (spec_FindPattern.j0 k l0 l1 (decide ((l0.length : Int) > 24))) else (spec_FindPattern.j0 k l0 l1 true))
theorem spec_FindPattern.mono_l : ∀ k, (∀ y0 y1 y2, LeO (spec_FindPattern.j0 k y0 y1 y2) (spec_FindPattern.j0 (k + 1) y0 y1 y2)) ∧ (∀ y0 y1 y2 y3, LeO (spec_FindPattern.l0 k y0 y1 y2 y3) (spec_FindPattern.l0 (k + 1) y0 y1 y2 y3)) ∧ (∀ y0 y1 y2 y3 y4, LeO (spec_FindPattern.l1 k y0 y1 y2 y3 y4) (spec_FindPattern.l1 (k + 1) y0 y1 y2 y3 y4)) ∧ (∀ y0 y1 y2 y3 y4 y5, LeO (spec_FindPattern.l2 k y0 y1 y2 y3 y4 y5) (spec_FindPattern.l2 (k + 1) y0 y1 y2 y3 y4 y5))
 | 0 => ⟨fun _ _ _ r h => by simp [spec_FindPattern.j0] at h, fun _ _ _ _ r h => by simp [spec_FindPattern.l0] at h, fun _ _ _ _ _ r h => by simp [spec_FindPattern.l1] at h, fun _ _ _ _ _ _ r h => by simp [spec_FindPattern.l2] at h⟩
 | k + 1 => by
  obtain ⟨ih0, ih1, ih2, ih3⟩ := spec_FindPattern.mono_l k
  refine ⟨?_, ?_, ?_, ?_⟩
  ·intro y0 y1 y2
   unfold spec_FindPattern.j0
   repeat' first
   | (with_reducible exact ih0 _ _ _)
   | (with_reducible exact ih1 _ _ _ _)
   | (with_reducible exact ih2 _ _ _ _ _)
   | (with_reducible exact ih3 _ _ _ _ _ _)
   | (with_reducible exact spec_IsPattern.mono _ _)
   | (with_reducible exact spec_MatchAt.mono _ _ _ _ _)
   | (with_reducible exact spec_l28Letters.mono _ _)
   | (with_reducible exact LeO.refl _)
   | (with_reducible exact LeO.none _)
   | (with_reducible refine LeO.ite ?_ ?_)
   | (with_reducible refine LeO.bind ?_ (fun _ => ?_))
   | exact ih0 _ _ _
   | exact ih1 _ _ _ _
   | exact ih2 _ _ _ _ _
   | exact ih3 _ _ _ _ _ _
   | exact spec_IsPattern.mono _ _
   | exact spec_MatchAt.mono _ _ _ _ _
   | exact spec_l28Letters.mono _ _
   | exact LeO.none _
   | refine LeO.ite ?_ ?_
   | refine LeO.bind ?_ (fun _ => ?_)
  ·intro y0 y1 y2 y3
   unfold spec_FindPattern.l0
   repeat' first
   | (with_reducible exact ih0 _ _ _)
   | (with_reducible exact ih1 _ _ _ _)
   | (with_reducible exact ih2 _ _ _ _ _)
   | (with_reducible exact ih3 _ _ _ _ _ _)
   | (with_reducible exact spec_IsPattern.mono _ _)
   | (with_reducible exact spec_MatchAt.mono _ _ _ _ _)
   | (with_reducible exact spec_l28Letters.mono _ _)
   | (with_reducible exact LeO.refl _)
   | (with_reducible exact LeO.none _)
   | (with_reducible refine LeO.ite ?_ ?_)
   | (with_reducible refine LeO.bind ?_ (fun _ => ?_))
   | exact ih0 _ _ _
   | exact ih1 _ _ _ _
   | exact ih2 _ _ _ _ _
   | exact ih3 _ _ _ _ _ _
   | exact spec_IsPattern.mono _ _
   | exact spec_MatchAt.mono _ _ _ _ _
   | exact spec_l28Letters.mono _ _
   | exact LeO.none _
   | refine LeO.ite ?_ ?_
   | refine LeO.bind ?_ (fun _ => ?_)
  ·intro y0 y1 y2 y3 y4
   unfold spec_FindPattern.l1
   repeat' first
   | (with_reducible exact ih0 _ _ _)
   | (with_reducible exact ih1 _ _ _ _)
   | (with_reducible exact ih2 _ _ _ _ _)
   | (with_reducible exact ih3 _ _ _ _ _ _)
   | (with_reducible exact spec_IsPattern.mono _ _)
   | (with_reducible exact spec_MatchAt.mono _ _ _ _ _)
   | (with_reducible exact spec_l28Letters.mono _ _)
   | (with_reducible exact LeO.refl _)
   | (with_reducible exact LeO.none _)
   | (with_reducible refine LeO.ite ?_ ?_)
   | (with_reducible refine LeO.bind ?_ (fun _ => ?_))
   | exact ih0 _ _ _
   | exact ih1 _ _ _ _
   | exact ih2 _ _ _ _ _
   | exact ih3 _ _ _ _ _ _
   | exact spec_IsPattern.mono _ _
   | exact spec_MatchAt.mono _ _ _ _ _
   | exact spec_l28Letters.mono _ _
   | exact LeO.none _
   | refine LeO.ite ?_ ?_
   | refine LeO.bind ?_ (fun _ => ?_)
  ·intro y0 y1 y2 y3 y4 y5
   unfold spec_FindPattern.l2
   repeat' first
   | (with_reducible exact ih0 _ _ _)
   | (with_reducible exact ih1 _ _ _ _)
   | (with_reducible exact ih2 _ _ _ _ _)
   | (with_reducible exact ih3 _ _ _ _ _ _)
   | (with_reducible exact spec_IsPattern.mono _ _)
   | (with_reducible exact spec_MatchAt.mono _ _ _ _ _)
   | (with_reducible exact spec_l28Letters.mono _ _)
   | (with_reducible exact LeO.refl _)
   | (with_reducible exact LeO.none _)
   | (with_reducible refine LeO.ite ?_ ?_)
   | (with_reducible refine LeO.bind ?_ (fun _ => ?_))
   | exact ih0 _ _ _
   | exact ih1 _ _ _ _
   | exact ih2 _ _ _ _ _
   | exact ih3 _ _ _ _ _ _
   | exact spec_IsPattern.mono _ _
   | exact spec_MatchAt.mono _ _ _ _ _
   | exact spec_l28Letters.mono _ _
   | exact LeO.none _
   | refine LeO.ite ?_ ?_
   | refine LeO.bind ?_ (fun _ => ?_)
theorem spec_FindPattern.mono : ∀ a0 a1 k, LeO (spec_FindPattern.f k a0 a1) (spec_FindPattern.f (k + 1) a0 a1) := by
 intro a0 a1 k
 obtain ⟨ih0, ih1, ih2, ih3⟩ := spec_FindPattern.mono_l k
 unfold spec_FindPattern.f
 repeat' first
   | (with_reducible exact ih0 _ _ _)
   | (with_reducible exact ih1 _ _ _ _)
   | (with_reducible exact ih2 _ _ _ _ _)
   | (with_reducible exact ih3 _ _ _ _ _ _)
   | (with_reducible exact spec_IsPattern.mono _ _)
   | (with_reducible exact spec_MatchAt.mono _ _ _ _ _)
   | (with_reducible exact spec_l28Letters.mono _ _)
   | (with_reducible exact LeO.refl _)
   | (with_reducible exact LeO.none _)
   | (with_reducible refine LeO.ite ?_ ?_)
   | (with_reducible refine LeO.bind ?_ (fun _ => ?_))
   | exact ih0 _ _ _
   | exact ih1 _ _ _ _
   | exact ih2 _ _ _ _ _
   | exact ih3 _ _ _ _ _ _
   | exact spec_IsPattern.mono _ _
   | exact spec_MatchAt.mono _ _ _ _ _
   | exact spec_l28Letters.mono _ _
   | exact LeO.none _
   | refine LeO.ite ?_ ?_
   | refine LeO.bind ?_ (fun _ => ?_)
set_option maxHeartbeats 8000000 in
set_option maxRecDepth 100000 in
theorem spec_FindPattern.calls (k : Nat) (A0 : Option Addr) (c0 : Nat) (l0 : List Int) (A1 : Option Addr) (c1 : Nat) (l1 : List Int) (r1 : Int) (r2 : List Int) (r3 : Bool) (w : World) (hr0 : Kd.C (Kd.int .i64) w A0 l0.length l0) (hc0 : l0.length ≤ c0) (hr1 : Kd.C (Kd.int .i64) w A1 l1.length l1) (hc1 : l1.length ≤ c1) (h : spec_FindPattern.f k l0 l1 = some (r1, r2, r3)) :
  Calls Try.prog 61 #[.slice A0 l0.length c0, .slice A1 l1.length c1] w fun e w' => ∃ v1_ : Value, e = .returned (.tuple #[.agg #[.int .i64 r1, v1_], .bool r3]) ∧ Kd.R (Kd.int .i64) 3 w' w.heap.size (fun _ => True) v1_ r2 ∧ Below w.heap.size w w' := by
 have hu75 := Try.underlying75
 have HR0 := Aside0.mk hr0
 have HC0 := Aside0.mk hc0
 clear hr0 hc0
 have HR1 := Aside0.mk hr1
 have HC1 := Aside0.mk hc1
 clear hr1 hc1
 have HB := Aside0.mk (Below.refl w.heap.size w)
 have H : ((spec_IsPattern.f k l1).bind fun t878 => (if t878 = true then (spec_FindPattern.j0 k l0 l1 (decide ((l0.length : Int) > 24))) else (spec_FindPattern.j0 k l0 l1 true))) = some (r1, r2, r3) := h
 clear h
 have HC3 := Aside0.mk H
 clear H
 go_enter Try.func61, Try.ntmps61
 go_upto_region 1 with (first | ((with_reducible refine gate_dst (N := 4) rfl ?_); (try (refine gate_guard (by rfl) ?_; dsimp only)); refine box_event ?hg (N := 4) ?hd (cs := #[.int .i64 0, .slice none 0 0]) (t := 75) ?hr ?_; (case hd => rfl); (case hg => rfl); (case hr => first | (go_simp; done) | (go_simp; rfl)); intro gb877 hg w4 hbox hb; have n0_ := Aside0.mk (below_step (by repeat (first | (with_reducible first | exact HB.out | apply below_alloc | apply pw_below_drewN | apply below_drew1) | exact HB.out)) hb); have n1_ := Aside0.mk (hbox); have n2_ := Aside0.mk ((by rw [hg]; exact (below_size (by repeat (first | (with_reducible first | exact HB.out | apply below_alloc | apply pw_below_drewN | apply below_drew1) | exact HB.out))) : w.heap.size ≤ gb877)); have n3_ := Aside0.mk ((by rw [hg]; exact (below_size (by repeat (first | (with_reducible first | exact HB.out | apply below_alloc | apply pw_below_drewN | apply below_drew1) | exact HB.out))) : w.heap.size ≤ gb877)); clear HB; have HB := n0_; have BK877 := n1_; have GW877 := n2_; have GE877 := n3_; clear n0_ n1_ n2_ n3_; clear hb hbox hg))
 (try simp only [Act.put, List.setIfInBounds_toArray, List.set_cons_zero, List.set_cons_succ])
 go_cut [17] (fun v17 wc => ∃ (kq : Nat) (x17_2 : Bool), v17 = .bool x17_2 ∧ Aside0 (spec_FindPattern.j0 kq l0 l1 x17_2 = some (r1, r2, r3)) ∧ Aside0 (kq ≤ k) ∧ Aside0 (wc.heap[gb877]? = some (.cells #[.int .i64 0, (.slice none 0 0)] 75 (0, 0))) ∧ Aside0 (Below w.heap.size w wc))
 case first =>
  have H := HC3.out
  clear HC3
  replace H := Option.bind_eq_some_iff.mp H
  obtain ⟨t878, A50, H⟩ := H
  replace H : (if t878 = true then (spec_FindPattern.j0 k l0 l1 (decide ((l0.length : Int) > 24))) else (spec_FindPattern.j0 k l0 l1 true)) = some (r1, r2, r3) := H
  have A5 := Aside0.mk A50
  clear A50
  by_cases c6 : t878 = true
  ·subst c6
   have H1 : (spec_FindPattern.j0 k l0 l1 (decide ((l0.length : Int) > 24))) = some (r1, r2, r3) := by rw [if_pos rfl] at H; exact H
   clear H
   have H := H1
   clear H1
   have H' := Aside0.mk H
   clear H
   go_wp2_with (first | ((with_reducible refine gate_callee (f := 63) rfl ?_); refine goesL_ (some 11) rfl rfl Try.func63 (by kernel_rfl) rfl #[.slice A1 l1.length c1] rfl (by (try simp only [List.map_toArray, List.map_cons, List.map_nil]); first | done | rfl | (simp only [List.length_drop, List.length_take]; rfl)) ?_; (with_reducible refine (spec_IsPattern.calls k _ _ l1 true _ ?side1 ?side2 A5.out).mono ?_); (case side1 => repeat (first | exact (Kd.C_below HR1.out HB.out) | (with_reducible refine Kd.C_alloc ?_ _) | (with_reducible refine Kd.C_drewN ?_ _) | (with_reducible refine Kd.C_drew ?_))); (case side2 => exact HC1.out); rintro e w' ⟨rfl, ⟨nd, rfl⟩⟩; refine ⟨_, rfl, ?_⟩))
   go_meet
   case rel => exact ⟨_, (decide ((l0.length : Int) > 24)), (by first | rfl | (simp; done) | (simp [*]; done)), H', ⟨by first | omega | exact Nat.le_refl _⟩, ⟨by (with_reducible repeat (first | refine blk_drewN ?_ _ | refine blk_drew ?_ | refine blk_alloc ?_ _)); exact BK877.out⟩, ⟨by repeat (first | (with_reducible first | exact HB.out | apply below_alloc | apply pw_below_drewN | apply below_drew1 | refine below_set ?_ GE877.out) | exact HB.out)⟩⟩
  ·replace c6 := Bool.eq_false_iff.mpr c6
   subst c6
   have H1 : (spec_FindPattern.j0 k l0 l1 true) = some (r1, r2, r3) := by rw [if_neg (show ¬ (false = true) by decide)] at H; exact H
   clear H
   have H := H1
   clear H1
   have H' := Aside0.mk H
   clear H
   go_wp2_with (first | ((with_reducible refine gate_callee (f := 63) rfl ?_); refine goesL_ (some 11) rfl rfl Try.func63 (by kernel_rfl) rfl #[.slice A1 l1.length c1] rfl (by (try simp only [List.map_toArray, List.map_cons, List.map_nil]); first | done | rfl | (simp only [List.length_drop, List.length_take]; rfl)) ?_; (with_reducible refine (spec_IsPattern.calls k _ _ l1 false _ ?side1 ?side2 A5.out).mono ?_); (case side1 => repeat (first | exact (Kd.C_below HR1.out HB.out) | (with_reducible refine Kd.C_alloc ?_ _) | (with_reducible refine Kd.C_drewN ?_ _) | (with_reducible refine Kd.C_drew ?_))); (case side2 => exact HC1.out); rintro e w' ⟨rfl, ⟨nd, rfl⟩⟩; refine ⟨_, rfl, ?_⟩))
   go_meet
   case rel => exact ⟨_, (true), (by first | rfl | (simp; done) | (simp [*]; done)), H', ⟨by first | omega | exact Nat.le_refl _⟩, ⟨by (with_reducible repeat (first | refine blk_drewN ?_ _ | refine blk_drew ?_ | refine blk_alloc ?_ _)); exact BK877.out⟩, ⟨by repeat (first | (with_reducible first | exact HB.out | apply below_alloc | apply pw_below_drewN | apply below_drew1 | refine below_set ?_ GE877.out) | exact HB.out)⟩⟩
 case rest =>
  clear HC3
  try clear c1
  try clear p2
  try clear c6
  obtain ⟨kq, x17_2, rfl, HA, HJ2, BK877, HB⟩ := hcut
  cases kq with
  | zero => exact absurd HA.out (by simp [spec_FindPattern.j0])
  | succ kj2 =>
   have H := HA.out
   clear HA
   simp only [spec_FindPattern.j0] at H
   by_cases c7 : x17_2 = true
   ·subst c7
    have H1 : (some (0, ([] : List Int), false)) = some (r1, r2, r3) := by rw [if_pos rfl] at H; exact H
    clear H
    have H := H1
    clear H1
    simp only [Option.some.injEq, Prod.mk.injEq] at H
    obtain ⟨rfl, rfl, rfl⟩ := H
    have hcz8_0 : wc.cell? ⟨gb877, 0, none⟩ = some (.int .i64 0) := (blk_cell BK877.out 0).trans rfl
    have hcz8_1 : wc.cell? ⟨gb877, 1, none⟩ = some (.slice none 0 0) := (blk_cell BK877.out 1).trans rfl
    have hfz8_0 := blk_frozen BK877.out 0
    have hfz8_1 := blk_frozen BK877.out 1
    go_wp2
    refine bodyPost_ret (results_ct rfl _ _ gb877 75 #[.int .i64 0, .slice none 0 0] (0, 0) _ rfl (by (with_reducible repeat (first | refine blk_drewN ?_ _ | refine blk_drew ?_ | refine blk_alloc ?_ _)); refine blk_put (cs := #[.int .i64 0, .slice none 0 0]) ?_ 1 _ rfl; (with_reducible repeat (first | refine blk_drewN ?_ _ | refine blk_drew ?_ | refine blk_alloc ?_ _)); refine blk_put (cs := #[.int .i64 0, .slice none 0 0]) ?_ 0 _ rfl; (with_reducible repeat (first | refine blk_drewN ?_ _ | refine blk_drew ?_ | refine blk_alloc ?_ _)); exact BK877.out) Try.underlying75 rfl (by kernel_rfl)) rfl ?_
    exact ⟨_, by first | rfl | (simp [errW_none, errW_some] <;> rfl) | (simp [*, errW_none, errW_some] <;> rfl), by first | exact Kd.R_nil _ _ _ _ _ | exact Kd.N_nil _ _ _ _ _ | exact Kd.V_nil _ _ _ _ _ | exact Kd.Q_nil _ _ _ _ _ | exact Kd.S_nil _ _ _ _ _, by repeat (first | (with_reducible first | exact HB.out | apply below_alloc | apply pw_below_drewN | apply below_drew1 | refine below_set ?_ GE877.out) | exact HB.out)⟩
   ·replace c7 := Bool.eq_false_iff.mpr c7
    subst c7
    have H1 : ((spec_l28Letters.f kj2 l1).bind fun t879 => (spec_FindPattern.l0 kj2 l0 l1 t879 0)) = some (r1, r2, r3) := by rw [if_neg (show ¬ (false = true) by decide)] at H; exact H
    clear H
    have H := H1
    clear H1
    replace H := Option.bind_eq_some_iff.mp H
    obtain ⟨t879, A90, H⟩ := H
    replace H : (spec_FindPattern.l0 kj2 l0 l1 t879 0) = some (r1, r2, r3) := H
    have A9 := Aside0.mk A90
    clear A90
    have H' := Aside0.mk H
    clear H
    go_wp2_with (first | ((with_reducible refine gate_callee (f := 120) rfl ?_); refine goesL_ (some 20) rfl rfl Try.func120 (by kernel_rfl) rfl #[.slice A1 l1.length c1] rfl (by (try simp only [List.map_toArray, List.map_cons, List.map_nil]); first | done | rfl | (simp only [List.length_drop, List.length_take]; rfl)) ?_; (with_reducible refine (spec_l28Letters.calls kj2 _ _ l1 t879 _ ?side1 ?side2 A9.out).mono ?_); (case side1 => repeat (first | exact (Kd.C_below HR1.out HB.out) | (with_reducible refine Kd.C_alloc ?_ _) | (with_reducible refine Kd.C_drewN ?_ _) | (with_reducible refine Kd.C_drew ?_))); (case side2 => exact HC1.out); rintro e w10 ⟨rfl, hb⟩; refine ⟨_, rfl, ?_⟩; have n0_ := Aside0.mk (blk_below (g := gb877) (o := .cells #[.int .i64 0, .slice none 0 0] 75 (0, 0)) (by (with_reducible repeat (first | refine blk_drewN ?_ _ | refine blk_drew ?_ | refine blk_alloc ?_ _)); exact BK877.out) hb); have n1_ := Aside0.mk (below_step (by repeat (first | (with_reducible first | exact HB.out | apply below_alloc | apply pw_below_drewN | apply below_drew1 | refine below_set ?_ GE877.out) | exact HB.out)) hb); clear BK877; clear HB; have BK877 := n0_; have HB := n1_; clear n0_ n1_; (try clear hb); (try clear hb2); (try clear hk); (try clear hi)))
    go_loopg [7] kj2 (fun kq v7 w' => ∃ (x7_2 : Int) (x878000_2 : Int), v7 = .int .i64 x7_2 ∧ Aside0 (spec_FindPattern.l0 kq l0 l1 t879 x7_2 = some (r1, r2, r3)) ∧ Aside0 (kq ≤ kj2) ∧ Aside0 (w'.heap[gb877]? = some (.cells #[.int .i64 x878000_2, (.slice none 0 0)] 75 (0, 0))) ∧ Aside0 (Below w.heap.size w w'))
    case atStart => exact ⟨(0), (0), (by first | rfl | (simp; done) | (simp [*]; done)), H', ⟨Nat.le_refl _⟩, ⟨by (with_reducible repeat (first | refine blk_drewN ?_ _ | refine blk_drew ?_ | refine blk_alloc ?_ _)); exact BK877.out⟩, ⟨by repeat (first | (with_reducible first | exact HB.out | apply below_alloc | apply pw_below_drewN | apply below_drew1 | refine below_set ?_ GE877.out) | exact HB.out)⟩⟩
    case round =>
     clear H'
     try clear c1
     try clear p2
     try clear c6
     try clear c7
     try clear hcz8_0
     try clear hcz8_1
     try clear hfz8_0
     try clear hfz8_1
     try clear p2
     obtain ⟨x7_2, x878000_2, rfl, HA, HK2, BK877, HB⟩ := hrel
     cases gk with
     | zero => exact absurd HA.out (by simp [spec_FindPattern.l0])
     | succ k2 =>
      have H := HA.out
      clear HA
      simp only [spec_FindPattern.l0] at H
      by_cases c11 : x7_2 < (l0.length : Int)
      ·rw [if_pos c11] at H
       have c11b0 : decide (x7_2 < (l0.length : Int)) = true := decide_eq_true c11
       clear c11
       obtain ⟨y880, hy880⟩ : ∃ y_ : List Int, y_ = (([1, 1, 1] : List Int)) := ⟨_, rfl⟩
       replace H : (spec_FindPattern.l1 k2 l0 l1 t879 x7_2 y880) = some (r1, r2, r3) := by first | (rw [hy880]; with_reducible exact H) | (have H2_ := (Option.bind_some _ _).symm.trans H; rw [hy880]; with_reducible exact H2_) | (have H2_ := (Option.bind_some _ _).symm.trans H; with_reducible exact H2_) | with_reducible exact H | (rw [hy880]; exact H) | exact H
       have Ny880 := Aside0.mk hy880
       clear hy880
       have H' := Aside0.mk H
       clear H
       go_wp2_with (first | ((with_reducible refine gate_dst (N := 27) rfl ?_); (try (refine gate_guard (by rfl) ?_; dsimp only)); refine Kd.R_lit (Kd.int .i64) _ 3 ?hg (N := 27) ?hd (xs := ([1, 1, 1] : List Int)) (inner := [.int .i64 1, .int .i64 1, .int .i64 1]) (ok := fun _ => True) (okp := fun _ => True) ?hr ?hp (fun _ hk => hk) trivial (Below.refl _ _) (Nat.le_refl _) (by simp) ?_; (case hd => rfl); (case hg => rfl); (case hr => first | (go_simp; done) | (go_simp; rfl)); (case hp => exact (Reps.one (show Kd.M (Kd.int .i64) _ _ _ 1 [.int .i64 1] from rfl) (Reps.one (show Kd.M (Kd.int .i64) _ _ _ 1 [.int .i64 1] from rfl) (Reps.one (show Kd.M (Kd.int .i64) _ _ _ 1 [.int .i64 1] from rfl) (Reps.none _ _))))); intro v881 w12 ho13 hb hg_ hnew_; clear hg_ hnew_; (first | rw [← Ny880.out] at ho13 | (simp only [Int.reduceToNat] at ho13; rw [← Ny880.out] at ho13)); have n0_ := Aside0.mk (Kd.R_lower ho13 (below_size (by repeat (first | (with_reducible first | exact HB.out | apply below_alloc | apply pw_below_drewN | apply below_drew1 | refine below_set ?_ GE877.out) | exact HB.out)))); have n1_ := Aside0.mk (blk_below (g := gb877) (o := .cells #[.int .i64 x878000_2, .slice none 0 0] 75 (0, 0)) (by (with_reducible repeat (first | refine blk_drewN ?_ _ | refine blk_drew ?_ | refine blk_alloc ?_ _)); exact BK877.out) hb); have n2_ := Aside0.mk (below_step (by repeat (first | (with_reducible first | exact HB.out | apply below_alloc | apply pw_below_drewN | apply below_drew1 | refine below_set ?_ GE877.out) | exact HB.out)) hb); clear BK877; clear HB; have HO882 := n0_; have BK877 := n1_; have HB := n2_; clear n0_ n1_ n2_; clear hb ho13))
       go_loopg [] k2 (fun kq w' => ∃ (x8_3 : List Int) (x878000_3 : Int), Aside0 (spec_FindPattern.l1 kq l0 l1 t879 x7_2 x8_3 = some (r1, r2, r3)) ∧ Aside0 (kq ≤ k2) ∧ Aside0 (Kd.R (Kd.int .i64) 3 w' w.heap.size (fun _ => True) v881 x8_3) ∧ Aside0 (w'.heap[gb877]? = some (.cells #[.int .i64 x878000_3, (.slice none 0 0)] 75 (0, 0))) ∧ Aside0 (Below w.heap.size w w'))
       case atStart => exact ⟨(y880), (x878000_2), H', ⟨Nat.le_refl _⟩, ⟨by (with_reducible repeat (first | apply Kd.R_alloc | apply Kd.R_drewN | apply Kd.R_drew)); exact HO882.out⟩, ⟨by (with_reducible repeat (first | refine blk_drewN ?_ _ | refine blk_drew ?_ | refine blk_alloc ?_ _)); exact BK877.out⟩, ⟨by repeat (first | (with_reducible first | exact HB.out | apply below_alloc | apply pw_below_drewN | apply below_drew1 | refine below_set ?_ GE877.out) | exact HB.out)⟩⟩
       case round =>
        clear H'
        try clear c1
        try clear p2
        try clear c6
        try clear c7
        try clear c11
        try clear c11b0
        try clear c12
        try clear hcz8_0
        try clear hcz8_1
        try clear hfz8_0
        try clear hfz8_1
        try clear p2
        obtain ⟨x8_3, x878000_3, HA, HK3, HO_8, BK877, HB⟩ := hrel
        cases gk with
        | zero => exact absurd HA.out (by simp [spec_FindPattern.l1])
        | succ k3 =>
         have H := HA.out
         clear HA
         simp only [spec_FindPattern.l1] at H
         by_cases c14 : 0 < (x8_3.length : Int)
         ·rw [if_pos c14] at H
          have c14b0 : decide (0 < (x8_3.length : Int)) = true := decide_eq_true c14
          have c14b1 : decide (0 < x8_3.length) = true := decide_eq_true (by omega)
          clear c14
          by_cases c15 : (rd x8_3 0) ≤ (l0.length : Int)
          ·rw [if_pos c15] at H
           have c15b0 : decide ((rd x8_3 0) ≤ (l0.length : Int)) = true := decide_eq_true c15
           clear c15
           by_cases c16 : 0 ≤ t879
           ·rw [if_pos c16] at H
            have c16b0 := eq_true c16
            have c16b1 : decide (0 ≤ t879) = true := decide_eq_true c16
            clear c16
            by_cases c17 : t879 ≤ (x8_3.length : Int)
            ·rw [if_pos c17] at H
             have c17b0 := eq_true c17
             have c17b1 : decide (t879 ≤ (x8_3.length : Int)) = true := decide_eq_true c17
             clear c17
             obtain ⟨y884, hy884⟩ : ∃ y_ : List Int, y_ = (x8_3.take (t879 : Int).toNat) := ⟨_, rfl⟩
             replace H : ((spec_MatchAt.f k3 l0 l1 x7_2 y884).bind fun t888 => (if t888 = true then ((some (([] : List Int) : List Int)).bind fun y889 => ((some (x8_3.take (t879 : Int).toNat : List Int)).bind fun y892 => (if y889.length + y892.length < 17592186044416 then (some (x7_2, (y889 ++ y892), true)) else (none)))) else (if 0 ≤ (wrap64 (t879 - 1)) then (if (wrap64 (t879 - 1)) < (x8_3.length : Int) then (spec_FindPattern.l2 k3 l0 l1 t879 x7_2 (x8_3.set ((wrap64 (t879 - 1)) : Int).toNat (wrap64 ((rd x8_3 (wrap64 (t879 - 1))) + 1))) (wrap64 (t879 - 1))) else (none)) else (none)))) = some (r1, r2, r3) := by first | (rw [hy884]; with_reducible exact H) | (have H2_ := (Option.bind_some _ _).symm.trans H; rw [hy884]; with_reducible exact H2_) | (have H2_ := (Option.bind_some _ _).symm.trans H; with_reducible exact H2_) | with_reducible exact H | (rw [hy884]; exact H) | exact H
             have Ny884 := Aside0.mk hy884
             clear hy884
             replace H := Option.bind_eq_some_iff.mp H
             obtain ⟨t888, A180, H⟩ := H
             replace H : (if t888 = true then ((some (([] : List Int) : List Int)).bind fun y889 => ((some (x8_3.take (t879 : Int).toNat : List Int)).bind fun y892 => (if y889.length + y892.length < 17592186044416 then (some (x7_2, (y889 ++ y892), true)) else (none)))) else (if 0 ≤ (wrap64 (t879 - 1)) then (if (wrap64 (t879 - 1)) < (x8_3.length : Int) then (spec_FindPattern.l2 k3 l0 l1 t879 x7_2 (x8_3.set ((wrap64 (t879 - 1)) : Int).toNat (wrap64 ((rd x8_3 (wrap64 (t879 - 1))) + 1))) (wrap64 (t879 - 1))) else (none)) else (none))) = some (r1, r2, r3) := H
             have A18 := Aside0.mk A180
             clear A180
             by_cases c19 : t888 = true
             ·subst c19
              have H1 : ((some (([] : List Int) : List Int)).bind fun y889 => ((some (x8_3.take (t879 : Int).toNat : List Int)).bind fun y892 => (if y889.length + y892.length < 17592186044416 then (some (x7_2, (y889 ++ y892), true)) else (none)))) = some (r1, r2, r3) := by rw [if_pos rfl] at H; exact H
              clear H
              have H := H1
              clear H1
              obtain ⟨y889, hy889⟩ : ∃ y_ : List Int, y_ = (([] : List Int)) := ⟨_, rfl⟩
              replace H : ((some (x8_3.take (t879 : Int).toNat : List Int)).bind fun y892 => (if y889.length + y892.length < 17592186044416 then (some (x7_2, (y889 ++ y892), true)) else (none))) = some (r1, r2, r3) := by first | (rw [hy889]; with_reducible exact H) | (have H2_ := (Option.bind_some _ _).symm.trans H; rw [hy889]; with_reducible exact H2_) | (have H2_ := (Option.bind_some _ _).symm.trans H; with_reducible exact H2_) | with_reducible exact H | (rw [hy889]; exact H) | exact H
              have Ny889 := Aside0.mk hy889
              clear hy889
              have c20b0 := eq_true (of_decide_eq_true (by first | (with_reducible assumption) | assumption) : 0 ≤ t879)
              have c21b0 := eq_true (of_decide_eq_true (by first | (with_reducible assumption) | assumption) : t879 ≤ (x8_3.length : Int))
              obtain ⟨y892, hy892⟩ : ∃ y_ : List Int, y_ = (x8_3.take (t879 : Int).toNat) := ⟨_, rfl⟩
              replace H : (if y889.length + y892.length < 17592186044416 then (some (x7_2, (y889 ++ y892), true)) else (none)) = some (r1, r2, r3) := by first | (rw [hy892]; with_reducible exact H) | (have H2_ := (Option.bind_some _ _).symm.trans H; rw [hy892]; with_reducible exact H2_) | (have H2_ := (Option.bind_some _ _).symm.trans H; with_reducible exact H2_) | with_reducible exact H | (rw [hy892]; exact H) | exact H
              have Ny892 := Aside0.mk hy892
              clear hy892
              by_cases c22 : y889.length + y892.length < 17592186044416
              ·rw [if_pos c22] at H
               have LMc22 := Aside0.mk c22
               clear c22
               obtain ⟨y896, hy896⟩ : ∃ y_ : List Int, y_ = (y889 ++ y892) := ⟨_, rfl⟩
               replace H : (some (x7_2, y896, true)) = some (r1, r2, r3) := by first | (rw [hy896]; with_reducible exact H) | (have H2_ := (Option.bind_some _ _).symm.trans H; rw [hy896]; with_reducible exact H2_) | (have H2_ := (Option.bind_some _ _).symm.trans H; with_reducible exact H2_) | with_reducible exact H | (rw [hy896]; exact H) | exact H
               have Ny896 := Aside0.mk hy896
               clear hy896
               simp only [Option.some.injEq, Prod.mk.injEq] at H
               obtain ⟨rfl, rfl, rfl⟩ := H
               obtain ⟨Ao23, co23, eo23⟩ := Kd.R_slice HO_8.out
               subst eo23
               have p883 : 0 ≤ (0 : Int) := (by omega)
               have q883 : 0 < (x8_3.length : Int) := of_decide_eq_true (by first | (with_reducible assumption) | assumption)
               obtain ⟨ad883, e883, hx883_0⟩ := Kd.at_int (Kd.R_reads' HO_8.out).2.2 0 p883 q883
               cases e883
               have qi883 : (0 < x8_3.length) = True := eq_true (by omega)
               (try rw [show ((0 : Int)).toNat = 0 from rfl] at hx883_0)
               (try rw [Addr.add_zero'] at hx883_0)
               replace p883 := eq_true p883
               replace q883 := eq_true q883
               have q24 : (t879 : Int) ≤ ((x8_3.length : Int) : Int) := of_decide_eq_true (by first | (with_reducible assumption) | assumption)
               obtain ⟨i024, hi024, _, hsz24, _⟩ := info_parts info3
               have hroom24 : x8_3.length ≤ co23 := (Kd.R_reads' HO_8.out).2.1
               have hC24 : Kd.C (Kd.int .i64) _ (some ad883) x8_3.length x8_3 := (Kd.R_reads' HO_8.out).2.2
               have hcut24 := cut_to (P := Try.prog) 22 3 .i64 Try.underlying22 hi024 (some ad883) x8_3.length co23 t879 (of_decide_eq_true (by first | (with_reducible assumption) | assumption)) q24 hroom24
               have hr24 := Kd.C_take (m := (t879 : Int).toNat) hC24 (by omega)
               have hy24 : y884.length = (t879 : Int).toNat := (by rw [Ny884.out, List.length_take]; omega)
               rw [← Ny884.out] at hr24
               rw [← hy24] at hcut24
               have HR887 := Aside0.mk hr24
               have HC887 := Aside0.mk (show y884.length ≤ co23 from by omega)
               clear hr24 hC24 hroom24 hi024 hsz24
               have KY24 := Aside0.mk hy24
               clear hy24
               have KL24 := Aside0.mk (show (t879 : Int).toNat ≤ x8_3.length from by omega)
               replace q24 := eq_true q24
               go_wp2_with (first | ((with_reducible refine gate_callee (f := 71) rfl ?_); refine goesL_ (some 40) rfl rfl Try.func71 (by kernel_rfl) rfl #[.slice A0 l0.length c0, .slice A1 l1.length c1, .int .i64 x7_2, .slice (some ad883) y884.length co23] rfl (by (try simp only [List.map_toArray, List.map_cons, List.map_nil]); first | done | rfl | (simp only [List.length_drop, List.length_take]; rfl)) ?_; (with_reducible refine (spec_MatchAt.calls k3 _ _ l0 _ _ l1 x7_2 _ _ y884 true _ ?side1 ?side2 ?side3 ?side4 ?side5 ?side6 A18.out).mono ?_); (case side1 => repeat (first | exact (Kd.C_below HR0.out HB.out) | (with_reducible refine Kd.C_alloc ?_ _) | (with_reducible refine Kd.C_drewN ?_ _) | (with_reducible refine Kd.C_drew ?_))); (case side2 => exact HC0.out); (case side3 => repeat (first | exact (Kd.C_below HR1.out HB.out) | (with_reducible refine Kd.C_alloc ?_ _) | (with_reducible refine Kd.C_drewN ?_ _) | (with_reducible refine Kd.C_drew ?_))); (case side4 => exact HC1.out); (case side5 => repeat (first | exact (by repeat (first | (with_reducible exact HR887.out) | (with_reducible refine Kd.C_alloc ?_ _) | (with_reducible refine Kd.C_drewN ?_ _) | (with_reducible refine Kd.C_drew ?_) | exact HR887.out)) | (with_reducible refine Kd.C_alloc ?_ _) | (with_reducible refine Kd.C_drewN ?_ _) | (with_reducible refine Kd.C_drew ?_))); (case side6 => exact HC887.out); rintro e w25 ⟨rfl, hb⟩; refine ⟨_, rfl, ?_⟩; have n0_ := Aside0.mk (Kd.R_below (by (with_reducible repeat (first | apply Kd.R_alloc | apply Kd.R_drewN | apply Kd.R_drew)); exact HO_8.out) hb); have n1_ := Aside0.mk (blk_below (g := gb877) (o := .cells #[.int .i64 x878000_3, .slice none 0 0] 75 (0, 0)) (by (with_reducible repeat (first | refine blk_drewN ?_ _ | refine blk_drew ?_ | refine blk_alloc ?_ _)); exact BK877.out) hb); have n2_ := Aside0.mk (Kd.C_below (by repeat (first | (with_reducible exact HR887.out) | (with_reducible refine Kd.C_alloc ?_ _) | (with_reducible refine Kd.C_drewN ?_ _) | (with_reducible refine Kd.C_drew ?_) | exact HR887.out)) hb); have n3_ := Aside0.mk (below_step (by repeat (first | (with_reducible first | exact HB.out | apply below_alloc | apply pw_below_drewN | apply below_drew1 | refine below_set ?_ GE877.out) | exact HB.out)) hb); clear HO_8; clear BK877; clear HR887; clear HB; have HO_8 := n0_; have BK877 := n1_; have HR887 := n2_; have HB := n3_; clear n0_ n1_ n2_ n3_; (try clear hb); (try clear hb2); (try clear hk); (try clear hi)) | ((with_reducible refine gate_dst (N := 42) rfl ?_); (try (refine gate_guard (by rfl) ?_; dsimp only)); refine Kd.R_lit (Kd.int .i64) _ 3 ?hg (N := 42) ?hd (xs := ([] : List Int)) (inner := []) (ok := fun _ => True) (okp := fun _ => True) ?hr ?hp (fun _ hk => hk) trivial (Below.refl _ _) (Nat.le_refl _) (by simp) ?_; (case hd => rfl); (case hg => rfl); (case hr => first | (go_simp; done) | (go_simp; rfl)); (case hp => exact (Reps.none _ _)); intro v890 w26 ho27 hb hg_ hnew_; clear hg_ hnew_; (first | rw [← Ny889.out] at ho27 | (simp only [Int.reduceToNat] at ho27; rw [← Ny889.out] at ho27)); have n0_ := Aside0.mk (Kd.R_elder' (by (with_reducible repeat (first | apply Kd.R_alloc | apply Kd.R_drewN | apply Kd.R_drew)); exact HO_8.out) (Kd.R_base ho27) hb); have n1_ := Aside0.mk (Kd.R_lower (Kd.R_new' ho27 (Kd.R_lt (by (with_reducible repeat (first | apply Kd.R_alloc | apply Kd.R_drewN | apply Kd.R_drew)); exact HO_8.out))) (below_size (by repeat (first | (with_reducible first | exact HB.out | apply below_alloc | apply pw_below_drewN | apply below_drew1 | refine below_set ?_ GE877.out) | exact HB.out)))); have n2_ := Aside0.mk (blk_below (g := gb877) (o := .cells #[.int .i64 x878000_3, .slice none 0 0] 75 (0, 0)) (by (with_reducible repeat (first | refine blk_drewN ?_ _ | refine blk_drew ?_ | refine blk_alloc ?_ _)); exact BK877.out) hb); have n3_ := Aside0.mk (Kd.C_below (by repeat (first | (with_reducible exact HR887.out) | (with_reducible refine Kd.C_alloc ?_ _) | (with_reducible refine Kd.C_drewN ?_ _) | (with_reducible refine Kd.C_drew ?_) | exact HR887.out)) hb); have n4_ := Aside0.mk (below_step (by repeat (first | (with_reducible first | exact HB.out | apply below_alloc | apply pw_below_drewN | apply below_drew1 | refine below_set ?_ GE877.out) | exact HB.out)) hb); clear HO_8; clear BK877; clear HR887; clear HB; have HO_8 := n0_; have HO891 := n1_; have BK877 := n2_; have HR887 := n3_; have HB := n4_; clear n0_ n1_ n2_ n3_ n4_; clear hb ho27; have q28 : (t879 : Int) ≤ ((x8_3.length : Int) : Int) := of_decide_eq_true (by first | (with_reducible assumption) | assumption); obtain ⟨i028, hi028, _, hsz28, _⟩ := info_parts info3; have hroom28 : x8_3.length ≤ co23 := (Kd.R_reads' HO_8.out).2.1; have hC28 : Kd.C (Kd.int .i64) _ (some ad883) x8_3.length x8_3 := (Kd.R_reads' HO_8.out).2.2; (try clear hcut24); have hcut28 := cut_to (P := Try.prog) 22 3 .i64 Try.underlying22 hi028 (some ad883) x8_3.length co23 t879 (of_decide_eq_true (by first | (with_reducible assumption) | assumption)) q28 hroom28; have hr28 := Kd.C_take (m := (t879 : Int).toNat) hC28 (by omega); have hy28 : y892.length = (t879 : Int).toNat := (by rw [Ny892.out, List.length_take]; omega); rw [← Ny892.out] at hr28; rw [← hy28] at hcut28; have HR895 := Aside0.mk hr28; have HC895 := Aside0.mk (show y892.length ≤ co23 from by omega); clear hr28 hC28 hroom28 hi028 hsz28; have KY28 := Aside0.mk hy28; clear hy28; have KL28 := Aside0.mk (show (t879 : Int).toNat ≤ x8_3.length from by omega); replace q28 := eq_true q28) | ((with_reducible refine gate_builtin (b := .append) (xs := #[.tmp 42, .tmp 45]) rfl ?_); (try (refine gate_guard (by rfl) ?_; dsimp only)); at_builtin; refine Kd.R_append_rows (Kd.int .i64) (w0 := w) w.heap.size rfl (.tmp 42) (.tmp 45) 22 3 (.int .i64 0) 8 rfl Try.underlying22 info3 rfl (by decide) (by omega) v890 y889 y892 _ _ _ (fun k_ => some k_ ≠ (.slice (some ad883) x8_3.length co23 : Value).ownBlock) (fun _ => False) rfl rfl ?aO ?aR (fun _ _ h => h) (fun _ h => h.elim) ?aF ?aB ?aS ?aL ?_; (case aR => repeat (first | exact (by repeat (first | (with_reducible exact HR895.out) | (with_reducible refine Kd.C_alloc ?_ _) | (with_reducible refine Kd.C_drewN ?_ _) | (with_reducible refine Kd.C_drew ?_) | exact HR895.out)) | (with_reducible refine Kd.C_alloc ?_ _) | (with_reducible refine Kd.C_drewN ?_ _) | (with_reducible refine Kd.C_drew ?_))); (case aB => exact (by repeat (first | (with_reducible first | exact HB.out | apply below_alloc | apply pw_below_drewN | apply below_drew1 | refine below_set ?_ GE877.out) | exact HB.out))); (case aF => exact (fun k_ hk => Kd.fresh' (Kd.R_lt (by (with_reducible repeat (first | apply Kd.R_alloc | apply Kd.R_drewN | apply Kd.R_drew)); exact HO_8.out)) k_ hk)); (case aO => exact (by (with_reducible repeat (first | apply Kd.R_alloc | apply Kd.R_drewN | apply Kd.R_drew)); exact Kd.R_mono HO891.out (fun _ hk => hk.2))); (case aS => exact (below_size (by repeat (first | (with_reducible first | exact HB.out | apply below_alloc | apply pw_below_drewN | apply below_drew1 | refine below_set ?_ GE877.out) | exact HB.out)))); (case aL => have := LMc22.out; omega); intro v897 w29 ho hb hg hat; rw [← Ny896.out] at ho; have n0_ := Aside0.mk (Kd.R_after (ok := (fun _ => True)) (by (with_reducible repeat (first | apply Kd.R_alloc | apply Kd.R_drewN | apply Kd.R_drew)); exact HO_8.out) hg hat); have n1_ := Aside0.mk (blk_grown (g := gb877) (o := .cells #[.int .i64 x878000_3, .slice none 0 0] 75 (0, 0)) (by (with_reducible repeat (first | refine blk_drewN ?_ _ | refine blk_drew ?_ | refine blk_alloc ?_ _)); exact BK877.out) hg (Kd.R_ne HO891.out BK877.out (by decide))); have n2_ := Aside0.mk (hb); have n3_ := Aside0.mk ((show Kd.C (Kd.int .i64) w29 (some ad883) y884.length y884 from by rw [Ny884.out]; exact Kd.C_take (m := (t879 : Int).toNat) ((Kd.R_reads' (Kd.R_after (ok := (fun _ => True)) (by (with_reducible repeat (first | apply Kd.R_alloc | apply Kd.R_drewN | apply Kd.R_drew)); exact HO_8.out) hg hat)).2.2) KL24.out)); have n4_ := Aside0.mk ((show Kd.C (Kd.int .i64) w29 (some ad883) y892.length y892 from by rw [Ny892.out]; exact Kd.C_take (m := (t879 : Int).toNat) ((Kd.R_reads' (Kd.R_after (ok := (fun _ => True)) (by (with_reducible repeat (first | apply Kd.R_alloc | apply Kd.R_drewN | apply Kd.R_drew)); exact HO_8.out) hg hat)).2.2) KL28.out)); have n5_ := Aside0.mk (ho); clear HO_8; clear BK877; clear HB; clear HR887; clear HR895; clear HO891; have HO_8 := n0_; have BK877 := n1_; have HB := n2_; have HR887 := n3_; have HR895 := n4_; have HO898 := n5_; clear n0_ n1_ n2_ n3_ n4_ n5_; clear ho hb hg hat; obtain ⟨Ao30, co30, eo30⟩ := Kd.R_slice HO898.out; subst eo30; have hcz31_0 : w29.cell? ⟨gb877, 0, none⟩ = some (.int .i64 x878000_3) := (blk_cell BK877.out 0).trans rfl; have hcz31_1 : w29.cell? ⟨gb877, 1, none⟩ = some (.slice none 0 0) := (blk_cell BK877.out 1).trans rfl; have hfz31_0 := blk_frozen BK877.out 0; have hfz31_1 := blk_frozen BK877.out 1))
               refine bodyPost_ret (results_ct rfl _ _ gb877 75 #[.int .i64 x7_2, .slice Ao30 y896.length co30] (0, 0) _ rfl (by (with_reducible repeat (first | refine blk_drewN ?_ _ | refine blk_drew ?_ | refine blk_alloc ?_ _)); refine blk_put (cs := #[.int .i64 x7_2, .slice none 0 0]) ?_ 1 _ rfl; (with_reducible repeat (first | refine blk_drewN ?_ _ | refine blk_drew ?_ | refine blk_alloc ?_ _)); refine blk_put (cs := #[.int .i64 x878000_3, .slice none 0 0]) ?_ 0 _ rfl; (with_reducible repeat (first | refine blk_drewN ?_ _ | refine blk_drew ?_ | refine blk_alloc ?_ _)); exact BK877.out) Try.underlying75 rfl (by kernel_rfl)) rfl ?_
               exact ⟨_, by first | rfl | (simp [errW_none, errW_some] <;> rfl) | (simp [*, errW_none, errW_some] <;> rfl), by (with_reducible repeat (first | apply Kd.R_alloc | apply Kd.R_drewN | apply Kd.R_drew)); exact Kd.R_mono (Kd.R_far (p := ⟨gb877, 1, none⟩) (Kd.R_far (p := ⟨gb877, 0, none⟩) (Kd.R_types HO898.out BK877.out (by decide)) (fun _ hk => hk.2) (.int .i64 x7_2)) (fun _ hk => hk.2) (.slice Ao30 y896.length co30)) (fun _ hk => trivial), by repeat (first | (with_reducible first | exact HB.out | apply below_alloc | apply pw_below_drewN | apply below_drew1 | refine below_set ?_ GE877.out) | exact HB.out)⟩
              ·rw [if_neg c22] at H
               exact absurd H (by simp)
             ·replace c19 := Bool.eq_false_iff.mpr c19
              subst c19
              have H1 : (if 0 ≤ (wrap64 (t879 - 1)) then (if (wrap64 (t879 - 1)) < (x8_3.length : Int) then (spec_FindPattern.l2 k3 l0 l1 t879 x7_2 (x8_3.set ((wrap64 (t879 - 1)) : Int).toNat (wrap64 ((rd x8_3 (wrap64 (t879 - 1))) + 1))) (wrap64 (t879 - 1))) else (none)) else (none)) = some (r1, r2, r3) := by rw [if_neg (show ¬ (false = true) by decide)] at H; exact H
              clear H
              have H := H1
              clear H1
              obtain ⟨ji32, hji32⟩ : ∃ j_ : Int, (wrap64 (t879 - 1)) = j_ := ⟨_, rfl⟩
              replace H : (if 0 ≤ (ji32) then (if (ji32) < (x8_3.length : Int) then (spec_FindPattern.l2 k3 l0 l1 t879 x7_2 (x8_3.set ((ji32) : Int).toNat (wrap64 ((rd x8_3 (ji32)) + 1))) ji32) else (none)) else (none)) = some (r1, r2, r3) := by first | (rw [hji32] at H; exact H) | (simp only [hji32] at H ⊢; exact H)
              (try rw [hji32] at A18)
              have hji32w : (IntKind.i64.wrap (t879 - 1)) = ji32 := (i64_w _).trans hji32
              by_cases c33 : 0 ≤ (ji32)
              ·rw [if_pos c33] at H
               have c33b0 : decide (0 ≤ (ji32)) = true := decide_eq_true c33
               clear c33
               by_cases c34 : (ji32) < (x8_3.length : Int)
               ·rw [if_pos c34] at H
                have c34b0 : decide ((ji32) < (x8_3.length : Int)) = true := decide_eq_true c34
                clear c34
                obtain ⟨y900, hy900⟩ : ∃ y_ : List Int, y_ = (x8_3.set ((ji32) : Int).toNat (wrap64 ((rd x8_3 (ji32)) + 1))) := ⟨_, rfl⟩
                replace H : (spec_FindPattern.l2 k3 l0 l1 t879 x7_2 y900 ji32) = some (r1, r2, r3) := by first | (rw [hy900]; with_reducible exact H) | (have H2_ := (Option.bind_some _ _).symm.trans H; rw [hy900]; with_reducible exact H2_) | (have H2_ := (Option.bind_some _ _).symm.trans H; with_reducible exact H2_) | with_reducible exact H | (rw [hy900]; exact H) | exact H
                have Ny900 := Aside0.mk hy900
                clear hy900
                have H' := Aside0.mk H
                clear H
                obtain ⟨Ao36, co36, eo36⟩ := Kd.R_slice HO_8.out
                subst eo36
                have p883 : 0 ≤ (0 : Int) := (by omega)
                have q883 : 0 < (x8_3.length : Int) := of_decide_eq_true (by first | (with_reducible assumption) | assumption)
                obtain ⟨ad883, e883, hx883_0⟩ := Kd.at_int (Kd.R_reads' HO_8.out).2.2 0 p883 q883
                cases e883
                have qi883 : (0 < x8_3.length) = True := eq_true (by omega)
                (try rw [show ((0 : Int)).toNat = 0 from rfl] at hx883_0)
                (try rw [Addr.add_zero'] at hx883_0)
                replace p883 := eq_true p883
                replace q883 := eq_true q883
                have q37 : (t879 : Int) ≤ ((x8_3.length : Int) : Int) := of_decide_eq_true (by first | (with_reducible assumption) | assumption)
                obtain ⟨i037, hi037, _, hsz37, _⟩ := info_parts info3
                have hroom37 : x8_3.length ≤ co36 := (Kd.R_reads' HO_8.out).2.1
                have hC37 : Kd.C (Kd.int .i64) _ (some ad883) x8_3.length x8_3 := (Kd.R_reads' HO_8.out).2.2
                have hcut37 := cut_to (P := Try.prog) 22 3 .i64 Try.underlying22 hi037 (some ad883) x8_3.length co36 t879 (of_decide_eq_true (by first | (with_reducible assumption) | assumption)) q37 hroom37
                have hr37 := Kd.C_take (m := (t879 : Int).toNat) hC37 (by omega)
                have hy37 : y884.length = (t879 : Int).toNat := (by rw [Ny884.out, List.length_take]; omega)
                rw [← Ny884.out] at hr37
                rw [← hy37] at hcut37
                have HR887 := Aside0.mk hr37
                have HC887 := Aside0.mk (show y884.length ≤ co36 from by omega)
                clear hr37 hC37 hroom37 hi037 hsz37
                have KY37 := Aside0.mk hy37
                clear hy37
                have KL37 := Aside0.mk (show (t879 : Int).toNat ≤ x8_3.length from by omega)
                replace q37 := eq_true q37
                go_wp2_with (first | ((with_reducible refine gate_callee (f := 71) rfl ?_); refine goesL_ (some 40) rfl rfl Try.func71 (by kernel_rfl) rfl #[.slice A0 l0.length c0, .slice A1 l1.length c1, .int .i64 x7_2, .slice (some ad883) y884.length co36] rfl (by (try simp only [List.map_toArray, List.map_cons, List.map_nil]); first | done | rfl | (simp only [List.length_drop, List.length_take]; rfl)) ?_; (with_reducible refine (spec_MatchAt.calls k3 _ _ l0 _ _ l1 x7_2 _ _ y884 false _ ?side1 ?side2 ?side3 ?side4 ?side5 ?side6 A18.out).mono ?_); (case side1 => repeat (first | exact (Kd.C_below HR0.out HB.out) | (with_reducible refine Kd.C_alloc ?_ _) | (with_reducible refine Kd.C_drewN ?_ _) | (with_reducible refine Kd.C_drew ?_))); (case side2 => exact HC0.out); (case side3 => repeat (first | exact (Kd.C_below HR1.out HB.out) | (with_reducible refine Kd.C_alloc ?_ _) | (with_reducible refine Kd.C_drewN ?_ _) | (with_reducible refine Kd.C_drew ?_))); (case side4 => exact HC1.out); (case side5 => repeat (first | exact (by repeat (first | (with_reducible exact HR887.out) | (with_reducible refine Kd.C_alloc ?_ _) | (with_reducible refine Kd.C_drewN ?_ _) | (with_reducible refine Kd.C_drew ?_) | exact HR887.out)) | (with_reducible refine Kd.C_alloc ?_ _) | (with_reducible refine Kd.C_drewN ?_ _) | (with_reducible refine Kd.C_drew ?_))); (case side6 => exact HC887.out); rintro e w38 ⟨rfl, hb⟩; refine ⟨_, rfl, ?_⟩; have n0_ := Aside0.mk (Kd.R_below (by (with_reducible repeat (first | apply Kd.R_alloc | apply Kd.R_drewN | apply Kd.R_drew)); exact HO_8.out) hb); have n1_ := Aside0.mk (blk_below (g := gb877) (o := .cells #[.int .i64 x878000_3, .slice none 0 0] 75 (0, 0)) (by (with_reducible repeat (first | refine blk_drewN ?_ _ | refine blk_drew ?_ | refine blk_alloc ?_ _)); exact BK877.out) hb); have n2_ := Aside0.mk (Kd.C_below (by repeat (first | (with_reducible exact HR887.out) | (with_reducible refine Kd.C_alloc ?_ _) | (with_reducible refine Kd.C_drewN ?_ _) | (with_reducible refine Kd.C_drew ?_) | exact HR887.out)) hb); have n3_ := Aside0.mk (below_step (by repeat (first | (with_reducible first | exact HB.out | apply below_alloc | apply pw_below_drewN | apply below_drew1 | refine below_set ?_ GE877.out) | exact HB.out)) hb); clear HO_8; clear BK877; clear HR887; clear HB; have HO_8 := n0_; have BK877 := n1_; have HR887 := n2_; have HB := n3_; clear n0_ n1_ n2_ n3_; (try clear hb); (try clear hb2); (try clear hk); (try clear hi); have p899 : 0 ≤ ((ji32) : Int) := of_decide_eq_true (by first | (with_reducible assumption) | assumption); have q899 : (ji32) < (x8_3.length : Int) := of_decide_eq_true (by first | (with_reducible assumption) | assumption); obtain ⟨ad899, e899, hx899_0⟩ := Kd.at_int (Kd.R_reads' HO_8.out).2.2 (ji32) p899 q899; obtain rfl : ad883 = ad899 := (by injection e899); replace p899 := eq_true p899; replace q899 := eq_true q899; have p35 : 0 ≤ ((ji32) : Int) := of_decide_eq_true (by first | (with_reducible assumption) | assumption); have q35 : ((ji32) : Int) < ((x8_3.length : Int) : Int) := of_decide_eq_true (by first | (with_reducible assumption) | assumption); obtain ⟨go35, co35, eo35, gb35, gl35, cl35, HG35⟩ := Kd.R_form HO_8.out (by omega); (first | cases eo35 | (injection eo35 with ea_ en_ ec_; (first | subst ea_ | (injection ea_ with ea_; subst ea_)); subst ec_; clear en_)); have GB35 := Aside0.mk gb35; have GG35 := Aside0.mk HG35; clear gb35 gl35 HG35; (first | simp only [add_plain] at hx883_0 | skip); (first | simp only [add_plain] at hx899_0 | skip); obtain ⟨hx35_0, hf35_0⟩ := Kd.R_celln 0 HO_8.out ((ji32) : Int) p35 q35; replace p35 := eq_true p35; replace q35 := eq_true q35; obtain ⟨hy39_, hz39_⟩ := Kd.R_celln 0 HO_8.out ((ji32) : Int) (of_decide_eq_true (by first | (with_reducible assumption) | assumption)) (of_decide_eq_true (by first | (with_reducible assumption) | assumption)); have HP39 := Kd.R_putg HO_8.out ((ji32) : Int) (wrap64 ((rd x8_3 (ji32)) + 1))) | ((with_reducible refine gate_store (t := 3) (p := 57) rfl ?_); refine store_event (t := 3) (p := 57) (v := ?vo_w40) (w1 := (w38.setCell ⟨go35, ((ji32) : Int).toNat, none⟩ (.int .i64 (wrap64 ((rd x8_3 (ji32)) + 1))))) ?hg ?ho ?hn ?hr ?_; (case ho => rfl); (case hg => rfl); (case hn => rfl); (case hr => first | (go_simp; done) | (go_simp; rfl)); intro w40 hw; have hg : w38.grownBy w40 (some go35) := (by rw [hw]; exact HP39.2); have hp_ : Kd.R (Kd.int .i64) 3 w40 w.heap.size (fun _ => True) (.slice (some ⟨go35, 0, none⟩) x8_3.length co36) y900 := (by rw [hw, Ny900.out]; exact HP39.1); clear HP39; have n0_ := Aside0.mk (hp_); have n1_ := Aside0.mk (blk_grown (g := gb877) (o := .cells #[.int .i64 x878000_3, .slice none 0 0] 75 (0, 0)) (by (with_reducible repeat (first | refine blk_drewN ?_ _ | refine blk_drew ?_ | refine blk_alloc ?_ _)); exact BK877.out) hg (Kd.R_ne HO_8.out BK877.out (by decide))); have n2_ := Aside0.mk ((by rw [hw]; exact below_set (HB.out) GB35.out : Below w.heap.size w w40)); clear HO_8; clear BK877; clear HB; have HO_8 := n0_; have BK877 := n1_; have HB := n2_; clear n0_ n1_ n2_; clear hg hw hp_))
                go_loopg [9] k3 (fun kq v9 w' => ∃ (x8_4 : List Int) (x9_4 : Int), v9 = .int .i64 x9_4 ∧ Aside0 (spec_FindPattern.l2 kq l0 l1 t879 x7_2 x8_4 x9_4 = some (r1, r2, r3)) ∧ Aside0 (kq ≤ k3) ∧ Aside0 (Kd.R (Kd.int .i64) 3 w' w.heap.size (fun _ => True) (.slice (some ⟨go35, 0, none⟩) x8_3.length co36) x8_4) ∧ Aside0 (w'.heap[gb877]? = some (.cells #[.int .i64 x878000_3, (.slice none 0 0)] 75 (0, 0))) ∧ Aside0 (Below w.heap.size w w'))
                case atStart => exact ⟨(y900), (ji32), (by first | rfl | (simp; done) | (simp only [← hji32] <;> (first | rfl | simp)) | (simp [*]; done)), H', ⟨Nat.le_refl _⟩, ⟨by (with_reducible repeat (first | apply Kd.R_alloc | apply Kd.R_drewN | apply Kd.R_drew)); exact HO_8.out⟩, ⟨by (with_reducible repeat (first | refine blk_drewN ?_ _ | refine blk_drew ?_ | refine blk_alloc ?_ _)); exact BK877.out⟩, ⟨by repeat (first | (with_reducible first | exact HB.out | apply below_alloc | apply pw_below_drewN | apply below_drew1 | refine below_set ?_ GE877.out) | exact HB.out)⟩⟩
                case round =>
                 clear H'
                 try clear c1
                 try clear c2
                 try clear p2
                 try clear q2
                 try clear c3
                 try clear p3
                 try clear q3
                 try clear hx3
                 try clear hf3
                 try clear c6
                 try clear p6
                 try clear c7
                 try clear p8
                 try clear q8
                 try clear hx8
                 try clear qi8
                 try clear c11
                 try clear c11b0
                 try clear c12
                 try clear c14
                 try clear c14b0
                 try clear c14b1
                 try clear c15
                 try clear c15b0
                 try clear c16
                 try clear c16b0
                 try clear c16b1
                 try clear c17
                 try clear c17b0
                 try clear c17b1
                 try clear c19
                 try clear c20
                 try clear c20b0
                 try clear c21
                 try clear c21b0
                 try clear c22
                 try clear q24
                 try clear q28
                 try clear c33
                 try clear c33b0
                 try clear c34
                 try clear c34b0
                 try clear p35
                 try clear q35
                 try clear hx35
                 try clear hf35
                 try clear q37
                 try clear hcz31_0
                 try clear hcz31_1
                 try clear hcz8_0
                 try clear hcz8_1
                 try clear hfz31_0
                 try clear hfz31_1
                 try clear hfz8_0
                 try clear hfz8_1
                 try clear hx35_0
                 try clear hx883_0
                 try clear hx899_0
                 try clear p2
                 try clear p35
                 try clear p883
                 try clear p899
                 try clear q24
                 try clear q28
                 try clear q35
                 try clear q37
                 try clear q883
                 try clear q899
                 obtain ⟨x8_4, x9_4, rfl, HA, HK4, HO_8, BK877, HB⟩ := hrel
                 have hl8_4 := (Kd.R_reads' HO_8.out).1
                 rw [hl8_4] at HO_8
                 (try simp only [hl8_4])
                 (try simp only [hl8_4] at BK877)
                 cases gk with
                 | zero => exact absurd HA.out (by simp [spec_FindPattern.l2])
                 | succ k4 =>
                  have H := HA.out
                  clear HA
                  simp only [spec_FindPattern.l2] at H
                  by_cases c41 : x9_4 > 0
                  ·rw [if_pos c41] at H
                   have c41b0 : decide (0 < x9_4) = true := decide_eq_true c41
                   clear c41
                   by_cases c42 : 0 ≤ x9_4
                   ·rw [if_pos c42] at H
                    have c42b0 : decide (0 ≤ x9_4) = true := decide_eq_true c42
                    clear c42
                    by_cases c43 : x9_4 < (x8_4.length : Int)
                    ·rw [if_pos c43] at H
                     have c43b0 : decide (x9_4 < (x8_4.length : Int)) = true := decide_eq_true c43
                     clear c43
                     (try simp only [hl8_4] at c43b0)
                     by_cases c44 : (rd x8_4 x9_4) > (l0.length : Int)
                     ·rw [if_pos c44] at H
                      have c44b0 : decide ((l0.length : Int) < (rd x8_4 x9_4)) = true := decide_eq_true c44
                      clear c44
                      (try simp only [hl8_4] at c44b0)
                      obtain ⟨y902, hy902⟩ : ∃ y_ : List Int, y_ = (x8_4.set (x9_4 : Int).toNat 1) := ⟨_, rfl⟩
                      replace H : (if 0 ≤ (wrap64 (x9_4 - 1)) then (if (wrap64 (x9_4 - 1)) < (x8_4.length : Int) then (spec_FindPattern.l2 k4 l0 l1 t879 x7_2 (y902.set ((wrap64 (x9_4 - 1)) : Int).toNat (wrap64 ((rd y902 (wrap64 (x9_4 - 1))) + 1))) (wrap64 (x9_4 - 1))) else (none)) else (none)) = some (r1, r2, r3) := by first | (rw [hy902]; with_reducible exact H) | (have H2_ := (Option.bind_some _ _).symm.trans H; rw [hy902]; with_reducible exact H2_) | (have H2_ := (Option.bind_some _ _).symm.trans H; with_reducible exact H2_) | with_reducible exact H | (rw [hy902]; exact H) | exact H
                      have Ny902 := Aside0.mk hy902
                      clear hy902
                      obtain ⟨ji46, hji46⟩ : ∃ j_ : Int, (wrap64 (x9_4 - 1)) = j_ := ⟨_, rfl⟩
                      replace H : (if 0 ≤ (ji46) then (if (ji46) < (x8_4.length : Int) then (spec_FindPattern.l2 k4 l0 l1 t879 x7_2 (y902.set ((ji46) : Int).toNat (wrap64 ((rd y902 (ji46)) + 1))) ji46) else (none)) else (none)) = some (r1, r2, r3) := by first | (rw [hji46] at H; exact H) | (simp only [hji46] at H ⊢; exact H)
                      have hji46w : (IntKind.i64.wrap (x9_4 - 1)) = ji46 := (i64_w _).trans hji46
                      by_cases c47 : 0 ≤ (ji46)
                      ·rw [if_pos c47] at H
                       have c47b0 : decide (0 ≤ (ji46)) = true := decide_eq_true c47
                       clear c47
                       by_cases c48 : (ji46) < (x8_4.length : Int)
                       ·rw [if_pos c48] at H
                        have c48b0 : decide ((ji46) < (x8_4.length : Int)) = true := decide_eq_true c48
                        clear c48
                        (try simp only [hl8_4] at c48b0)
                        obtain ⟨y904, hy904⟩ : ∃ y_ : List Int, y_ = (y902.set ((ji46) : Int).toNat (wrap64 ((rd y902 (ji46)) + 1))) := ⟨_, rfl⟩
                        replace H : (spec_FindPattern.l2 k4 l0 l1 t879 x7_2 y904 ji46) = some (r1, r2, r3) := by first | (rw [hy904]; with_reducible exact H) | (have H2_ := (Option.bind_some _ _).symm.trans H; rw [hy904]; with_reducible exact H2_) | (have H2_ := (Option.bind_some _ _).symm.trans H; with_reducible exact H2_) | with_reducible exact H | (rw [hy904]; exact H) | exact H
                        have Ny904 := Aside0.mk hy904
                        clear hy904
                        have H' := Aside0.mk H
                        clear H
                        have p901 : 0 ≤ (x9_4 : Int) := of_decide_eq_true (by first | (with_reducible assumption) | assumption)
                        have q901 : x9_4 < (x8_4.length : Int) := of_decide_eq_true (by first | (with_reducible assumption) | assumption)
                        obtain ⟨ad901, e901, hx901_0⟩ := Kd.at_int (Kd.R_reads' HO_8.out).2.2 x9_4 p901 q901
                        obtain rfl : (⟨go35, 0, none⟩ : Addr) = ad901 := (by injection e901)
                        (first | simp only [add_plain] at hx901_0 | simp only [add_at] at hx901_0 | simp only [Addr.add, Nat.zero_add] at hx901_0 | skip)
                        replace p901 := eq_true p901
                        replace q901 := eq_true q901
                        have p45 : 0 ≤ (x9_4 : Int) := of_decide_eq_true (by first | (with_reducible assumption) | assumption)
                        have q45 : (x9_4 : Int) < ((x8_4.length : Int) : Int) := of_decide_eq_true (by first | (with_reducible assumption) | assumption)
                        obtain ⟨hx45_0, hf45_0⟩ := Kd.R_celln 0 HO_8.out (x9_4 : Int) p45 q45
                        replace p45 := eq_true p45
                        replace q45 := eq_true q45
                        have HP50 := Kd.R_putg HO_8.out (x9_4 : Int) 1
                        go_wp2_with (first | ((with_reducible refine gate_store (t := 3) (p := 71) rfl ?_); refine store_event (t := 3) (p := 71) (v := ?vo_w51) (w1 := (wr.setCell ⟨go35, (x9_4 : Int).toNat, none⟩ (.int .i64 1))) ?hg ?ho ?hn ?hr ?_; (case ho => rfl); (case hg => rfl); (case hn => rfl); (case hr => first | (go_simp; done) | (go_simp; rfl)); intro w51 hw; have hg : wr.grownBy w51 (some go35) := (by rw [hw]; exact HP50.2); have hp_ : Kd.R (Kd.int .i64) 3 w51 w.heap.size (fun _ => True) (.slice (some ⟨go35, 0, none⟩) x8_4.length co36) y902 := (by rw [hw, Ny902.out]; exact HP50.1); clear HP50; have n0_ := Aside0.mk (hp_); have n1_ := Aside0.mk (blk_grown (g := gb877) (o := .cells #[.int .i64 x878000_3, .slice none 0 0] 75 (0, 0)) (by (with_reducible repeat (first | refine blk_drewN ?_ _ | refine blk_drew ?_ | refine blk_alloc ?_ _)); exact BK877.out) hg (Kd.R_ne HO_8.out BK877.out (by decide))); have n2_ := Aside0.mk ((by rw [hw]; exact below_set (HB.out) GB35.out : Below w.heap.size w w51)); clear HO_8; clear BK877; clear HB; have HO_8 := n0_; have BK877 := n1_; have HB := n2_; clear n0_ n1_ n2_; clear hg hw hp_; have p903 : 0 ≤ ((ji46) : Int) := of_decide_eq_true (by first | (with_reducible assumption) | assumption); have q903 : (ji46) < (y902.length : Int) := (by have h_ : ((ji46) : Int) < ((x8_4.length : Int) : Int) := of_decide_eq_true (by first | (with_reducible assumption) | assumption); first | (have e_ := (Kd.R_reads' HO_8.out).1; omega) | simpa only [Ny902.out, List.length_set] using h_); have ql903 : (((ji46) : Int) < ((x8_4.length : Int) : Int)) = True := eq_true (of_decide_eq_true (by first | (with_reducible assumption) | assumption)); obtain ⟨ad903, e903, hx903_0⟩ := Kd.at_int (Kd.R_reads' HO_8.out).2.2 (ji46) p903 q903; obtain rfl : (⟨go35, 0, none⟩ : Addr) = ad903 := (by injection e903); (first | simp only [add_plain] at hx903_0 | simp only [add_at] at hx903_0 | simp only [Addr.add, Nat.zero_add] at hx903_0 | skip); replace p903 := eq_true p903; replace q903 := eq_true q903; have p49 : 0 ≤ ((ji46) : Int) := of_decide_eq_true (by first | (with_reducible assumption) | assumption); have q49 : ((ji46) : Int) < ((x8_4.length : Int) : Int) := of_decide_eq_true (by first | (with_reducible assumption) | assumption); obtain ⟨hx49_0, hf49_0⟩ := Kd.R_celln 0 HO_8.out ((ji46) : Int) p49 q49; replace p49 := eq_true p49; replace q49 := eq_true q49; obtain ⟨hy52_, hz52_⟩ := Kd.R_celln 0 HO_8.out ((ji46) : Int) (of_decide_eq_true (by first | (with_reducible assumption) | assumption)) (of_decide_eq_true (by first | (with_reducible assumption) | assumption)); have HP52 := Kd.R_putg HO_8.out ((ji46) : Int) (wrap64 ((rd y902 (ji46)) + 1))) | ((with_reducible refine gate_store (t := 3) (p := 81) rfl ?_); refine store_event (t := 3) (p := 81) (v := ?vo_w53) (w1 := (w51.setCell ⟨go35, ((ji46) : Int).toNat, none⟩ (.int .i64 (wrap64 ((rd y902 (ji46)) + 1))))) ?hg ?ho ?hn ?hr ?_; (case ho => rfl); (case hg => rfl); (case hn => rfl); (case hr => first | (go_simp; done) | (go_simp; rfl)); intro w53 hw; have hg : w51.grownBy w53 (some go35) := (by rw [hw]; exact HP52.2); have hp_ : Kd.R (Kd.int .i64) 3 w53 w.heap.size (fun _ => True) (.slice (some ⟨go35, 0, none⟩) x8_4.length co36) y904 := (by rw [hw, Ny904.out]; exact HP52.1); clear HP52; have n0_ := Aside0.mk (hp_); have n1_ := Aside0.mk (blk_grown (g := gb877) (o := .cells #[.int .i64 x878000_3, .slice none 0 0] 75 (0, 0)) (by (with_reducible repeat (first | refine blk_drewN ?_ _ | refine blk_drew ?_ | refine blk_alloc ?_ _)); exact BK877.out) hg (Kd.R_ne HO_8.out BK877.out (by decide))); have n2_ := Aside0.mk ((by rw [hw]; exact below_set (HB.out) GB35.out : Below w.heap.size w w53)); clear HO_8; clear BK877; clear HB; have HO_8 := n0_; have BK877 := n1_; have HB := n2_; clear n0_ n1_ n2_; clear hg hw hp_))
                        (try simp only [← hl8_4])
                        go_roundg k4
                        case measure => have := HJ2.out; have := HK2.out; have := HK3.out; have := HK4.out; omega
                        case rel => exact ⟨(y904), (ji46), (by first | rfl | (simp; done) | (simp only [← hji46] <;> (first | rfl | simp)) | (simp [*]; done)), H', ⟨by have := HJ2.out; have := HK2.out; have := HK3.out; have := HK4.out; omega⟩, ⟨by (try simp only [hl8_4]); (with_reducible repeat (first | apply Kd.R_alloc | apply Kd.R_drewN | apply Kd.R_drew)); exact HO_8.out⟩, ⟨by (try simp only [hl8_4]); (with_reducible repeat (first | refine blk_drewN ?_ _ | refine blk_drew ?_ | refine blk_alloc ?_ _)); exact BK877.out⟩, ⟨by repeat (first | (with_reducible first | exact HB.out | apply below_alloc | apply pw_below_drewN | apply below_drew1 | refine below_set ?_ GE877.out) | exact HB.out)⟩⟩
                       ·rw [if_neg c48] at H
                        exact absurd H (by simp)
                      ·rw [if_neg c47] at H
                       exact absurd H (by simp)
                     ·rw [if_neg c44] at H
                      have c44b0 : decide ((l0.length : Int) < (rd x8_4 x9_4)) = false := decide_eq_false c44
                      clear c44
                      (try simp only [hl8_4] at c44b0)
                      have H' := Aside0.mk H
                      clear H
                      have p901 : 0 ≤ (x9_4 : Int) := of_decide_eq_true (by first | (with_reducible assumption) | assumption)
                      have q901 : x9_4 < (x8_4.length : Int) := of_decide_eq_true (by first | (with_reducible assumption) | assumption)
                      obtain ⟨ad901, e901, hx901_0⟩ := Kd.at_int (Kd.R_reads' HO_8.out).2.2 x9_4 p901 q901
                      obtain rfl : (⟨go35, 0, none⟩ : Addr) = ad901 := (by injection e901)
                      (first | simp only [add_plain] at hx901_0 | simp only [add_at] at hx901_0 | simp only [Addr.add, Nat.zero_add] at hx901_0 | skip)
                      replace p901 := eq_true p901
                      replace q901 := eq_true q901
                      go_wp2
                      (try simp only [← hl8_4])
                      go_roundg k4
                      case measure => have := HJ2.out; have := HK2.out; have := HK3.out; have := HK4.out; omega
                      case rel => exact ⟨(x8_4), (x878000_3), H', ⟨by have := HJ2.out; have := HK2.out; have := HK3.out; have := HK4.out; omega⟩, ⟨by (try simp only [hl8_4]); (with_reducible repeat (first | apply Kd.R_alloc | apply Kd.R_drewN | apply Kd.R_drew)); exact HO_8.out⟩, ⟨by (try simp only [hl8_4]); (with_reducible repeat (first | refine blk_drewN ?_ _ | refine blk_drew ?_ | refine blk_alloc ?_ _)); exact BK877.out⟩, ⟨by repeat (first | (with_reducible first | exact HB.out | apply below_alloc | apply pw_below_drewN | apply below_drew1 | refine below_set ?_ GE877.out) | exact HB.out)⟩⟩
                    ·rw [if_neg c43] at H
                     exact absurd H (by simp)
                   ·rw [if_neg c42] at H
                    exact absurd H (by simp)
                  ·rw [if_neg c41] at H
                   have c41b0 : decide (0 < x9_4) = false := decide_eq_false c41
                   clear c41
                   have H' := Aside0.mk H
                   clear H
                   go_wp2
                   (try simp only [← hl8_4])
                   go_roundg k4
                   case measure => have := HJ2.out; have := HK2.out; have := HK3.out; have := HK4.out; omega
                   case rel => exact ⟨(x8_4), (x878000_3), H', ⟨by have := HJ2.out; have := HK2.out; have := HK3.out; have := HK4.out; omega⟩, ⟨by (try simp only [hl8_4]); (with_reducible repeat (first | apply Kd.R_alloc | apply Kd.R_drewN | apply Kd.R_drew)); exact HO_8.out⟩, ⟨by (try simp only [hl8_4]); (with_reducible repeat (first | refine blk_drewN ?_ _ | refine blk_drew ?_ | refine blk_alloc ?_ _)); exact BK877.out⟩, ⟨by repeat (first | (with_reducible first | exact HB.out | apply below_alloc | apply pw_below_drewN | apply below_drew1 | refine below_set ?_ GE877.out) | exact HB.out)⟩⟩
               ·rw [if_neg c34] at H
                exact absurd H (by simp)
              ·rw [if_neg c33] at H
               exact absurd H (by simp)
            ·rw [if_neg c17] at H
             exact absurd H (by simp)
           ·rw [if_neg c16] at H
            exact absurd H (by simp)
          ·rw [if_neg c15] at H
           have c15b0 : decide ((rd x8_3 0) ≤ (l0.length : Int)) = false := decide_eq_false c15
           clear c15
           have H' := Aside0.mk H
           clear H
           obtain ⟨Ao54, co54, eo54⟩ := Kd.R_slice HO_8.out
           subst eo54
           have p883 : 0 ≤ (0 : Int) := (by omega)
           have q883 : 0 < (x8_3.length : Int) := of_decide_eq_true (by first | (with_reducible assumption) | assumption)
           obtain ⟨ad883, e883, hx883_0⟩ := Kd.at_int (Kd.R_reads' HO_8.out).2.2 0 p883 q883
           cases e883
           have qi883 : (0 < x8_3.length) = True := eq_true (by omega)
           (try rw [show ((0 : Int)).toNat = 0 from rfl] at hx883_0)
           (try rw [Addr.add_zero'] at hx883_0)
           replace p883 := eq_true p883
           replace q883 := eq_true q883
           go_wp2
           go_roundg k3
           case measure => have := HJ2.out; have := HK2.out; have := HK3.out; omega
           case rel => exact ⟨(wrap64 (x7_2 + 1)), (x878000_3), (by first | rfl | (simp; done) | (simp [*]; done)), H', ⟨by have := HJ2.out; have := HK2.out; have := HK3.out; omega⟩, ⟨by (with_reducible repeat (first | refine blk_drewN ?_ _ | refine blk_drew ?_ | refine blk_alloc ?_ _)); exact BK877.out⟩, ⟨by repeat (first | (with_reducible first | exact HB.out | apply below_alloc | apply pw_below_drewN | apply below_drew1 | refine below_set ?_ GE877.out) | exact HB.out)⟩⟩
         ·rw [if_neg c14] at H
          exact absurd H (by simp)
      ·rw [if_neg c11] at H
       have c11b0 : decide (x7_2 < (l0.length : Int)) = false := decide_eq_false c11
       clear c11
       simp only [Option.some.injEq, Prod.mk.injEq] at H
       obtain ⟨rfl, rfl, rfl⟩ := H
       have hcz55_0 : wr.cell? ⟨gb877, 0, none⟩ = some (.int .i64 x878000_2) := (blk_cell BK877.out 0).trans rfl
       have hcz55_1 : wr.cell? ⟨gb877, 1, none⟩ = some (.slice none 0 0) := (blk_cell BK877.out 1).trans rfl
       have hfz55_0 := blk_frozen BK877.out 0
       have hfz55_1 := blk_frozen BK877.out 1
       go_wp2
       refine bodyPost_ret (results_ct rfl _ _ gb877 75 #[.int .i64 0, .slice none 0 0] (0, 0) _ rfl (by (with_reducible repeat (first | refine blk_drewN ?_ _ | refine blk_drew ?_ | refine blk_alloc ?_ _)); refine blk_put (cs := #[.int .i64 0, .slice none 0 0]) ?_ 1 _ rfl; (with_reducible repeat (first | refine blk_drewN ?_ _ | refine blk_drew ?_ | refine blk_alloc ?_ _)); refine blk_put (cs := #[.int .i64 x878000_2, .slice none 0 0]) ?_ 0 _ rfl; (with_reducible repeat (first | refine blk_drewN ?_ _ | refine blk_drew ?_ | refine blk_alloc ?_ _)); exact BK877.out) Try.underlying75 rfl (by kernel_rfl)) rfl ?_
       exact ⟨_, by first | rfl | (simp [errW_none, errW_some] <;> rfl) | (simp [*, errW_none, errW_some] <;> rfl), by first | exact Kd.R_nil _ _ _ _ _ | exact Kd.N_nil _ _ _ _ _ | exact Kd.V_nil _ _ _ _ _ | exact Kd.Q_nil _ _ _ _ _ | exact Kd.S_nil _ _ _ _ _, by repeat (first | (with_reducible first | exact HB.out | apply below_alloc | apply pw_below_drewN | apply below_drew1 | refine below_set ?_ GE877.out) | exact HB.out)⟩

end Go.Proofs.Ythkkpdgadfhijaa.M
/- Walks for this claim, written by a program of mine over the kit's print. No condition of mine. -/
namespace Go.Proofs.Ythkkpdgadfhijaa.M
open Go.RowKit Go.Proofs.Ythkkpdgadfhijaa.KW Go.Proofs.YthkkpdgadfhijaaW.PrintWords Go.Proofs.YthkkpdgadfhijaaW.PrintLast Go.Proofs.YthkkpdgadfhijaaW.PrintMore
attribute [local go_sem] max2_int min2_int max_two min_two max_three min_three max_four min_four   -- for this text's walks alone
set_option linter.unusedVariables false
set_option linter.unusedSimpArgs false

/-! ### spec_AvoidsPattern: function 67 -/
def spec_AvoidsPattern.f (k : Nat) (l0 : List Int) (l1 : List Int) : Option (Bool) := (spec_FindPattern.f k l0 l1).bind fun bt905 => ((spec_IsPattern.f k l1).bind fun t911 => (if t911 = true then (if (l0.length : Int) ≤ 24 then (some (!bt905.2.2)) else (some false)) else (some false)))
theorem spec_AvoidsPattern.mono : ∀ a0 a1 k, LeO (spec_AvoidsPattern.f k a0 a1) (spec_AvoidsPattern.f (k + 1) a0 a1) := by
 intro a0 a1 k
 unfold spec_AvoidsPattern.f
 repeat' first
   | (with_reducible exact spec_FindPattern.mono _ _ _)
   | (with_reducible exact spec_IsPattern.mono _ _)
   | (with_reducible exact LeO.refl _)
   | (with_reducible exact LeO.none _)
   | (with_reducible refine LeO.ite ?_ ?_)
   | (with_reducible refine LeO.bind ?_ (fun _ => ?_))
   | exact spec_FindPattern.mono _ _ _
   | exact spec_IsPattern.mono _ _
   | exact LeO.none _
   | refine LeO.ite ?_ ?_
   | refine LeO.bind ?_ (fun _ => ?_)
set_option maxHeartbeats 8000000 in
set_option maxRecDepth 100000 in
theorem spec_AvoidsPattern.calls (k : Nat) (A0 : Option Addr) (c0 : Nat) (l0 : List Int) (A1 : Option Addr) (c1 : Nat) (l1 : List Int) (r : Bool) (w : World) (hr0 : Kd.C (Kd.int .i64) w A0 l0.length l0) (hc0 : l0.length ≤ c0) (hr1 : Kd.C (Kd.int .i64) w A1 l1.length l1) (hc1 : l1.length ≤ c1) (h : spec_AvoidsPattern.f k l0 l1 = some r) :
  Calls Try.prog 67 #[.slice A0 l0.length c0, .slice A1 l1.length c1] w fun e w' => e = .returned (.bool r) ∧ Below w.heap.size w w' := by
 have hu75 := Try.underlying75
 have HR0 := Aside0.mk hr0
 have HC0 := Aside0.mk hc0
 clear hr0 hc0
 have HR1 := Aside0.mk hr1
 have HC1 := Aside0.mk hc1
 clear hr1 hc1
 have HB := Aside0.mk (Below.refl w.heap.size w)
 have H : ((spec_FindPattern.f k l0 l1).bind fun bt905 => ((spec_IsPattern.f k l1).bind fun t911 => (if t911 = true then (if (l0.length : Int) ≤ 24 then (some (!bt905.2.2)) else (some false)) else (some false)))) = some r := h
 clear h
 replace H := Option.bind_eq_some_iff.mp H
 obtain ⟨⟨t905, t906, t909⟩, A30, H⟩ := H
 replace H : ((spec_IsPattern.f k l1).bind fun t911 => (if t911 = true then (if (l0.length : Int) ≤ 24 then (some (!t909)) else (some false)) else (some false))) = some r := H
 have A3 := Aside0.mk A30
 clear A30
 replace H := Option.bind_eq_some_iff.mp H
 obtain ⟨t911, A40, H⟩ := H
 replace H : (if t911 = true then (if (l0.length : Int) ≤ 24 then (some (!t909)) else (some false)) else (some false)) = some r := H
 have A4 := Aside0.mk A40
 clear A40
 by_cases c5 : t911 = true
 ·subst c5
  have H1 : (if (l0.length : Int) ≤ 24 then (some (!t909)) else (some false)) = some r := by rw [if_pos rfl] at H; exact H
  clear H
  have H := H1
  clear H1
  by_cases c6 : (l0.length : Int) ≤ 24
  ·rw [if_pos c6] at H
   have c6b0 : decide ((l0.length : Int) ≤ 24) = true := decide_eq_true c6
   have c6b1 : decide (l0.length ≤ 24) = true := decide_eq_true (by omega)
   clear c6
   obtain rfl := Option.some.inj H
   go_enter Try.func67, Try.ntmps67
   go_wp2_with (first | ((with_reducible refine gate_callee (f := 61) rfl ?_); refine goesL_ (some 10) rfl rfl Try.func61 (by kernel_rfl) rfl #[.slice A0 l0.length c0, .slice A1 l1.length c1] rfl (by (try simp only [List.map_toArray, List.map_cons, List.map_nil]); first | done | rfl | (simp only [List.length_drop, List.length_take]; rfl)) ?_; (with_reducible refine (spec_FindPattern.calls k _ _ l0 _ _ l1 t905 t906 t909 _ ?side1 ?side2 ?side3 ?side4 A3.out).mono ?_); (case side1 => repeat (first | exact HR0.out | (with_reducible refine Kd.C_alloc ?_ _) | (with_reducible refine Kd.C_drewN ?_ _) | (with_reducible refine Kd.C_drew ?_))); (case side2 => exact HC0.out); (case side3 => repeat (first | exact HR1.out | (with_reducible refine Kd.C_alloc ?_ _) | (with_reducible refine Kd.C_drewN ?_ _) | (with_reducible refine Kd.C_drew ?_))); (case side4 => exact HC1.out); rintro e w7 ⟨v907, rfl, ho0, hb⟩; refine ⟨_, rfl, ?_⟩; have n0_ := Aside0.mk (Kd.R_lower ho0 (below_size (by repeat (first | (with_reducible first | exact HB.out | apply below_alloc | apply pw_below_drewN | apply below_drew1) | exact HB.out)))); have n1_ := Aside0.mk (below_step (by repeat (first | (with_reducible first | exact HB.out | apply below_alloc | apply pw_below_drewN | apply below_drew1) | exact HB.out)) hb); clear HB; have HO908 := n0_; have HB := n1_; clear n0_ n1_; (try clear hb); (try clear hb2); (try clear hk); (try clear hi); (try clear ho0)) | ((with_reducible refine gate_dst (N := 5) rfl ?_); (try (refine gate_guard (by rfl) ?_; dsimp only)); refine box_event ?hg (N := 5) ?hd (cs := #[.int .i64 0, .slice none 0 0]) (t := 75) ?hr ?_; (case hd => rfl); (case hg => rfl); (case hr => first | (go_simp; done) | (go_simp; rfl)); intro gb910 hg w8 hbox hb; have n0_ := Aside0.mk (Kd.R_below (by (with_reducible repeat (first | apply Kd.R_alloc | apply Kd.R_drewN | apply Kd.R_drew)); exact HO908.out) hb); have n1_ := Aside0.mk (below_step (by repeat (first | (with_reducible first | exact HB.out | apply below_alloc | apply pw_below_drewN | apply below_drew1) | exact HB.out)) hb); have n2_ := Aside0.mk (hbox); have n3_ := Aside0.mk ((by rw [hg]; exact (below_size (by repeat (first | (with_reducible first | exact HB.out | apply below_alloc | apply pw_below_drewN | apply below_drew1) | exact HB.out))) : w.heap.size ≤ gb910)); have n4_ := Aside0.mk ((by rw [hg]; exact (below_size (by repeat (first | (with_reducible first | exact HB.out | apply below_alloc | apply pw_below_drewN | apply below_drew1) | exact HB.out))) : w.heap.size ≤ gb910)); clear HO908; clear HB; have HO908 := n0_; have HB := n1_; have BK910 := n2_; have GW910 := n3_; have GE910 := n4_; clear n0_ n1_ n2_ n3_ n4_; clear hb hbox hg; have hcz9_0 : w8.cell? ⟨gb910, 0, none⟩ = some (.int .i64 0) := (blk_cell BK910.out 0).trans rfl; have hcz9_1 : w8.cell? ⟨gb910, 1, none⟩ = some (.slice none 0 0) := (blk_cell BK910.out 1).trans rfl; have hfz9_0 := blk_frozen BK910.out 0; have hfz9_1 := blk_frozen BK910.out 1; obtain ⟨Ao10, co10, eo10⟩ := Kd.R_slice HO908.out; subst eo10) | ((with_reducible refine gate_callee (f := 63) rfl ?_); refine goesL_ (some 14) rfl rfl Try.func63 (by kernel_rfl) rfl #[.slice A1 l1.length c1] rfl (by (try simp only [List.map_toArray, List.map_cons, List.map_nil]); first | done | rfl | (simp only [List.length_drop, List.length_take]; rfl)) ?_; (with_reducible refine (spec_IsPattern.calls k _ _ l1 true _ ?side1 ?side2 A4.out).mono ?_); (case side1 => exact Kd.C_below HR1.out (by repeat (first | (with_reducible first | exact HB.out | apply below_alloc | apply pw_below_drewN | apply below_drew1 | refine below_set ?_ GE910.out) | exact HB.out))); (case side2 => exact HC1.out); rintro e w' ⟨rfl, ⟨nd, rfl⟩⟩; refine ⟨_, rfl, ?_⟩))
   go_ret
   exact ⟨by first | rfl | (simp [errW_none, errW_some] <;> rfl) | (simp [*, errW_none, errW_some] <;> rfl), by repeat (first | (with_reducible first | exact HB.out | apply below_alloc | apply pw_below_drewN | apply below_drew1 | refine below_set ?_ GE910.out) | exact HB.out)⟩
  ·rw [if_neg c6] at H
   have c6b0 : decide ((l0.length : Int) ≤ 24) = false := decide_eq_false c6
   have c6b1 : decide (l0.length ≤ 24) = false := decide_eq_false (by omega)
   clear c6
   obtain rfl := Option.some.inj H
   go_enter Try.func67, Try.ntmps67
   go_wp2_with (first | ((with_reducible refine gate_callee (f := 61) rfl ?_); refine goesL_ (some 10) rfl rfl Try.func61 (by kernel_rfl) rfl #[.slice A0 l0.length c0, .slice A1 l1.length c1] rfl (by (try simp only [List.map_toArray, List.map_cons, List.map_nil]); first | done | rfl | (simp only [List.length_drop, List.length_take]; rfl)) ?_; (with_reducible refine (spec_FindPattern.calls k _ _ l0 _ _ l1 t905 t906 t909 _ ?side1 ?side2 ?side3 ?side4 A3.out).mono ?_); (case side1 => repeat (first | exact HR0.out | (with_reducible refine Kd.C_alloc ?_ _) | (with_reducible refine Kd.C_drewN ?_ _) | (with_reducible refine Kd.C_drew ?_))); (case side2 => exact HC0.out); (case side3 => repeat (first | exact HR1.out | (with_reducible refine Kd.C_alloc ?_ _) | (with_reducible refine Kd.C_drewN ?_ _) | (with_reducible refine Kd.C_drew ?_))); (case side4 => exact HC1.out); rintro e w11 ⟨v907, rfl, ho0, hb⟩; refine ⟨_, rfl, ?_⟩; have n0_ := Aside0.mk (Kd.R_lower ho0 (below_size (by repeat (first | (with_reducible first | exact HB.out | apply below_alloc | apply pw_below_drewN | apply below_drew1) | exact HB.out)))); have n1_ := Aside0.mk (below_step (by repeat (first | (with_reducible first | exact HB.out | apply below_alloc | apply pw_below_drewN | apply below_drew1) | exact HB.out)) hb); clear HB; have HO908 := n0_; have HB := n1_; clear n0_ n1_; (try clear hb); (try clear hb2); (try clear hk); (try clear hi); (try clear ho0)) | ((with_reducible refine gate_dst (N := 5) rfl ?_); (try (refine gate_guard (by rfl) ?_; dsimp only)); refine box_event ?hg (N := 5) ?hd (cs := #[.int .i64 0, .slice none 0 0]) (t := 75) ?hr ?_; (case hd => rfl); (case hg => rfl); (case hr => first | (go_simp; done) | (go_simp; rfl)); intro gb910 hg w12 hbox hb; have n0_ := Aside0.mk (Kd.R_below (by (with_reducible repeat (first | apply Kd.R_alloc | apply Kd.R_drewN | apply Kd.R_drew)); exact HO908.out) hb); have n1_ := Aside0.mk (below_step (by repeat (first | (with_reducible first | exact HB.out | apply below_alloc | apply pw_below_drewN | apply below_drew1) | exact HB.out)) hb); have n2_ := Aside0.mk (hbox); have n3_ := Aside0.mk ((by rw [hg]; exact (below_size (by repeat (first | (with_reducible first | exact HB.out | apply below_alloc | apply pw_below_drewN | apply below_drew1) | exact HB.out))) : w.heap.size ≤ gb910)); have n4_ := Aside0.mk ((by rw [hg]; exact (below_size (by repeat (first | (with_reducible first | exact HB.out | apply below_alloc | apply pw_below_drewN | apply below_drew1) | exact HB.out))) : w.heap.size ≤ gb910)); clear HO908; clear HB; have HO908 := n0_; have HB := n1_; have BK910 := n2_; have GW910 := n3_; have GE910 := n4_; clear n0_ n1_ n2_ n3_ n4_; clear hb hbox hg; have hcz13_0 : w12.cell? ⟨gb910, 0, none⟩ = some (.int .i64 0) := (blk_cell BK910.out 0).trans rfl; have hcz13_1 : w12.cell? ⟨gb910, 1, none⟩ = some (.slice none 0 0) := (blk_cell BK910.out 1).trans rfl; have hfz13_0 := blk_frozen BK910.out 0; have hfz13_1 := blk_frozen BK910.out 1; obtain ⟨Ao14, co14, eo14⟩ := Kd.R_slice HO908.out; subst eo14) | ((with_reducible refine gate_callee (f := 63) rfl ?_); refine goesL_ (some 14) rfl rfl Try.func63 (by kernel_rfl) rfl #[.slice A1 l1.length c1] rfl (by (try simp only [List.map_toArray, List.map_cons, List.map_nil]); first | done | rfl | (simp only [List.length_drop, List.length_take]; rfl)) ?_; (with_reducible refine (spec_IsPattern.calls k _ _ l1 true _ ?side1 ?side2 A4.out).mono ?_); (case side1 => exact Kd.C_below HR1.out (by repeat (first | (with_reducible first | exact HB.out | apply below_alloc | apply pw_below_drewN | apply below_drew1 | refine below_set ?_ GE910.out) | exact HB.out))); (case side2 => exact HC1.out); rintro e w' ⟨rfl, ⟨nd, rfl⟩⟩; refine ⟨_, rfl, ?_⟩))
   go_ret
   exact ⟨by first | rfl | (simp [errW_none, errW_some] <;> rfl) | (simp [*, errW_none, errW_some] <;> rfl), by repeat (first | (with_reducible first | exact HB.out | apply below_alloc | apply pw_below_drewN | apply below_drew1 | refine below_set ?_ GE910.out) | exact HB.out)⟩
 ·replace c5 := Bool.eq_false_iff.mpr c5
  subst c5
  have H1 : (some false) = some r := by rw [if_neg (show ¬ (false = true) by decide)] at H; exact H
  clear H
  have H := H1
  clear H1
  obtain rfl := Option.some.inj H
  go_enter Try.func67, Try.ntmps67
  go_wp2_with (first | ((with_reducible refine gate_callee (f := 61) rfl ?_); refine goesL_ (some 10) rfl rfl Try.func61 (by kernel_rfl) rfl #[.slice A0 l0.length c0, .slice A1 l1.length c1] rfl (by (try simp only [List.map_toArray, List.map_cons, List.map_nil]); first | done | rfl | (simp only [List.length_drop, List.length_take]; rfl)) ?_; (with_reducible refine (spec_FindPattern.calls k _ _ l0 _ _ l1 t905 t906 t909 _ ?side1 ?side2 ?side3 ?side4 A3.out).mono ?_); (case side1 => repeat (first | exact HR0.out | (with_reducible refine Kd.C_alloc ?_ _) | (with_reducible refine Kd.C_drewN ?_ _) | (with_reducible refine Kd.C_drew ?_))); (case side2 => exact HC0.out); (case side3 => repeat (first | exact HR1.out | (with_reducible refine Kd.C_alloc ?_ _) | (with_reducible refine Kd.C_drewN ?_ _) | (with_reducible refine Kd.C_drew ?_))); (case side4 => exact HC1.out); rintro e w15 ⟨v907, rfl, ho0, hb⟩; refine ⟨_, rfl, ?_⟩; have n0_ := Aside0.mk (Kd.R_lower ho0 (below_size (by repeat (first | (with_reducible first | exact HB.out | apply below_alloc | apply pw_below_drewN | apply below_drew1) | exact HB.out)))); have n1_ := Aside0.mk (below_step (by repeat (first | (with_reducible first | exact HB.out | apply below_alloc | apply pw_below_drewN | apply below_drew1) | exact HB.out)) hb); clear HB; have HO908 := n0_; have HB := n1_; clear n0_ n1_; (try clear hb); (try clear hb2); (try clear hk); (try clear hi); (try clear ho0)) | ((with_reducible refine gate_dst (N := 5) rfl ?_); (try (refine gate_guard (by rfl) ?_; dsimp only)); refine box_event ?hg (N := 5) ?hd (cs := #[.int .i64 0, .slice none 0 0]) (t := 75) ?hr ?_; (case hd => rfl); (case hg => rfl); (case hr => first | (go_simp; done) | (go_simp; rfl)); intro gb910 hg w16 hbox hb; have n0_ := Aside0.mk (Kd.R_below (by (with_reducible repeat (first | apply Kd.R_alloc | apply Kd.R_drewN | apply Kd.R_drew)); exact HO908.out) hb); have n1_ := Aside0.mk (below_step (by repeat (first | (with_reducible first | exact HB.out | apply below_alloc | apply pw_below_drewN | apply below_drew1) | exact HB.out)) hb); have n2_ := Aside0.mk (hbox); have n3_ := Aside0.mk ((by rw [hg]; exact (below_size (by repeat (first | (with_reducible first | exact HB.out | apply below_alloc | apply pw_below_drewN | apply below_drew1) | exact HB.out))) : w.heap.size ≤ gb910)); have n4_ := Aside0.mk ((by rw [hg]; exact (below_size (by repeat (first | (with_reducible first | exact HB.out | apply below_alloc | apply pw_below_drewN | apply below_drew1) | exact HB.out))) : w.heap.size ≤ gb910)); clear HO908; clear HB; have HO908 := n0_; have HB := n1_; have BK910 := n2_; have GW910 := n3_; have GE910 := n4_; clear n0_ n1_ n2_ n3_ n4_; clear hb hbox hg; have hcz17_0 : w16.cell? ⟨gb910, 0, none⟩ = some (.int .i64 0) := (blk_cell BK910.out 0).trans rfl; have hcz17_1 : w16.cell? ⟨gb910, 1, none⟩ = some (.slice none 0 0) := (blk_cell BK910.out 1).trans rfl; have hfz17_0 := blk_frozen BK910.out 0; have hfz17_1 := blk_frozen BK910.out 1; obtain ⟨Ao18, co18, eo18⟩ := Kd.R_slice HO908.out; subst eo18) | ((with_reducible refine gate_callee (f := 63) rfl ?_); refine goesL_ (some 14) rfl rfl Try.func63 (by kernel_rfl) rfl #[.slice A1 l1.length c1] rfl (by (try simp only [List.map_toArray, List.map_cons, List.map_nil]); first | done | rfl | (simp only [List.length_drop, List.length_take]; rfl)) ?_; (with_reducible refine (spec_IsPattern.calls k _ _ l1 false _ ?side1 ?side2 A4.out).mono ?_); (case side1 => exact Kd.C_below HR1.out (by repeat (first | (with_reducible first | exact HB.out | apply below_alloc | apply pw_below_drewN | apply below_drew1 | refine below_set ?_ GE910.out) | exact HB.out))); (case side2 => exact HC1.out); rintro e w' ⟨rfl, ⟨nd, rfl⟩⟩; refine ⟨_, rfl, ?_⟩))
  go_ret
  exact ⟨by first | rfl | (simp [errW_none, errW_some] <;> rfl) | (simp [*, errW_none, errW_some] <;> rfl), by repeat (first | (with_reducible first | exact HB.out | apply below_alloc | apply pw_below_drewN | apply below_drew1 | refine below_set ?_ GE910.out) | exact HB.out)⟩

end Go.Proofs.Ythkkpdgadfhijaa.M
/- The reference finds the same first match, trying all lengths in order; what it asks of words that go on. No condition but lengths that fit. -/
namespace Go.Proofs.Ythkkpdgadfhijaa.M
open Go.RowKit Go.Proofs.YthkkpdgadfhijaaW.PrintWords Go.Proofs.Ythkkpdgadfhijaa.K
set_option linter.unusedVariables false
/-- The three lengths, as the reference keeps them. -/
def abc (a b c : Nat) : List Int := [(a : Int), (b : Int), (c : Int)]
theorem abc_len (a b c : Nat) : (abc a b c).length = 3 := rfl
theorem rdA0 (a b c : Nat) : rd (abc a b c) 0 = (a : Int) := rfl
theorem rdA1 (a b c : Nat) : rd (abc a b c) 1 = (b : Int) := rfl
theorem rdA2 (a b c : Nat) : rd (abc a b c) 2 = (c : Int) := rfl
theorem setA0 (a b c v : Nat) : (abc a b c).set 0 (v : Int) = abc v b c := rfl
theorem setA1 (a b c v : Nat) : (abc a b c).set 1 (v : Int) = abc a v c := rfl
theorem setA2 (a b c v : Nat) : (abc a b c).set 2 (v : Int) = abc a b v := rfl
theorem oneA1 (a b c : Nat) : (abc a b c).set (Int.toNat 1) 1 = abc a 1 c := rfl
theorem oneA2 (a b c : Nat) : (abc a b c).set (Int.toNat 2) 1 = abc a b 1 := rfl
theorem dec1 : wrap64 ((1 : Int) - 1) = 0 := by unfold wrap64; omega
theorem dec2 : wrap64 ((2 : Int) - 1) = 1 := by unfold wrap64; omega
section find
variable (w p : List Int) (hw : w.length ≤ 24) (hp : p.length ≤ 1048576)
include hw
theorem specFP_carry1 (m at_ a b c : Nat) (R : Int × List Int × Bool) (h : Ev (fun k => spec_FindPattern.l1 k w p (m : Int) (at_ : Int) (abc (a + 1) b c)) R) : Ev (fun k => spec_FindPattern.l2 k w p (m : Int) (at_ : Int) (abc (a + 1) b c) 0) R :=
  have _ := hw
  Ev.step (fun k => by simp only [spec_FindPattern.l2]; rw [_root_.if_neg (by omega)]) h
theorem specFP_carry2 (m at_ a b c : Nat) (hb : b ≤ w.length) (ha : a ≤ w.length) (R : Int × List Int × Bool) (h : Ev (fun k => spec_FindPattern.l1 k w p (m : Int) (at_ : Int) (if b < w.length then abc a (b + 1) c else abc (a + 1) 1 c)) R) : Ev (fun k => spec_FindPattern.l2 k w p (m : Int) (at_ : Int) (abc a (b + 1) c) 1) R := by
  by_cases q : b < w.length
  · rw [_root_.if_pos q] at h
    refine Ev.step (fun k => by simp only [spec_FindPattern.l2]; rw [_root_.if_pos (by omega), _root_.if_pos (by omega), _root_.if_pos (by rw [abc_len]; omega), rdA1, _root_.if_neg (by omega)]) h
  · rw [_root_.if_neg q] at h
    refine Ev.step (fun k => by simp only [spec_FindPattern.l2]; rw [_root_.if_pos (by omega), _root_.if_pos (by omega), _root_.if_pos (by rw [abc_len]; omega), rdA1, _root_.if_pos (by omega), oneA1, dec1, Option.bind_some, _root_.if_pos (by omega), _root_.if_pos (by rw [abc_len]; omega), show (0 : Int).toNat = 0 from rfl, rdA0, wsucc (i := a) (by omega), setA0]) (specFP_carry1 w p hw m at_ a 1 c R h)
theorem specFP_carry3 (m at_ a b c : Nat) (hc : c ≤ w.length) (hb : b ≤ w.length) (ha : a ≤ w.length) (R : Int × List Int × Bool) (h : Ev (fun k => spec_FindPattern.l1 k w p (m : Int) (at_ : Int) (if c < w.length then abc a b (c + 1) else if b < w.length then abc a (b + 1) 1 else abc (a + 1) 1 1)) R) : Ev (fun k => spec_FindPattern.l2 k w p (m : Int) (at_ : Int) (abc a b (c + 1)) 2) R := by
  by_cases q : c < w.length
  · rw [_root_.if_pos q] at h
    refine Ev.step (fun k => by simp only [spec_FindPattern.l2]; rw [_root_.if_pos (by omega), _root_.if_pos (by omega), _root_.if_pos (by rw [abc_len]; omega), rdA2, _root_.if_neg (by omega)]) h
  · rw [_root_.if_neg q] at h
    refine Ev.step (fun k => by simp only [spec_FindPattern.l2]; rw [_root_.if_pos (by omega), _root_.if_pos (by omega), _root_.if_pos (by rw [abc_len]; omega), rdA2, _root_.if_pos (by omega), oneA2, dec2, Option.bind_some, _root_.if_pos (by omega), _root_.if_pos (by rw [abc_len]; omega), show (1 : Int).toNat = 1 from rfl, rdA1, wsucc (i := b) (by omega), setA1]) (specFP_carry2 w p hw m at_ a b 1 hb ha R h)
/-- One round: what is tried, and what comes next. -/
theorem specFP_round (at_ m : Nat) (L3 : List Int) (hp : p.length ≤ 1048576) (hl : L3.length = 3) (hm : m ≤ 3) (hm1 : 1 ≤ m) (h0 : rd L3 0 ≤ (w.length : Int)) (hx : ∀ y ∈ L3, 0 ≤ y ∧ y ≤ 1000) (R : Int × List Int × Bool) (v : Option (List Int)) (hR : ∀ L, FA w p at_ (L3.take m) = some L → R = ((at_ : Int), L, true))
    (h : FA w p at_ (L3.take m) = none → Ev (fun k => spec_FindPattern.l2 k w p (m : Int) (at_ : Int) (L3.set (m - 1) (rd L3 ((m - 1 : Nat) : Int) + 1)) ((m - 1 : Nat) : Int)) R) : Ev (fun k => spec_FindPattern.l1 k w p (m : Int) (at_ : Int) L3) R := by
  refine Ev.step (fun k => by simp only [spec_FindPattern.l1]; rw [_root_.if_pos (by omega), _root_.if_pos h0, _root_.if_pos (by omega), _root_.if_pos (by omega), Int.toNat_natCast]) ?_
  refine Ev.bind (specMatchAt_ev w p at_ (L3.take m) (by omega) hp (by rw [List.length_take]; omega)) ?_
  unfold FA at hR h
  by_cases q : mAt w p at_ (L3.take m) = true
  · rw [_root_.if_pos q] at hR
    rw [hR _ rfl]
    refine Ev.if_pos q (Ev.bind (Ev.some _) (Ev.bind (Ev.some _) (Ev.if_pos (by rw [List.length_take]; simp; omega) (Ev.some _))))
  · rw [_root_.if_neg q] at h
    have e : wrap64 ((m : Int) - 1) = ((m - 1 : Nat) : Int) := by rw [w_id (by omega) (by omega)]; omega
    have hy : rd L3 ((m - 1 : Nat) : Int) + 1 ≤ 1001 ∧ 0 ≤ rd L3 ((m - 1 : Nat) : Int) := by
      rw [rd_get L3 (m - 1) (by omega)]
      have := hx _ (List.getElem_mem (show m - 1 < L3.length by omega))
      omega
    refine Ev.if_neg q ?_
    refine Ev.congr (fun k => by rw [e, _root_.if_pos (by omega), _root_.if_pos (by omega), Int.toNat_natCast, w_id (by omega) (by omega)]) (h rfl)
theorem specFP_loop (at_ : Nat) (hp : p.length ≤ 1048576) (hP : isPat p = true) (hat : at_ < w.length) (R : Int × List Int × Bool) (h : Ev (fun k => spec_FindPattern.l0 k w p (nl p : Int) ((at_ + 1 : Nat) : Int)) R) :
    Ev (fun k => spec_FindPattern.l1 k w p (nl p : Int) (at_ : Int) [1, 1, 1]) (match srch w.length (FA w p at_) (nl p - 1) [] 1 with | none => R | some L => ((at_ : Int), L, true)) := by
  obtain ⟨h0, h6, h3, h1⟩ := isPat_nl hP
  have hend : ∀ b c, Ev (fun k => spec_FindPattern.l1 k w p (nl p : Int) (at_ : Int) (abc (w.length + 1) b c)) R := fun b c =>
    Ev.step (fun k => by simp only [spec_FindPattern.l1]; rw [_root_.if_pos (by rw [abc_len]; omega), rdA0, _root_.if_neg (by omega), wsucc (i := at_) (by omega)]) h
  have hx : ∀ a b c : Nat, a ≤ w.length → b ≤ w.length → c ≤ w.length → ∀ y ∈ abc a b c, 0 ≤ y ∧ y ≤ 1000 := by
    intro a b c ha hb hc y hy
    simp only [abc, List.mem_cons, List.not_mem_nil, or_false] at hy
    rcases hy with rfl | rfl | rfl <;> omega
  have out : ∀ (F v : Option (List Int)) L, F = some L → (match F.or v with | none => R | some L => ((at_ : Int), L, true)) = ((at_ : Int), L, true) := by rintro _ v L rfl; rfl
  have nxt : ∀ (F v : Option (List Int)), F = none → (match F.or v with | none => R | some L => ((at_ : Int), L, true)) = (match v with | none => R | some L => ((at_ : Int), L, true)) := by rintro _ v rfl; rfl
  rcases (show nl p = 1 ∨ nl p = 2 ∨ nl p = 3 by omega) with e | e | e
  · rw [e] at hend ⊢
    refine odo1 w.length (FA w p at_) (fun a v => Ev (fun k => spec_FindPattern.l1 k w p ((1 : Nat) : Int) (at_ : Int) (abc a 1 1)) (match v with | none => R | some L => ((at_ : Int), L, true))) (hend 1 1) ?_
    intro a ha v hv
    refine specFP_round w p hw at_ 1 (abc a 1 1) hp rfl (by omega) (by omega) (by rw [rdA0]; omega) (hx a 1 1 ha (by omega) (by omega)) _ v (fun L hL => out _ _ _ hL) (fun hn => ?_)
    have hn' : FA w p at_ [(a : Int)] = none := hn
    rw [nxt _ _ hn']
    exact specFP_carry1 w p hw 1 at_ a 1 1 _ hv
  · rw [e] at hend ⊢
    refine odo2 w.length (FA w p at_) (fun a b v => Ev (fun k => spec_FindPattern.l1 k w p ((2 : Nat) : Int) (at_ : Int) (abc a b 1)) (match v with | none => R | some L => ((at_ : Int), L, true))) (fun b => hend b 1) ?_ ?_
    · intro a b ha hb v hv
      refine specFP_round w p hw at_ 2 (abc a b 1) hp rfl (by omega) (by omega) (by rw [rdA0]; omega) (hx a b 1 ha (by omega) (by omega)) _ v (fun L hL => out _ _ _ hL) (fun hn => ?_)
      have hn' : FA w p at_ [(a : Int), (b : Int)] = none := hn
      rw [nxt _ _ hn']
      exact specFP_carry2 w p hw 2 at_ a b 1 (by omega) ha _ (by rw [_root_.if_pos hb]; exact hv)
    · intro a ha v hv
      refine specFP_round w p hw at_ 2 (abc a w.length 1) hp rfl (by omega) (by omega) (by rw [rdA0]; omega) (hx a w.length 1 ha (by omega) (by omega)) _ v (fun L hL => out _ _ _ hL) (fun hn => ?_)
      have hn' : FA w p at_ [(a : Int), (w.length : Int)] = none := hn
      rw [nxt _ _ hn']
      exact specFP_carry2 w p hw 2 at_ a w.length 1 (by omega) ha _ (by rw [_root_.if_neg (by omega)]; exact hv)
  · rw [e] at hend ⊢
    refine odo3 w.length (FA w p at_) (fun a b c v => Ev (fun k => spec_FindPattern.l1 k w p ((3 : Nat) : Int) (at_ : Int) (abc a b c)) (match v with | none => R | some L => ((at_ : Int), L, true))) hend ?_ ?_ ?_
    · intro a b c ha hb hc v hv
      refine specFP_round w p hw at_ 3 (abc a b c) hp rfl (by omega) (by omega) (by rw [rdA0]; omega) (hx a b c ha (by omega) (by omega)) _ v (fun L hL => out _ _ _ hL) (fun hn => ?_)
      have hn' : FA w p at_ [(a : Int), (b : Int), (c : Int)] = none := hn
      rw [nxt _ _ hn']
      exact specFP_carry3 w p hw 3 at_ a b c (by omega) hb ha _ (by rw [_root_.if_pos hc]; exact hv)
    · intro a b ha hb v hv
      refine specFP_round w p hw at_ 3 (abc a b w.length) hp rfl (by omega) (by omega) (by rw [rdA0]; omega) (hx a b w.length ha (by omega) (by omega)) _ v (fun L hL => out _ _ _ hL) (fun hn => ?_)
      have hn' : FA w p at_ [(a : Int), (b : Int), (w.length : Int)] = none := hn
      rw [nxt _ _ hn']
      exact specFP_carry3 w p hw 3 at_ a b w.length (by omega) (by omega) ha _ (by rw [_root_.if_neg (by omega), _root_.if_pos hb]; exact hv)
    · intro a ha v hv
      refine specFP_round w p hw at_ 3 (abc a w.length w.length) hp rfl (by omega) (by omega) (by rw [rdA0]; omega) (hx a w.length w.length ha (by omega) (by omega)) _ v (fun L hL => out _ _ _ hL) (fun hn => ?_)
      have hn' : FA w p at_ [(a : Int), (w.length : Int), (w.length : Int)] = none := hn
      rw [nxt _ _ hn']
      exact specFP_carry3 w p hw 3 at_ a w.length w.length (by omega) (by omega) ha _ (by rw [_root_.if_neg (by omega), _root_.if_neg (by omega)]; exact hv)
end find
theorem specFind_ev (w p : List Int) (hw : w.length ≤ 1048576) (hp : p.length ≤ 1048576) : Ev (fun k => spec_FindPattern.f k w p) (fres (fnd w p)) := by
  have bad : ∀ b, b = true → Ev (fun k => spec_FindPattern.j0 k w p b) (fres none) := fun b hb => by
    refine Ev.step (fun k => by simp only [spec_FindPattern.j0]; rw [_root_.if_pos hb]) ?_
    exact Ev.some _
  unfold spec_FindPattern.f fnd
  refine Ev.bind (specIsPattern_ev p hp) ?_
  by_cases h : isPat p = true
  · refine Ev.if_pos h ?_
    by_cases h2 : w.length ≤ 24
    · rw [_root_.if_pos ⟨h, h2⟩, decide_eq_false (by omega)]
      have key : ∀ a, a ≤ w.length → Ev (fun k => spec_FindPattern.l0 k w p (nl p : Int) (a : Int)) (fres (fFrom w p a)) := by
        refine down w.length ?_ ?_
        · refine Ev.step (fun k => by simp only [spec_FindPattern.l0]; rw [_root_.if_neg (by omega)]) ?_
          rw [fFrom_end _ _ _ (Nat.le_refl _)]; exact Ev.some _
        · intro a ha ih
          refine Ev.step (fun k => by simp only [spec_FindPattern.l0]; rw [_root_.if_pos (by omega)]) ?_
          rw [fFrom_step _ _ _ ha, ← srch_all]
          refine Ev.same (specFP_loop w p h2 a hp h ha _ ih) ?_
          cases srch w.length (FA w p a) (nl p - 1) [] 1 <;> rfl
      refine Ev.step (fun k => by simp only [spec_FindPattern.j0]; rw [_root_.if_neg (by simp)]) ?_
      exact Ev.bind (specLetters_ev p h) (key 0 (by omega))
    · rw [_root_.if_neg (fun q => h2 q.2), decide_eq_true (by omega)]; exact bad _ rfl
  · rw [_root_.if_neg (fun q => h q.1)]
    exact Ev.if_neg h (bad _ rfl)
theorem specAvoids_ev (w p : List Int) (hw : w.length ≤ 1048576) (hp : p.length ≤ 1048576) : Ev (fun k => spec_AvoidsPattern.f k w p) (decide (isPat p = true ∧ w.length ≤ 24 ∧ fnd w p = none)) := by
  unfold spec_AvoidsPattern.f
  refine Ev.bind (specFind_ev w p hw hp) (Ev.bind (specIsPattern_ev p hp) ?_)
  refine Ev.ite (fun h => ?_) (fun h => ?_)
  · refine Ev.ite (fun h2 => ?_) (fun h2 => ?_)
    · refine Ev.same (Ev.some _) ?_
      cases q : fnd w p with
      | none => rw [decide_eq_true ⟨h, by omega, rfl⟩]; rfl
      | some x => rw [decide_eq_false (by simp)]; obtain ⟨i, L⟩ := x; rfl
    · rw [decide_eq_false (by omega)]; exact Ev.some _
  · rw [decide_eq_false (fun q => h q.1)]; exact Ev.some _
end Go.Proofs.Ythkkpdgadfhijaa.M
/- Walks for this claim, written by a program of mine over the kit's print. No condition of mine. -/
namespace Go.Proofs.Ythkkpdgadfhijaa.M
open Go.RowKit Go.Proofs.Ythkkpdgadfhijaa.KW Go.Proofs.YthkkpdgadfhijaaW.PrintWords Go.Proofs.YthkkpdgadfhijaaW.PrintLast Go.Proofs.YthkkpdgadfhijaaW.PrintMore
attribute [local go_sem] max2_int min2_int max_two min_two max_three min_three max_four min_four   -- for this text's walks alone
set_option linter.unusedVariables false
set_option linter.unusedSimpArgs false

/-! ### spec_IsWord: function 56 -/
def spec_IsWord.l0 : Nat → List Int → Int → Int → Option (Bool)
 | 0, _, _, _ => none
 | k + 1, x0, x1, x5 => if x5 < (x0.length : Int) then (if 0 ≤ x5 then (if (rd x0 x5) < 0 then (some false) else (if (rd x0 x5) ≥ x1 then (some false) else (spec_IsWord.l0 k x0 x1 (wrap64 (x5 + 1))))) else (none)) else ((spec_l1In.f x1 1 16).bind fun t876 => (if t876 = true then (some (decide ((x0.length : Int) ≤ 400))) else (some false)))
def spec_IsWord.f (k : Nat) (l0 : List Int) (a1 : Int) : Option (Bool) := spec_IsWord.l0 k l0 a1 0
theorem spec_IsWord.mono_l : ∀ k, (∀ y0 y1 y2, LeO (spec_IsWord.l0 k y0 y1 y2) (spec_IsWord.l0 (k + 1) y0 y1 y2))
 | 0 => fun _ _ _ r h => by simp [spec_IsWord.l0] at h
 | k + 1 => by
  have ih0 := spec_IsWord.mono_l k
  ·intro y0 y1 y2
   unfold spec_IsWord.l0
   repeat' first
   | (with_reducible exact ih0 _ _ _)
   | (with_reducible exact LeO.refl _)
   | (with_reducible exact LeO.none _)
   | (with_reducible refine LeO.ite ?_ ?_)
   | (with_reducible refine LeO.bind ?_ (fun _ => ?_))
   | exact ih0 _ _ _
   | exact LeO.none _
   | refine LeO.ite ?_ ?_
   | refine LeO.bind ?_ (fun _ => ?_)
theorem spec_IsWord.mono : ∀ a0 a1 k, LeO (spec_IsWord.f k a0 a1) (spec_IsWord.f (k + 1) a0 a1) := by
 intro a0 a1 k
 have ih0 := spec_IsWord.mono_l k
 unfold spec_IsWord.f
 repeat' first
   | (with_reducible exact ih0 _ _ _)
   | (with_reducible exact LeO.refl _)
   | (with_reducible exact LeO.none _)
   | (with_reducible refine LeO.ite ?_ ?_)
   | (with_reducible refine LeO.bind ?_ (fun _ => ?_))
   | exact ih0 _ _ _
   | exact LeO.none _
   | refine LeO.ite ?_ ?_
   | refine LeO.bind ?_ (fun _ => ?_)
set_option maxHeartbeats 8000000 in
set_option maxRecDepth 100000 in
theorem spec_IsWord.calls (k : Nat) (A0 : Option Addr) (c0 : Nat) (l0 : List Int) (a1 : Int) (r : Bool) (w : World) (hr0 : Kd.C (Kd.int .i64) w A0 l0.length l0) (hc0 : l0.length ≤ c0) (h : spec_IsWord.f k l0 a1 = some r) :
  Calls Try.prog 56 #[.slice A0 l0.length c0, .int .i64 a1] w fun e w' => e = .returned (.bool r) ∧ Drawn0 w w' := by
 have HR0 := Aside0.mk hr0
 have HC0 := Aside0.mk hc0
 clear hr0 hc0
 have H : (spec_IsWord.l0 k l0 a1 0) = some r := h
 clear h
 have H' := Aside0.mk H
 clear H
 go_enter Try.func56, Try.ntmps56
 go_wp2
 go_loopg [5] k (fun kq v5 w' => ∃ (x5_1 : Int), v5 = .int .i64 x5_1 ∧ Aside0 (spec_IsWord.l0 kq l0 a1 x5_1 = some r) ∧ Aside0 (kq ≤ k) ∧ Drawn0 w w')
 case atStart => exact ⟨(0), (by first | rfl | (simp; done) | (simp [*]; done)), H', ⟨Nat.le_refl _⟩, by repeat (first | exact Drawn0.refl _ | apply Drawn0.step)⟩
 case round =>
  clear H'
  try clear p2
  obtain ⟨x5_1, rfl, HA, HK1, ⟨m1, rfl⟩⟩ := hrel
  cases gk with
  | zero => exact absurd HA.out (by simp [spec_IsWord.l0])
  | succ k1 =>
   have H := HA.out
   clear HA
   simp only [spec_IsWord.l0] at H
   by_cases c3 : x5_1 < (l0.length : Int)
   ·rw [if_pos c3] at H
    have c3b0 : decide (x5_1 < (l0.length : Int)) = true := decide_eq_true c3
    clear c3
    by_cases c4 : 0 ≤ x5_1
    ·rw [if_pos c4] at H
     have c4b0 : decide (0 ≤ x5_1) = true := decide_eq_true c4
     clear c4
     by_cases c5 : (rd l0 x5_1) < 0
     ·rw [if_pos c5] at H
      have c5b0 : decide ((rd l0 x5_1) < 0) = true := decide_eq_true c5
      clear c5
      obtain rfl := Option.some.inj H
      have p874 : 0 ≤ (x5_1 : Int) := of_decide_eq_true (by first | (with_reducible assumption) | assumption)
      have q874 : x5_1 < (l0.length : Int) := of_decide_eq_true (by first | (with_reducible assumption) | assumption)
      obtain ⟨ad874, e874, hx874_0⟩ := Kd.at_int HR0.out x5_1 p874 q874
      cases e874
      replace p874 := eq_true p874
      replace q874 := eq_true q874
      go_wp2
      go_ret
      exact ⟨by first | rfl | (simp; done) | (simp [*]; done), by repeat (first | exact Drawn0.refl _ | apply Drawn0.step)⟩
     ·rw [if_neg c5] at H
      have c5b0 : decide ((rd l0 x5_1) < 0) = false := decide_eq_false c5
      clear c5
      by_cases c6 : (rd l0 x5_1) ≥ a1
      ·rw [if_pos c6] at H
       have c6b0 : decide (a1 ≤ (rd l0 x5_1)) = true := decide_eq_true c6
       clear c6
       obtain rfl := Option.some.inj H
       have p874 : 0 ≤ (x5_1 : Int) := of_decide_eq_true (by first | (with_reducible assumption) | assumption)
       have q874 : x5_1 < (l0.length : Int) := of_decide_eq_true (by first | (with_reducible assumption) | assumption)
       obtain ⟨ad874, e874, hx874_0⟩ := Kd.at_int HR0.out x5_1 p874 q874
       cases e874
       replace p874 := eq_true p874
       replace q874 := eq_true q874
       have p875 : 0 ≤ (x5_1 : Int) := of_decide_eq_true (by first | (with_reducible assumption) | assumption)
       have q875 : x5_1 < (l0.length : Int) := of_decide_eq_true (by first | (with_reducible assumption) | assumption)
       obtain ⟨ad875, e875, hx875_0⟩ := Kd.at_int HR0.out x5_1 p875 q875
       obtain rfl : ad874 = ad875 := (by injection e875)
       replace p875 := eq_true p875
       replace q875 := eq_true q875
       go_wp2
       go_ret
       exact ⟨by first | rfl | (simp; done) | (simp [*]; done), by repeat (first | exact Drawn0.refl _ | apply Drawn0.step)⟩
      ·rw [if_neg c6] at H
       have c6b0 : decide (a1 ≤ (rd l0 x5_1)) = false := decide_eq_false c6
       clear c6
       have H' := Aside0.mk H
       clear H
       have p874 : 0 ≤ (x5_1 : Int) := of_decide_eq_true (by first | (with_reducible assumption) | assumption)
       have q874 : x5_1 < (l0.length : Int) := of_decide_eq_true (by first | (with_reducible assumption) | assumption)
       obtain ⟨ad874, e874, hx874_0⟩ := Kd.at_int HR0.out x5_1 p874 q874
       cases e874
       replace p874 := eq_true p874
       replace q874 := eq_true q874
       have p875 : 0 ≤ (x5_1 : Int) := of_decide_eq_true (by first | (with_reducible assumption) | assumption)
       have q875 : x5_1 < (l0.length : Int) := of_decide_eq_true (by first | (with_reducible assumption) | assumption)
       obtain ⟨ad875, e875, hx875_0⟩ := Kd.at_int HR0.out x5_1 p875 q875
       obtain rfl : ad874 = ad875 := (by injection e875)
       replace p875 := eq_true p875
       replace q875 := eq_true q875
       go_wp2
       go_roundg k1
       case measure => have := HK1.out; omega
       case rel => exact ⟨(wrap64 (x5_1 + 1)), (by first | rfl | (simp; done) | (simp [*]; done)), H', ⟨by have := HK1.out; omega⟩, by repeat (first | exact Drawn0.refl _ | apply Drawn0.step)⟩
    ·rw [if_neg c4] at H
     exact absurd H (by simp)
   ·rw [if_neg c3] at H
    have c3b0 : decide (x5_1 < (l0.length : Int)) = false := decide_eq_false c3
    clear c3
    replace H := Option.bind_eq_some_iff.mp H
    obtain ⟨t876, A70, H⟩ := H
    replace H : (if t876 = true then (some (decide ((l0.length : Int) ≤ 400))) else (some false)) = some r := H
    have A7 := Aside0.mk A70
    clear A70
    by_cases c8 : t876 = true
    ·subst c8
     have H1 : (some (decide ((l0.length : Int) ≤ 400))) = some r := by rw [if_pos rfl] at H; exact H
     clear H
     have H := H1
     clear H1
     obtain rfl := Option.some.inj H
     go_wp2_with (first | ((with_reducible refine gate_callee (f := 82) rfl ?_); refine goesL_ (some 26) rfl rfl Try.func82 (by kernel_rfl) rfl #[.int .i64 a1, .int .i64 1, .int .i64 16] rfl (by (try simp only [List.map_toArray, List.map_cons, List.map_nil]); first | done | rfl | (simp only [List.length_drop, List.length_take]; rfl)) ?_; (with_reducible refine (spec_l1In.calls a1 1 16 true _ A7.out).mono ?_); rintro e w' ⟨rfl, ⟨nd, rfl⟩⟩; refine ⟨_, rfl, ?_⟩))
     go_ret
     exact ⟨by first | rfl | (simp; done) | (simp [*]; done), by repeat (first | exact Drawn0.refl _ | apply Drawn0.step)⟩
    ·replace c8 := Bool.eq_false_iff.mpr c8
     subst c8
     have H1 : (some false) = some r := by rw [if_neg (show ¬ (false = true) by decide)] at H; exact H
     clear H
     have H := H1
     clear H1
     obtain rfl := Option.some.inj H
     go_wp2_with (first | ((with_reducible refine gate_callee (f := 82) rfl ?_); refine goesL_ (some 26) rfl rfl Try.func82 (by kernel_rfl) rfl #[.int .i64 a1, .int .i64 1, .int .i64 16] rfl (by (try simp only [List.map_toArray, List.map_cons, List.map_nil]); first | done | rfl | (simp only [List.length_drop, List.length_take]; rfl)) ?_; (with_reducible refine (spec_l1In.calls a1 1 16 false _ A7.out).mono ?_); rintro e w' ⟨rfl, ⟨nd, rfl⟩⟩; refine ⟨_, rfl, ?_⟩))
     go_ret
     exact ⟨by first | rfl | (simp; done) | (simp [*]; done), by repeat (first | exact Drawn0.refl _ | apply Drawn0.step)⟩

end Go.Proofs.Ythkkpdgadfhijaa.M
/- Walks for this claim, written by a program of mine over the kit's print. No condition of mine. -/
namespace Go.Proofs.Ythkkpdgadfhijaa.M
open Go.RowKit Go.Proofs.Ythkkpdgadfhijaa.KW Go.Proofs.YthkkpdgadfhijaaW.PrintWords Go.Proofs.YthkkpdgadfhijaaW.PrintLast Go.Proofs.YthkkpdgadfhijaaW.PrintMore
attribute [local go_sem] max2_int min2_int max_two min_two max_three min_three max_four min_four   -- for this text's walks alone
set_option linter.unusedVariables false
set_option linter.unusedSimpArgs false

/-! ### impl_areLetters: function 150 -/
def impl_areLetters.l0 : Nat → Int → List Int → Int → Int → Option (Bool)
 | 0, _, _, _, _ => none
 | k + 1, x1, x7, x8, x9 => if x9 < x8 then (if 0 ≤ x9 then (if x9 < (x7.length : Int) then (if (rd x7 x9) < 0 then (some false) else (if (rd x7 x9) ≥ x1 then (some false) else (impl_areLetters.l0 k x1 x7 x8 (wrap64 (x9 + 1))))) else (none)) else (none)) else (some true)
def impl_areLetters.f (k : Nat) (l0 : List Int) (a1 : Int) : Option (Bool) := impl_areLetters.l0 k a1 l0 (l0.length : Int) 0
theorem impl_areLetters.mono_l : ∀ k, (∀ y0 y1 y2 y3, LeO (impl_areLetters.l0 k y0 y1 y2 y3) (impl_areLetters.l0 (k + 1) y0 y1 y2 y3))
 | 0 => fun _ _ _ _ r h => by simp [impl_areLetters.l0] at h
 | k + 1 => by
  have ih0 := impl_areLetters.mono_l k
  ·intro y0 y1 y2 y3
   unfold impl_areLetters.l0
   repeat' first
   | (with_reducible exact ih0 _ _ _ _)
   | (with_reducible exact LeO.refl _)
   | (with_reducible exact LeO.none _)
   | (with_reducible refine LeO.ite ?_ ?_)
   | (with_reducible refine LeO.bind ?_ (fun _ => ?_))
   | exact ih0 _ _ _ _
   | exact LeO.none _
   | refine LeO.ite ?_ ?_
   | refine LeO.bind ?_ (fun _ => ?_)
theorem impl_areLetters.mono : ∀ a0 a1 k, LeO (impl_areLetters.f k a0 a1) (impl_areLetters.f (k + 1) a0 a1) := by
 intro a0 a1 k
 have ih0 := impl_areLetters.mono_l k
 unfold impl_areLetters.f
 repeat' first
   | (with_reducible exact ih0 _ _ _ _)
   | (with_reducible exact LeO.refl _)
   | (with_reducible exact LeO.none _)
   | (with_reducible refine LeO.ite ?_ ?_)
   | (with_reducible refine LeO.bind ?_ (fun _ => ?_))
   | exact ih0 _ _ _ _
   | exact LeO.none _
   | refine LeO.ite ?_ ?_
   | refine LeO.bind ?_ (fun _ => ?_)
set_option maxHeartbeats 8000000 in
set_option maxRecDepth 100000 in
theorem impl_areLetters.calls (k : Nat) (A0 : Option Addr) (c0 : Nat) (l0 : List Int) (a1 : Int) (r : Bool) (w : World) (hr0 : Kd.C (Kd.int .i64) w A0 l0.length l0) (hc0 : l0.length ≤ c0) (h : impl_areLetters.f k l0 a1 = some r) :
  Calls Try.prog 150 #[.slice A0 l0.length c0, .int .i64 a1] w fun e w' => e = .returned (.bool r) ∧ Drawn0 w w' := by
 have HR0 := Aside0.mk hr0
 have HC0 := Aside0.mk hc0
 clear hr0 hc0
 have H : (impl_areLetters.l0 k a1 l0 (l0.length : Int) 0) = some r := h
 clear h
 have H' := Aside0.mk H
 clear H
 go_enter Try.func150, Try.ntmps150
 go_wp2
 go_loopg [9] k (fun kq v9 w' => ∃ (x9_1 : Int), v9 = .int .i64 x9_1 ∧ Aside0 (impl_areLetters.l0 kq a1 l0 (l0.length : Int) x9_1 = some r) ∧ Aside0 (kq ≤ k) ∧ Drawn0 w w')
 case atStart => exact ⟨(0), (by first | rfl | (simp; done) | (simp [*]; done)), H', ⟨Nat.le_refl _⟩, by repeat (first | exact Drawn0.refl _ | apply Drawn0.step)⟩
 case round =>
  clear H'
  try clear c1
  try clear p2
  obtain ⟨x9_1, rfl, HA, HK1, ⟨m1, rfl⟩⟩ := hrel
  cases gk with
  | zero => exact absurd HA.out (by simp [impl_areLetters.l0])
  | succ k1 =>
   have H := HA.out
   clear HA
   simp only [impl_areLetters.l0] at H
   by_cases c3 : x9_1 < (l0.length : Int)
   ·rw [if_pos c3] at H
    have c3b0 : decide (x9_1 < (l0.length : Int)) = true := decide_eq_true c3
    clear c3
    by_cases c4 : 0 ≤ x9_1
    ·rw [if_pos c4] at H
     have c4b0 : decide (0 ≤ x9_1) = true := decide_eq_true c4
     clear c4
     by_cases c5 : x9_1 < (l0.length : Int)
     ·rw [if_pos c5] at H
      have c5b0 : decide (x9_1 < (l0.length : Int)) = true := decide_eq_true c5
      clear c5
      by_cases c6 : (rd l0 x9_1) < 0
      ·rw [if_pos c6] at H
       have c6b0 : decide ((rd l0 x9_1) < 0) = true := decide_eq_true c6
       clear c6
       obtain rfl := Option.some.inj H
       have p964 : 0 ≤ (x9_1 : Int) := of_decide_eq_true (by first | (with_reducible assumption) | assumption)
       have q964 : x9_1 < (l0.length : Int) := of_decide_eq_true (by first | (with_reducible assumption) | assumption)
       obtain ⟨ad964, e964, hx964_0⟩ := Kd.at_int HR0.out x9_1 p964 q964
       cases e964
       replace p964 := eq_true p964
       replace q964 := eq_true q964
       go_wp2
       go_ret
       exact ⟨by first | rfl | (simp; done) | (simp [*]; done), by repeat (first | exact Drawn0.refl _ | apply Drawn0.step)⟩
      ·rw [if_neg c6] at H
       have c6b0 : decide ((rd l0 x9_1) < 0) = false := decide_eq_false c6
       clear c6
       by_cases c7 : (rd l0 x9_1) ≥ a1
       ·rw [if_pos c7] at H
        have c7b0 : decide (a1 ≤ (rd l0 x9_1)) = true := decide_eq_true c7
        clear c7
        obtain rfl := Option.some.inj H
        have p964 : 0 ≤ (x9_1 : Int) := of_decide_eq_true (by first | (with_reducible assumption) | assumption)
        have q964 : x9_1 < (l0.length : Int) := of_decide_eq_true (by first | (with_reducible assumption) | assumption)
        obtain ⟨ad964, e964, hx964_0⟩ := Kd.at_int HR0.out x9_1 p964 q964
        cases e964
        replace p964 := eq_true p964
        replace q964 := eq_true q964
        go_wp2
        go_ret
        exact ⟨by first | rfl | (simp; done) | (simp [*]; done), by repeat (first | exact Drawn0.refl _ | apply Drawn0.step)⟩
       ·rw [if_neg c7] at H
        have c7b0 : decide (a1 ≤ (rd l0 x9_1)) = false := decide_eq_false c7
        clear c7
        have H' := Aside0.mk H
        clear H
        have p964 : 0 ≤ (x9_1 : Int) := of_decide_eq_true (by first | (with_reducible assumption) | assumption)
        have q964 : x9_1 < (l0.length : Int) := of_decide_eq_true (by first | (with_reducible assumption) | assumption)
        obtain ⟨ad964, e964, hx964_0⟩ := Kd.at_int HR0.out x9_1 p964 q964
        cases e964
        replace p964 := eq_true p964
        replace q964 := eq_true q964
        go_wp2
        go_roundg k1
        case measure => have := HK1.out; omega
        case rel => exact ⟨(wrap64 (x9_1 + 1)), (by first | rfl | (simp; done) | (simp [*]; done)), H', ⟨by have := HK1.out; omega⟩, by repeat (first | exact Drawn0.refl _ | apply Drawn0.step)⟩
     ·rw [if_neg c5] at H
      exact absurd H (by simp)
    ·rw [if_neg c4] at H
     exact absurd H (by simp)
   ·rw [if_neg c3] at H
    have c3b0 : decide (x9_1 < (l0.length : Int)) = false := decide_eq_false c3
    clear c3
    obtain rfl := Option.some.inj H
    go_wp2
    go_ret
    exact ⟨by first | rfl | (simp; done) | (simp [*]; done), by repeat (first | exact Drawn0.refl _ | apply Drawn0.step)⟩

end Go.Proofs.Ythkkpdgadfhijaa.M
/- Walks for this claim, written by a program of mine over the kit's print. No condition of mine. -/
namespace Go.Proofs.Ythkkpdgadfhijaa.M
open Go.RowKit Go.Proofs.Ythkkpdgadfhijaa.KW Go.Proofs.YthkkpdgadfhijaaW.PrintWords Go.Proofs.YthkkpdgadfhijaaW.PrintLast Go.Proofs.YthkkpdgadfhijaaW.PrintMore
attribute [local go_sem] max2_int min2_int max_two min_two max_three min_three max_four min_four   -- for this text's walks alone
set_option linter.unusedVariables false
set_option linter.unusedSimpArgs false

/-! ### impl_IsWord: function 111 -/
def impl_IsWord.f (k : Nat) (l0 : List Int) (a1 : Int) : Option (Bool) := if a1 ≥ 1 then (if a1 ≤ 16 then (if (l0.length : Int) ≤ 400 then ((impl_areLetters.f k l0 a1).bind fun t965 => (some t965)) else (some false)) else (some false)) else (some false)
theorem impl_IsWord.mono : ∀ a0 a1 k, LeO (impl_IsWord.f k a0 a1) (impl_IsWord.f (k + 1) a0 a1) := by
 intro a0 a1 k
 unfold impl_IsWord.f
 repeat' first
   | (with_reducible exact impl_areLetters.mono _ _ _)
   | (with_reducible exact LeO.refl _)
   | (with_reducible exact LeO.none _)
   | (with_reducible refine LeO.ite ?_ ?_)
   | (with_reducible refine LeO.bind ?_ (fun _ => ?_))
   | exact impl_areLetters.mono _ _ _
   | exact LeO.none _
   | refine LeO.ite ?_ ?_
   | refine LeO.bind ?_ (fun _ => ?_)
set_option maxHeartbeats 8000000 in
set_option maxRecDepth 100000 in
theorem impl_IsWord.calls (k : Nat) (A0 : Option Addr) (c0 : Nat) (l0 : List Int) (a1 : Int) (r : Bool) (w : World) (hr0 : Kd.C (Kd.int .i64) w A0 l0.length l0) (hc0 : l0.length ≤ c0) (h : impl_IsWord.f k l0 a1 = some r) :
  Calls Try.prog 111 #[.slice A0 l0.length c0, .int .i64 a1] w fun e w' => e = .returned (.bool r) ∧ Drawn0 w w' := by
 have HR0 := Aside0.mk hr0
 have HC0 := Aside0.mk hc0
 clear hr0 hc0
 have H : (if a1 ≥ 1 then (if a1 ≤ 16 then (if (l0.length : Int) ≤ 400 then ((impl_areLetters.f k l0 a1).bind fun t965 => (some t965)) else (some false)) else (some false)) else (some false)) = some r := h
 clear h
 by_cases c3 : a1 ≥ 1
 ·rw [if_pos c3] at H
  have c3b0 : decide (1 ≤ a1) = true := decide_eq_true c3
  clear c3
  by_cases c4 : a1 ≤ 16
  ·rw [if_pos c4] at H
   have c4b0 : decide (a1 ≤ 16) = true := decide_eq_true c4
   clear c4
   by_cases c5 : (l0.length : Int) ≤ 400
   ·rw [if_pos c5] at H
    have c5b0 : decide ((l0.length : Int) ≤ 400) = true := decide_eq_true c5
    have c5b1 : decide (l0.length ≤ 400) = true := decide_eq_true (by omega)
    clear c5
    replace H := Option.bind_eq_some_iff.mp H
    obtain ⟨t965, A60, H⟩ := H
    replace H : (some t965) = some r := H
    have A6 := Aside0.mk A60
    clear A60
    obtain rfl := Option.some.inj H
    go_enter Try.func111, Try.ntmps111
    go_wp2_with (first | (go_at_call 150; (with_reducible refine (impl_areLetters.calls k _ _ l0 a1 t965 _ ?side1 ?side2 A6.out).mono ?_); (case side1 => repeat (first | exact HR0.out | (with_reducible refine Kd.C_alloc ?_ _) | (with_reducible refine Kd.C_drewN ?_ _) | (with_reducible refine Kd.C_drew ?_))); (case side2 => exact HC0.out); rintro e w' ⟨rfl, ⟨nd, rfl⟩⟩))
    go_ret
    exact ⟨by first | rfl | (simp; done) | (simp [*]; done), by repeat (first | exact Drawn0.refl _ | apply Drawn0.step)⟩
   ·rw [if_neg c5] at H
    have c5b0 : decide ((l0.length : Int) ≤ 400) = false := decide_eq_false c5
    have c5b1 : decide (l0.length ≤ 400) = false := decide_eq_false (by omega)
    clear c5
    obtain rfl := Option.some.inj H
    go_enter Try.func111, Try.ntmps111
    go_wp2
    go_ret
    exact ⟨by first | rfl | (simp; done) | (simp [*]; done), by repeat (first | exact Drawn0.refl _ | apply Drawn0.step)⟩
  ·rw [if_neg c4] at H
   have c4b0 : decide (a1 ≤ 16) = false := decide_eq_false c4
   clear c4
   obtain rfl := Option.some.inj H
   go_enter Try.func111, Try.ntmps111
   go_wp2
   go_ret
   exact ⟨by first | rfl | (simp; done) | (simp [*]; done), by repeat (first | exact Drawn0.refl _ | apply Drawn0.step)⟩
 ·rw [if_neg c3] at H
  have c3b0 : decide (1 ≤ a1) = false := decide_eq_false c3
  clear c3
  obtain rfl := Option.some.inj H
  go_enter Try.func111, Try.ntmps111
  go_wp2
  go_ret
  exact ⟨by first | rfl | (simp; done) | (simp [*]; done), by repeat (first | exact Drawn0.refl _ | apply Drawn0.step)⟩

end Go.Proofs.Ythkkpdgadfhijaa.M
/- Words as values: program and reference tell the same. No condition but lengths that fit. -/
namespace Go.Proofs.Ythkkpdgadfhijaa.M
open Go.RowKit Go.Proofs.YthkkpdgadfhijaaW.PrintWords Go.Proofs.Ythkkpdgadfhijaa.K
set_option linter.unusedVariables false
def isL (w : List Int) (n : Nat) : Bool := w.all fun x => decide (0 ≤ x ∧ x < (n : Int))
theorem isL_cons (x : Int) (w : List Int) (n : Nat) : isL (x :: w) n = (decide (0 ≤ x ∧ x < (n : Int)) && isL w n) := by simp [isL]
def iw (w : List Int) (n : Nat) : Bool := isL w n && (decide (1 ≤ n ∧ n ≤ 16) && decide (w.length ≤ 400))

theorem specIsWord_ev (w : List Int) (n : Nat) (hw : w.length ≤ 1048576) : Ev (fun k => spec_IsWord.f k w (n : Int)) (iw w n) := by
  have key : ∀ i, i ≤ w.length → Ev (fun k => spec_IsWord.l0 k w (n : Int) (i : Int)) (isL (w.drop i) n && (decide (1 ≤ n ∧ n ≤ 16) && decide (w.length ≤ 400))) := by
    refine down w.length ?_ ?_
    · refine Ev.step (fun k => by simp only [spec_IsWord.l0]; rw [_root_.if_neg (by omega)]) ?_
      refine Ev.bind (Ev.val (in_val _ _ _)) ?_
      rw [List.drop_length]
      by_cases q : 1 ≤ n ∧ n ≤ 16
      · rw [decide_eq_true (show 1 ≤ (n : Int) ∧ (n : Int) ≤ 16 by omega)]
        refine Ev.if_pos rfl (Ev.same (Ev.some _) ?_)
        rw [decide_eq_true q]; simp [isL]; omega
      · rw [decide_eq_false (show ¬ (1 ≤ (n : Int) ∧ (n : Int) ≤ 16) by omega)]
        refine Ev.if_neg (by simp) (Ev.same (Ev.some _) ?_)
        rw [decide_eq_false q]; simp
    · intro i hi ih
      rw [drop_eq w i hi, isL_cons]
      refine Ev.step (fun k => by simp only [spec_IsWord.l0]; rw [_root_.if_pos (by omega), _root_.if_pos (by omega), wsucc (by omega), rd_get w i hi]) ?_
      refine Ev.ite (fun q => ?_) (fun q => ?_)
      · rw [decide_eq_false (by omega)]; exact Ev.some _
      · refine Ev.ite (fun q2 => ?_) (fun q2 => ?_)
        · rw [decide_eq_false (by omega)]; exact Ev.some _
        · rw [decide_eq_true (by omega), Bool.true_and]; exact ih
  exact key 0 (by omega)
theorem areLetters_ev (w : List Int) (n : Nat) (hw : w.length ≤ 1048576) : Ev (fun k => impl_areLetters.f k w (n : Int)) (isL w n) := by
  have key : ∀ i, i ≤ w.length → Ev (fun k => impl_areLetters.l0 k (n : Int) w (w.length : Int) (i : Int)) (isL (w.drop i) n) := by
    refine down w.length ?_ ?_
    · refine Ev.step (fun k => by simp only [impl_areLetters.l0]; rw [_root_.if_neg (by omega)]) ?_
      rw [List.drop_length]; exact Ev.some _
    · intro i hi ih
      rw [drop_eq w i hi, isL_cons]
      refine Ev.step (fun k => by simp only [impl_areLetters.l0]; rw [_root_.if_pos (by omega), _root_.if_pos (by omega), _root_.if_pos (by omega), wsucc (by omega), rd_get w i hi]) ?_
      refine Ev.ite (fun q => ?_) (fun q => ?_)
      · rw [decide_eq_false (by omega)]; exact Ev.some _
      · refine Ev.ite (fun q2 => ?_) (fun q2 => ?_)
        · rw [decide_eq_false (by omega)]; exact Ev.some _
        · rw [decide_eq_true (by omega), Bool.true_and]; exact ih
  unfold impl_areLetters.f
  exact key 0 (by omega)
theorem implIsWord_ev (w : List Int) (n : Nat) (hw : w.length ≤ 1048576) : Ev (fun k => impl_IsWord.f k w (n : Int)) (iw w n) := by
  unfold impl_IsWord.f iw
  refine Ev.ite (fun q => ?_) (fun q => ?_)
  · refine Ev.ite (fun q2 => ?_) (fun q2 => ?_)
    · refine Ev.ite (fun q3 => ?_) (fun q3 => ?_)
      · refine Ev.bind (areLetters_ev w n hw) (Ev.same (Ev.some _) ?_)
        rw [decide_eq_true (show 1 ≤ n ∧ n ≤ 16 by omega), decide_eq_true (show w.length ≤ 400 by omega)]; simp
      · refine Ev.same (Ev.some _) ?_
        rw [decide_eq_false (show ¬ w.length ≤ 400 by omega)]; simp
    · refine Ev.same (Ev.some _) ?_
      rw [decide_eq_false (show ¬ (1 ≤ n ∧ n ≤ 16) by omega)]; simp
  · refine Ev.same (Ev.some _) ?_
    rw [decide_eq_false (show ¬ (1 ≤ n ∧ n ≤ 16) by omega)]; simp

end Go.Proofs.Ythkkpdgadfhijaa.M
/- Walks for this claim, written by a program of mine over the kit's print. No condition of mine. -/
namespace Go.Proofs.Ythkkpdgadfhijaa.M
open Go.RowKit Go.Proofs.Ythkkpdgadfhijaa.KW Go.Proofs.YthkkpdgadfhijaaW.PrintWords Go.Proofs.YthkkpdgadfhijaaW.PrintLast Go.Proofs.YthkkpdgadfhijaaW.PrintMore
attribute [local go_sem] max2_int min2_int max_two min_two max_three min_three max_four min_four   -- for this text's walks alone
set_option linter.unusedVariables false
set_option linter.unusedSimpArgs false

/-! ### laws_eqIntS: function 16 -/
def laws_eqIntS.l0 : Nat → List Int → List Int → Int → Option (Bool)
 | 0, _, _, _ => none
 | k + 1, x0, x1, x5 => if x5 < (x0.length : Int) then (if 0 ≤ x5 then (if x5 < (x1.length : Int) then (if (rd x0 x5) = (rd x1 x5) then (laws_eqIntS.l0 k x0 x1 (wrap64 (x5 + 1))) else (some false)) else (none)) else (none)) else (some true)
def laws_eqIntS.f (k : Nat) (l0 : List Int) (l1 : List Int) : Option (Bool) := if (l0.length : Int) = (l1.length : Int) then (laws_eqIntS.l0 k l0 l1 0) else (some false)
theorem laws_eqIntS.mono_l : ∀ k, (∀ y0 y1 y2, LeO (laws_eqIntS.l0 k y0 y1 y2) (laws_eqIntS.l0 (k + 1) y0 y1 y2))
 | 0 => fun _ _ _ r h => by simp [laws_eqIntS.l0] at h
 | k + 1 => by
  have ih0 := laws_eqIntS.mono_l k
  ·intro y0 y1 y2
   unfold laws_eqIntS.l0
   repeat' first
   | (with_reducible exact ih0 _ _ _)
   | (with_reducible exact LeO.refl _)
   | (with_reducible exact LeO.none _)
   | (with_reducible refine LeO.ite ?_ ?_)
   | (with_reducible refine LeO.bind ?_ (fun _ => ?_))
   | exact ih0 _ _ _
   | exact LeO.none _
   | refine LeO.ite ?_ ?_
   | refine LeO.bind ?_ (fun _ => ?_)
theorem laws_eqIntS.mono : ∀ a0 a1 k, LeO (laws_eqIntS.f k a0 a1) (laws_eqIntS.f (k + 1) a0 a1) := by
 intro a0 a1 k
 have ih0 := laws_eqIntS.mono_l k
 unfold laws_eqIntS.f
 repeat' first
   | (with_reducible exact ih0 _ _ _)
   | (with_reducible exact LeO.refl _)
   | (with_reducible exact LeO.none _)
   | (with_reducible refine LeO.ite ?_ ?_)
   | (with_reducible refine LeO.bind ?_ (fun _ => ?_))
   | exact ih0 _ _ _
   | exact LeO.none _
   | refine LeO.ite ?_ ?_
   | refine LeO.bind ?_ (fun _ => ?_)
set_option maxHeartbeats 8000000 in
set_option maxRecDepth 100000 in
theorem laws_eqIntS.calls (k : Nat) (A0 : Option Addr) (c0 : Nat) (l0 : List Int) (A1 : Option Addr) (c1 : Nat) (l1 : List Int) (r : Bool) (w : World) (hr0 : Kd.C (Kd.int .i64) w A0 l0.length l0) (hc0 : l0.length ≤ c0) (hr1 : Kd.C (Kd.int .i64) w A1 l1.length l1) (hc1 : l1.length ≤ c1) (h : laws_eqIntS.f k l0 l1 = some r) :
  Calls Try.prog 16 #[.slice A0 l0.length c0, .slice A1 l1.length c1] w fun e w' => e = .returned (.bool r) ∧ Drawn0 w w' := by
 have HR0 := Aside0.mk hr0
 have HC0 := Aside0.mk hc0
 clear hr0 hc0
 have HR1 := Aside0.mk hr1
 have HC1 := Aside0.mk hc1
 clear hr1 hc1
 have H : (if (l0.length : Int) = (l1.length : Int) then (laws_eqIntS.l0 k l0 l1 0) else (some false)) = some r := h
 clear h
 by_cases c3 : (l0.length : Int) = (l1.length : Int)
 ·rw [if_pos c3] at H
  have c3b0 : ((l0.length : Int) == (l1.length : Int)) = true := beq_iff_eq.mpr c3
  have c3b1 : ((l0.length : Int) != (l1.length : Int)) = false := bne_eq_false_iff_eq.mpr c3
  have c3b2 : (l0.length == l1.length) = true := by first | simpa using c3 | (simp at c3 ⊢; omega)
  clear c3
  have H' := Aside0.mk H
  clear H
  go_enter Try.func16, Try.ntmps16
  go_wp2
  repeat (go_quiet (fail); try go_wp2)
  go_loopg [5] k (fun kq v5 w' => ∃ (x5_1 : Int), v5 = .int .i64 x5_1 ∧ Aside0 (laws_eqIntS.l0 kq l0 l1 x5_1 = some r) ∧ Aside0 (kq ≤ k) ∧ Drawn0 w w')
  case atStart => exact ⟨(0), (by first | rfl | (simp; done) | (simp [*]; done)), H', ⟨Nat.le_refl _⟩, by repeat (first | exact Drawn0.refl _ | apply Drawn0.step)⟩
  case round =>
   clear H'
   try clear c1
   try clear p2
   try clear c3
   try clear c3b0
   try clear c3b1
   try clear c3b2
   obtain ⟨x5_1, rfl, HA, HK1, ⟨m1, rfl⟩⟩ := hrel
   cases gk with
   | zero => exact absurd HA.out (by simp [laws_eqIntS.l0])
   | succ k1 =>
    have H := HA.out
    clear HA
    simp only [laws_eqIntS.l0] at H
    by_cases c4 : x5_1 < (l0.length : Int)
    ·rw [if_pos c4] at H
     have c4b0 : decide (x5_1 < (l0.length : Int)) = true := decide_eq_true c4
     clear c4
     by_cases c5 : 0 ≤ x5_1
     ·rw [if_pos c5] at H
      have c5b0 : decide (0 ≤ x5_1) = true := decide_eq_true c5
      clear c5
      by_cases c6 : x5_1 < (l1.length : Int)
      ·rw [if_pos c6] at H
       have c6b0 : decide (x5_1 < (l1.length : Int)) = true := decide_eq_true c6
       clear c6
       by_cases c7 : (rd l0 x5_1) = (rd l1 x5_1)
       ·rw [if_pos c7] at H
        have c7b0 : ((rd l0 x5_1) == (rd l1 x5_1)) = true := beq_iff_eq.mpr c7
        have c7b1 : ((rd l0 x5_1) != (rd l1 x5_1)) = false := bne_eq_false_iff_eq.mpr c7
        clear c7
        have H' := Aside0.mk H
        clear H
        have p145 : 0 ≤ (x5_1 : Int) := of_decide_eq_true (by first | (with_reducible assumption) | assumption)
        have q145 : x5_1 < (l0.length : Int) := of_decide_eq_true (by first | (with_reducible assumption) | assumption)
        obtain ⟨ad145, e145, hx145_0⟩ := Kd.at_int HR0.out x5_1 p145 q145
        cases e145
        replace p145 := eq_true p145
        replace q145 := eq_true q145
        have p146 : 0 ≤ (x5_1 : Int) := of_decide_eq_true (by first | (with_reducible assumption) | assumption)
        have q146 : x5_1 < (l1.length : Int) := of_decide_eq_true (by first | (with_reducible assumption) | assumption)
        obtain ⟨ad146, e146, hx146_0⟩ := Kd.at_int HR1.out x5_1 p146 q146
        cases e146
        replace p146 := eq_true p146
        replace q146 := eq_true q146
        go_wp2
        repeat (go_quiet (fail); try go_wp2)
        go_roundg k1
        case measure => have := HK1.out; omega
        case rel => exact ⟨(wrap64 (x5_1 + 1)), (by first | rfl | (simp; done) | (simp [*]; done)), H', ⟨by have := HK1.out; omega⟩, by repeat (first | exact Drawn0.refl _ | apply Drawn0.step)⟩
       ·rw [if_neg c7] at H
        have c7b0 : ((rd l0 x5_1) == (rd l1 x5_1)) = false := beq_eq_false_iff_ne.mpr c7
        have c7b1 : ((rd l0 x5_1) != (rd l1 x5_1)) = true := bne_iff_ne.mpr c7
        obtain rfl := Option.some.inj H
        have p145 : 0 ≤ (x5_1 : Int) := of_decide_eq_true (by first | (with_reducible assumption) | assumption)
        have q145 : x5_1 < (l0.length : Int) := of_decide_eq_true (by first | (with_reducible assumption) | assumption)
        obtain ⟨ad145, e145, hx145_0⟩ := Kd.at_int HR0.out x5_1 p145 q145
        cases e145
        replace p145 := eq_true p145
        replace q145 := eq_true q145
        have p146 : 0 ≤ (x5_1 : Int) := of_decide_eq_true (by first | (with_reducible assumption) | assumption)
        have q146 : x5_1 < (l1.length : Int) := of_decide_eq_true (by first | (with_reducible assumption) | assumption)
        obtain ⟨ad146, e146, hx146_0⟩ := Kd.at_int HR1.out x5_1 p146 q146
        cases e146
        replace p146 := eq_true p146
        replace q146 := eq_true q146
        go_wp2
        repeat (go_quiet (fail); try go_wp2)
        go_ret
        exact ⟨by first | rfl | (simp; done) | (simp [*]; done), by repeat (first | exact Drawn0.refl _ | apply Drawn0.step)⟩
      ·rw [if_neg c6] at H
       exact absurd H (by simp)
     ·rw [if_neg c5] at H
      exact absurd H (by simp)
    ·rw [if_neg c4] at H
     have c4b0 : decide (x5_1 < (l0.length : Int)) = false := decide_eq_false c4
     clear c4
     obtain rfl := Option.some.inj H
     go_wp2
     repeat (go_quiet (fail); try go_wp2)
     go_ret
     exact ⟨by first | rfl | (simp; done) | (simp [*]; done), by repeat (first | exact Drawn0.refl _ | apply Drawn0.step)⟩
 ·rw [if_neg c3] at H
  have c3b0 : ((l0.length : Int) == (l1.length : Int)) = false := beq_eq_false_iff_ne.mpr c3
  have c3b1 : ((l0.length : Int) != (l1.length : Int)) = true := bne_iff_ne.mpr c3
  have c3b2 : (l0.length == l1.length) = false := by first | simpa using c3 | (simp at c3 ⊢; omega)
  obtain rfl := Option.some.inj H
  go_enter Try.func16, Try.ntmps16
  go_wp2
  repeat (go_quiet (fail); try go_wp2)
  go_ret
  exact ⟨by first | rfl | (simp; done) | (simp [*]; done), by repeat (first | exact Drawn0.refl _ | apply Drawn0.step)⟩

end Go.Proofs.Ythkkpdgadfhijaa.M
/- Walks for this claim, written by a program of mine over the kit's print. No condition of mine. -/
namespace Go.Proofs.Ythkkpdgadfhijaa.M
open Go.RowKit Go.Proofs.Ythkkpdgadfhijaa.KW Go.Proofs.YthkkpdgadfhijaaW.PrintWords Go.Proofs.YthkkpdgadfhijaaW.PrintLast Go.Proofs.YthkkpdgadfhijaaW.PrintMore
attribute [local go_sem] max2_int min2_int max_two min_two max_three min_three max_four min_four   -- for this text's walks alone
set_option linter.unusedVariables false
set_option linter.unusedSimpArgs false

/-! ### laws_markIntS: function 17 -/
def laws_markIntS.l0 : Nat → List Int → Int → Int → Option (Int × List Int)
 | 0, _, _, _ => none
 | k + 1, x0, x1, x5 => if x5 < (x0.length : Int) then (if 0 ≤ x5 then (laws_markIntS.l0 k (x0.set (x5 : Int).toNat x1) (wrap64 (x1 + 1)) (wrap64 (x5 + 1))) else (none)) else (some (x1, x0))
def laws_markIntS.f (k : Nat) (l0 : List Int) (a1 : Int) : Option (Int × List Int) := laws_markIntS.l0 k l0 a1 0
theorem laws_markIntS.mono_l : ∀ k, (∀ y0 y1 y2, LeO (laws_markIntS.l0 k y0 y1 y2) (laws_markIntS.l0 (k + 1) y0 y1 y2))
 | 0 => fun _ _ _ r h => by simp [laws_markIntS.l0] at h
 | k + 1 => by
  have ih0 := laws_markIntS.mono_l k
  ·intro y0 y1 y2
   unfold laws_markIntS.l0
   repeat' first
   | (with_reducible exact ih0 _ _ _)
   | (with_reducible exact LeO.refl _)
   | (with_reducible exact LeO.none _)
   | (with_reducible refine LeO.ite ?_ ?_)
   | (with_reducible refine LeO.bind ?_ (fun _ => ?_))
   | exact ih0 _ _ _
   | exact LeO.none _
   | refine LeO.ite ?_ ?_
   | refine LeO.bind ?_ (fun _ => ?_)
theorem laws_markIntS.mono : ∀ a0 a1 k, LeO (laws_markIntS.f k a0 a1) (laws_markIntS.f (k + 1) a0 a1) := by
 intro a0 a1 k
 have ih0 := laws_markIntS.mono_l k
 unfold laws_markIntS.f
 repeat' first
   | (with_reducible exact ih0 _ _ _)
   | (with_reducible exact LeO.refl _)
   | (with_reducible exact LeO.none _)
   | (with_reducible refine LeO.ite ?_ ?_)
   | (with_reducible refine LeO.bind ?_ (fun _ => ?_))
   | exact ih0 _ _ _
   | exact LeO.none _
   | refine LeO.ite ?_ ?_
   | refine LeO.bind ?_ (fun _ => ?_)
set_option maxHeartbeats 8000000 in
set_option maxRecDepth 100000 in
theorem laws_markIntS.calls (k : Nat) (P0_ : Nat → Prop) (u9000_ : Value) (l0 : List Int) (a1 : Int) (r1 : Int) (r2 : List Int) (w0 w : World) (hB : Below w0.heap.size w0 w) (ho0 : Kd.R (Kd.int .i64) 3 w w0.heap.size P0_ u9000_ l0) (h : laws_markIntS.f k l0 a1 = some (r1, r2)) :
  Calls Try.prog 17 #[u9000_, .int .i64 a1] w fun e w' => e = .returned (.int .i64 r1) ∧ Kd.R (Kd.int .i64) 3 w' w0.heap.size (fun k_ => (P0_ k_ ∨ w.heap.size ≤ k_)) u9000_ r2 ∧ Below w0.heap.size w0 w' ∧ Kept w w' (fun k_ => P0_ k_) := by
 have HO0 := Aside0.mk (show Kd.R (Kd.int .i64) 3 w w0.heap.size (fun k_ => (P0_ k_ ∨ w.heap.size ≤ k_)) u9000_ l0 from Kd.R_mono ho0 (fun k_ hk => (.inl hk)))
 have HK := Aside0.mk (Kept.refl w (fun k_ => P0_ k_))
 have HW0 := Aside0.mk hB.size
 have HB := Aside0.mk hB
 clear hB
 have H : (laws_markIntS.l0 k l0 a1 0) = some (r1, r2) := h
 clear h
 have H' := Aside0.mk H
 clear H
 go_enter Try.func17, Try.ntmps17
 go_wp2
 go_loopg [1, 5] k (fun kq v1 v5 w' => ∃ (x0_1 : List Int) (x1_1 : Int) (x5_1 : Int), v1 = .int .i64 x1_1 ∧ v5 = .int .i64 x5_1 ∧ Aside0 (laws_markIntS.l0 kq x0_1 x1_1 x5_1 = some (r1, r2)) ∧ Aside0 (kq ≤ k) ∧ Aside0 (Kd.R (Kd.int .i64) 3 w' w0.heap.size (fun k_ => (P0_ k_ ∨ w.heap.size ≤ k_)) u9000_ x0_1) ∧ Aside0 (Kept w w' (fun k_ => P0_ k_)) ∧ Aside0 (Below w0.heap.size w0 w'))
 case atStart => exact ⟨(l0), (a1), (0), (by first | rfl | (simp; done) | (simp [*]; done)), (by first | rfl | (simp; done) | (simp [*]; done)), H', ⟨Nat.le_refl _⟩, ⟨by (with_reducible repeat (first | apply Kd.R_alloc | apply Kd.R_drewN | apply Kd.R_drew)); exact HO0.out⟩, ⟨by repeat (first | (with_reducible first | exact HK.out | apply Kept.alloc | apply Kept.drewN | apply Kept.drew) | exact HK.out)⟩, ⟨by repeat (first | (with_reducible first | exact HB.out | apply below_alloc | apply pw_below_drewN | apply below_drew1) | exact HB.out)⟩⟩
 case round =>
  clear H'
  try clear c1
  try clear p2
  obtain ⟨x0_1, x1_1, x5_1, rfl, rfl, HA, HK1, HO_0, HK, HB⟩ := hrel
  cases gk with
  | zero => exact absurd HA.out (by simp [laws_markIntS.l0])
  | succ k1 =>
   have H := HA.out
   clear HA
   simp only [laws_markIntS.l0] at H
   by_cases c3 : x5_1 < (x0_1.length : Int)
   ·rw [if_pos c3] at H
    have c3b0 : decide (x5_1 < (x0_1.length : Int)) = true := decide_eq_true c3
    clear c3
    by_cases c4 : 0 ≤ x5_1
    ·rw [if_pos c4] at H
     have c4b0 : decide (0 ≤ x5_1) = true := decide_eq_true c4
     clear c4
     obtain ⟨y147, hy147⟩ : ∃ y_ : List Int, y_ = (x0_1.set (x5_1 : Int).toNat x1_1) := ⟨_, rfl⟩
     replace H : (laws_markIntS.l0 k1 y147 (wrap64 (x1_1 + 1)) (wrap64 (x5_1 + 1))) = some (r1, r2) := by first | (rw [hy147]; with_reducible exact H) | (have H2_ := (Option.bind_some _ _).symm.trans H; rw [hy147]; with_reducible exact H2_) | (have H2_ := (Option.bind_some _ _).symm.trans H; with_reducible exact H2_) | with_reducible exact H | (rw [hy147]; exact H) | exact H
     have Ny147 := Aside0.mk hy147
     clear hy147
     have H' := Aside0.mk H
     clear H
     obtain ⟨Ao6, co6, eo6⟩ := Kd.R_slice HO_0.out
     subst eo6
     have p5 : 0 ≤ (x5_1 : Int) := of_decide_eq_true (by first | (with_reducible assumption) | assumption)
     have q5 : (x5_1 : Int) < ((x0_1.length : Int) : Int) := of_decide_eq_true (by first | (with_reducible assumption) | assumption)
     obtain ⟨go5, co5, eo5, gb5, gl5, cl5, HG5⟩ := Kd.R_form HO_0.out (by omega)
     (first | cases eo5 | (injection eo5 with ea_ en_ ec_; (first | subst ea_ | (injection ea_ with ea_; subst ea_)); subst ec_; clear en_))
     have GB5 := Aside0.mk gb5
     have GG5 := Aside0.mk HG5
     clear gb5 gl5 HG5
     have HMgo5 := Aside0.mk (show (P0_ go5 ∨ w.heap.size ≤ go5) from (HO_0.out.1 _ rfl))
     obtain ⟨hx5_0, hf5_0⟩ := Kd.R_celln 0 HO_0.out (x5_1 : Int) p5 q5
     replace p5 := eq_true p5
     replace q5 := eq_true q5
     have HP7 := Kd.R_putg HO_0.out (x5_1 : Int) x1_1
     go_wp2_with (first | ((with_reducible refine gate_store (t := 3) (p := 15) rfl ?_); refine store_event (t := 3) (p := 15) (v := ?vo_w8) (w1 := (wr.setCell ⟨go5, (x5_1 : Int).toNat, none⟩ (.int .i64 x1_1))) ?hg ?ho ?hn ?hr ?_; (case ho => rfl); (case hg => rfl); (case hn => rfl); (case hr => first | (go_simp; done) | (go_simp; rfl)); intro w8 hw; have hg : wr.grownBy w8 (some go5) := (by rw [hw]; exact HP7.2); have hp_ : Kd.R (Kd.int .i64) 3 w8 w0.heap.size (fun k_ => (P0_ k_ ∨ w.heap.size ≤ k_)) (.slice (some ⟨go5, 0, none⟩) x0_1.length co6) y147 := (by rw [hw, Ny147.out]; exact HP7.1); clear HP7; have n0_ := Aside0.mk (hp_); have n1_ := Aside0.mk ((by rw [hw]; exact below_set (HB.out) GB5.out : Below w0.heap.size w0 w8)); have n2_ := Aside0.mk (Kept.of_grown (S := (fun k_ => P0_ k_)) hg (by repeat (first | (with_reducible first | exact HK.out | apply Kept.alloc | apply Kept.drewN | apply Kept.drew) | exact HK.out)) (fun k_ e_ => (HO_0.out.1 k_ e_))); clear HO_0; clear HB; clear HK; have HO_0 := n0_; have HB := n1_; have HK := n2_; clear n0_ n1_ n2_; clear hg hw hp_))
     go_roundg k1
     case measure => have := HK1.out; omega
     case rel => exact ⟨(y147), (wrap64 (x1_1 + 1)), (wrap64 (x5_1 + 1)), (by first | rfl | (simp; done) | (simp [*]; done)), (by first | rfl | (simp; done) | (simp [*]; done)), H', ⟨by have := HK1.out; omega⟩, ⟨by (with_reducible repeat (first | apply Kd.R_alloc | apply Kd.R_drewN | apply Kd.R_drew)); exact HO_0.out⟩, ⟨by repeat (first | (with_reducible first | exact HK.out | apply Kept.alloc | apply Kept.drewN | apply Kept.drew) | exact HK.out)⟩, ⟨by repeat (first | (with_reducible first | exact HB.out | apply below_alloc | apply pw_below_drewN | apply below_drew1) | exact HB.out)⟩⟩
    ·rw [if_neg c4] at H
     exact absurd H (by simp)
   ·rw [if_neg c3] at H
    have c3b0 : decide (x5_1 < (x0_1.length : Int)) = false := decide_eq_false c3
    clear c3
    simp only [Option.some.injEq, Prod.mk.injEq] at H
    obtain ⟨rfl, rfl⟩ := H
    obtain ⟨Ao9, co9, eo9⟩ := Kd.R_slice HO_0.out
    subst eo9
    go_wp2
    go_ret
    exact ⟨by first | rfl | (simp [errW_none, errW_some] <;> rfl) | (simp [*, errW_none, errW_some] <;> rfl), by (with_reducible repeat (first | apply Kd.R_alloc | apply Kd.R_drewN | apply Kd.R_drew)); exact HO_0.out, by repeat (first | (with_reducible first | exact HB.out | apply below_alloc | apply pw_below_drewN | apply below_drew1) | exact HB.out), by repeat (first | (with_reducible first | exact HK.out | apply Kept.alloc | apply Kept.drewN | apply Kept.drew) | exact HK.out)⟩

end Go.Proofs.Ythkkpdgadfhijaa.M
/- Walks for this claim, written by a program of mine over the kit's print. No condition of mine. -/
namespace Go.Proofs.Ythkkpdgadfhijaa.M
open Go.RowKit Go.Proofs.Ythkkpdgadfhijaa.KW Go.Proofs.YthkkpdgadfhijaaW.PrintWords Go.Proofs.YthkkpdgadfhijaaW.PrintLast Go.Proofs.YthkkpdgadfhijaaW.PrintMore
attribute [local go_sem] max2_int min2_int max_two min_two max_three min_three max_four min_four   -- for this text's walks alone
set_option linter.unusedVariables false
set_option linter.unusedSimpArgs false

/-! ### laws_heldIntS: function 18 -/
def laws_heldIntS.l0 : Nat → List Int → Int → Int → Option (Int)
 | 0, _, _, _ => none
 | k + 1, x0, x1, x5 => if x5 < (x0.length : Int) then (if 0 ≤ x5 then (if (rd x0 x5) = x1 then (laws_heldIntS.l0 k x0 (wrap64 (x1 + 1)) (wrap64 (x5 + 1))) else (some (-1))) else (none)) else (some x1)
def laws_heldIntS.f (k : Nat) (l0 : List Int) (a1 : Int) : Option (Int) := laws_heldIntS.l0 k l0 a1 0
theorem laws_heldIntS.mono_l : ∀ k, (∀ y0 y1 y2, LeO (laws_heldIntS.l0 k y0 y1 y2) (laws_heldIntS.l0 (k + 1) y0 y1 y2))
 | 0 => fun _ _ _ r h => by simp [laws_heldIntS.l0] at h
 | k + 1 => by
  have ih0 := laws_heldIntS.mono_l k
  ·intro y0 y1 y2
   unfold laws_heldIntS.l0
   repeat' first
   | (with_reducible exact ih0 _ _ _)
   | (with_reducible exact LeO.refl _)
   | (with_reducible exact LeO.none _)
   | (with_reducible refine LeO.ite ?_ ?_)
   | (with_reducible refine LeO.bind ?_ (fun _ => ?_))
   | exact ih0 _ _ _
   | exact LeO.none _
   | refine LeO.ite ?_ ?_
   | refine LeO.bind ?_ (fun _ => ?_)
theorem laws_heldIntS.mono : ∀ a0 a1 k, LeO (laws_heldIntS.f k a0 a1) (laws_heldIntS.f (k + 1) a0 a1) := by
 intro a0 a1 k
 have ih0 := laws_heldIntS.mono_l k
 unfold laws_heldIntS.f
 repeat' first
   | (with_reducible exact ih0 _ _ _)
   | (with_reducible exact LeO.refl _)
   | (with_reducible exact LeO.none _)
   | (with_reducible refine LeO.ite ?_ ?_)
   | (with_reducible refine LeO.bind ?_ (fun _ => ?_))
   | exact ih0 _ _ _
   | exact LeO.none _
   | refine LeO.ite ?_ ?_
   | refine LeO.bind ?_ (fun _ => ?_)
set_option maxHeartbeats 8000000 in
set_option maxRecDepth 100000 in
theorem laws_heldIntS.calls (k : Nat) (A0 : Option Addr) (c0 : Nat) (l0 : List Int) (a1 : Int) (r : Int) (w : World) (hr0 : Kd.C (Kd.int .i64) w A0 l0.length l0) (hc0 : l0.length ≤ c0) (h : laws_heldIntS.f k l0 a1 = some r) :
  Calls Try.prog 18 #[.slice A0 l0.length c0, .int .i64 a1] w fun e w' => e = .returned (.int .i64 r) ∧ Drawn0 w w' := by
 have HR0 := Aside0.mk hr0
 have HC0 := Aside0.mk hc0
 clear hr0 hc0
 have H : (laws_heldIntS.l0 k l0 a1 0) = some r := h
 clear h
 have H' := Aside0.mk H
 clear H
 go_enter Try.func18, Try.ntmps18
 go_wp2
 go_loopg [1, 5] k (fun kq v1 v5 w' => ∃ (x1_1 : Int) (x5_1 : Int), v1 = .int .i64 x1_1 ∧ v5 = .int .i64 x5_1 ∧ Aside0 (laws_heldIntS.l0 kq l0 x1_1 x5_1 = some r) ∧ Aside0 (kq ≤ k) ∧ Drawn0 w w')
 case atStart => exact ⟨(a1), (0), (by first | rfl | (simp; done) | (simp [*]; done)), (by first | rfl | (simp; done) | (simp [*]; done)), H', ⟨Nat.le_refl _⟩, by repeat (first | exact Drawn0.refl _ | apply Drawn0.step)⟩
 case round =>
  clear H'
  try clear c1
  try clear p2
  obtain ⟨x1_1, x5_1, rfl, rfl, HA, HK1, ⟨m1, rfl⟩⟩ := hrel
  cases gk with
  | zero => exact absurd HA.out (by simp [laws_heldIntS.l0])
  | succ k1 =>
   have H := HA.out
   clear HA
   simp only [laws_heldIntS.l0] at H
   by_cases c3 : x5_1 < (l0.length : Int)
   ·rw [if_pos c3] at H
    have c3b0 : decide (x5_1 < (l0.length : Int)) = true := decide_eq_true c3
    clear c3
    by_cases c4 : 0 ≤ x5_1
    ·rw [if_pos c4] at H
     have c4b0 : decide (0 ≤ x5_1) = true := decide_eq_true c4
     clear c4
     by_cases c5 : (rd l0 x5_1) = x1_1
     ·rw [if_pos c5] at H
      have c5b0 : ((rd l0 x5_1) == x1_1) = true := beq_iff_eq.mpr c5
      have c5b1 : ((rd l0 x5_1) != x1_1) = false := bne_eq_false_iff_eq.mpr c5
      clear c5
      have H' := Aside0.mk H
      clear H
      have p148 : 0 ≤ (x5_1 : Int) := of_decide_eq_true (by first | (with_reducible assumption) | assumption)
      have q148 : x5_1 < (l0.length : Int) := of_decide_eq_true (by first | (with_reducible assumption) | assumption)
      obtain ⟨ad148, e148, hx148_0⟩ := Kd.at_int HR0.out x5_1 p148 q148
      cases e148
      replace p148 := eq_true p148
      replace q148 := eq_true q148
      go_wp2
      go_roundg k1
      case measure => have := HK1.out; omega
      case rel => exact ⟨(wrap64 (x1_1 + 1)), (wrap64 (x5_1 + 1)), (by first | rfl | (simp; done) | (simp [*]; done)), (by first | rfl | (simp; done) | (simp [*]; done)), H', ⟨by have := HK1.out; omega⟩, by repeat (first | exact Drawn0.refl _ | apply Drawn0.step)⟩
     ·rw [if_neg c5] at H
      have c5b0 : ((rd l0 x5_1) == x1_1) = false := beq_eq_false_iff_ne.mpr c5
      have c5b1 : ((rd l0 x5_1) != x1_1) = true := bne_iff_ne.mpr c5
      obtain rfl := Option.some.inj H
      have p148 : 0 ≤ (x5_1 : Int) := of_decide_eq_true (by first | (with_reducible assumption) | assumption)
      have q148 : x5_1 < (l0.length : Int) := of_decide_eq_true (by first | (with_reducible assumption) | assumption)
      obtain ⟨ad148, e148, hx148_0⟩ := Kd.at_int HR0.out x5_1 p148 q148
      cases e148
      replace p148 := eq_true p148
      replace q148 := eq_true q148
      go_wp2
      go_ret
      exact ⟨by first | rfl | (simp; done) | (simp [*]; done), by repeat (first | exact Drawn0.refl _ | apply Drawn0.step)⟩
    ·rw [if_neg c4] at H
     exact absurd H (by simp)
   ·rw [if_neg c3] at H
    have c3b0 : decide (x5_1 < (l0.length : Int)) = false := decide_eq_false c3
    clear c3
    obtain rfl := Option.some.inj H
    go_wp2
    go_ret
    exact ⟨by first | rfl | (simp; done) | (simp [*]; done), by repeat (first | exact Drawn0.refl _ | apply Drawn0.step)⟩

end Go.Proofs.Ythkkpdgadfhijaa.M
/- Walks for this claim, written by a program of mine over the kit's print. No condition of mine. -/
namespace Go.Proofs.Ythkkpdgadfhijaa.M
open Go.RowKit Go.Proofs.Ythkkpdgadfhijaa.KW Go.Proofs.YthkkpdgadfhijaaW.PrintWords Go.Proofs.YthkkpdgadfhijaaW.PrintLast Go.Proofs.YthkkpdgadfhijaaW.PrintMore
attribute [local go_sem] max2_int min2_int max_two min_two max_three min_three max_four min_four   -- for this text's walks alone
set_option linter.unusedVariables false
set_option linter.unusedSimpArgs false

/-! ### laws_toIntS: function 44 -/
def laws_toIntS.l0 : Nat → List Int → List Int → Int → Option (List Int)
 | 0, _, _, _ => none
 | k + 1, x0, x3, x4 => if x4 < (x0.length : Int) then (if 0 ≤ x4 then (if x4 < (x3.length : Int) then (laws_toIntS.l0 k x0 (x3.set (x4 : Int).toNat (rd x0 x4)) (wrap64 (x4 + 1))) else (none)) else (none)) else (some x3)
def laws_toIntS.f (k : Nat) (l0 : List Int) : Option (List Int) := if 0 ≤ (l0.length : Int) then (if ((l0.length : Int) : Int).toNat ≤ 35184372088832 then (laws_toIntS.l0 k l0 (List.replicate ((l0.length : Int) : Int).toNat 0) 0) else (none)) else (none)
theorem laws_toIntS.mono_l : ∀ k, (∀ y0 y1 y2, LeO (laws_toIntS.l0 k y0 y1 y2) (laws_toIntS.l0 (k + 1) y0 y1 y2))
 | 0 => fun _ _ _ r h => by simp [laws_toIntS.l0] at h
 | k + 1 => by
  have ih0 := laws_toIntS.mono_l k
  ·intro y0 y1 y2
   unfold laws_toIntS.l0
   repeat' first
   | (with_reducible exact ih0 _ _ _)
   | (with_reducible exact LeO.refl _)
   | (with_reducible exact LeO.none _)
   | (with_reducible refine LeO.ite ?_ ?_)
   | (with_reducible refine LeO.bind ?_ (fun _ => ?_))
   | exact ih0 _ _ _
   | exact LeO.none _
   | refine LeO.ite ?_ ?_
   | refine LeO.bind ?_ (fun _ => ?_)
theorem laws_toIntS.mono : ∀ a0 k, LeO (laws_toIntS.f k a0) (laws_toIntS.f (k + 1) a0) := by
 intro a0 k
 have ih0 := laws_toIntS.mono_l k
 unfold laws_toIntS.f
 repeat' first
   | (with_reducible exact ih0 _ _ _)
   | (with_reducible exact LeO.refl _)
   | (with_reducible exact LeO.none _)
   | (with_reducible refine LeO.ite ?_ ?_)
   | (with_reducible refine LeO.bind ?_ (fun _ => ?_))
   | exact ih0 _ _ _
   | exact LeO.none _
   | refine LeO.ite ?_ ?_
   | refine LeO.bind ?_ (fun _ => ?_)
set_option maxHeartbeats 8000000 in
set_option maxRecDepth 100000 in
theorem laws_toIntS.calls (k : Nat) (A0 : Option Addr) (c0 : Nat) (l0 : List Int) (r : List Int) (w : World) (hr0 : Kd.C (Kd.int .i64) w A0 l0.length l0) (hc0 : l0.length ≤ c0) (h : laws_toIntS.f k l0 = some r) :
  Calls Try.prog 44 #[.slice A0 l0.length c0] w fun e w' => ∃ v0_ : Value, e = .returned (v0_) ∧ Kd.R (Kd.int .i64) 3 w' w.heap.size (fun _ => True) v0_ r ∧ Below w.heap.size w w' := by
 have HR0 := Aside0.mk hr0
 have HC0 := Aside0.mk hc0
 clear hr0 hc0
 have HB := Aside0.mk (Below.refl w.heap.size w)
 have H : (if 0 ≤ (l0.length : Int) then (if ((l0.length : Int) : Int).toNat ≤ 35184372088832 then (laws_toIntS.l0 k l0 (List.replicate ((l0.length : Int) : Int).toNat 0) 0) else (none)) else (none)) = some r := h
 clear h
 by_cases c2 : 0 ≤ (l0.length : Int)
 ·rw [if_pos c2] at H
  have c2b0 := eq_true c2
  have c2b1 : decide (0 ≤ (l0.length : Int)) = true := decide_eq_true c2
  clear c2
  by_cases c3 : ((l0.length : Int) : Int).toNat ≤ 35184372088832
  ·rw [if_pos c3] at H
   have c3b0 := eq_true c3
   have c3b1 : decide (((l0.length : Int) : Int).toNat ≤ 35184372088832) = true := decide_eq_true c3
   clear c3
   obtain ⟨y552, hy552⟩ : ∃ y_ : List Int, y_ = (List.replicate ((l0.length : Int) : Int).toNat 0) := ⟨_, rfl⟩
   replace H : (laws_toIntS.l0 k l0 y552 0) = some r := by first | (rw [hy552]; with_reducible exact H) | (have H2_ := (Option.bind_some _ _).symm.trans H; rw [hy552]; with_reducible exact H2_) | (have H2_ := (Option.bind_some _ _).symm.trans H; with_reducible exact H2_) | with_reducible exact H | (rw [hy552]; exact H) | exact H
   have Ny552 := Aside0.mk hy552
   clear hy552
   have H' := Aside0.mk H
   clear H
   go_enter Try.func44, Try.ntmps44
   go_wp2_with (first | ((with_reducible refine gate_dst (N := 7) rfl ?_); refine Kd.R_make (Kd.int .i64) _ 3 rfl (N := 7) rfl 22 _ _ rfl (l0.length : Int) rfl rfl Try.underlying22 (.int .i64 0) 8 info3 rfl (by decide) (by omega) 0 (ok := fun _ => True) (okp := fun _ => True) rfl (fun _ hk => hk) trivial (of_decide_eq_true (by first | (with_reducible assumption) | assumption)) (Nat.le_trans (Nat.mul_le_mul_right _ (of_decide_eq_true (by first | (with_reducible assumption) | assumption) : (l0.length : Int).toNat ≤ 35184372088832)) (by omega)) (Below.refl _ _) (Nat.le_refl _) ?_; intro v553 w4 ho5 hb hg_ hnew_; clear hg_ hnew_; (first | rw [← Ny552.out] at ho5 | (simp only [Int.reduceToNat] at ho5; rw [← Ny552.out] at ho5)); have n0_ := Aside0.mk (Kd.R_lower ho5 (below_size (by repeat (first | (with_reducible first | exact HB.out | apply below_alloc | apply pw_below_drewN | apply below_drew1) | exact HB.out)))); have n1_ := Aside0.mk (below_step (by repeat (first | (with_reducible first | exact HB.out | apply below_alloc | apply pw_below_drewN | apply below_drew1) | exact HB.out)) hb); clear HB; have HO554 := n0_; have HB := n1_; clear n0_ n1_; clear hb ho5))
   go_loopg [4] k (fun kq v4 w' => ∃ (x3_1 : List Int) (x4_1 : Int), v4 = .int .i64 x4_1 ∧ Aside0 (laws_toIntS.l0 kq l0 x3_1 x4_1 = some r) ∧ Aside0 (kq ≤ k) ∧ Aside0 (Kd.R (Kd.int .i64) 3 w' w.heap.size (fun _ => True) v553 x3_1) ∧ Aside0 (Below w.heap.size w w'))
   case atStart => exact ⟨(y552), (0), (by first | rfl | (simp; done) | (simp [*]; done)), H', ⟨Nat.le_refl _⟩, ⟨by (with_reducible repeat (first | apply Kd.R_alloc | apply Kd.R_drewN | apply Kd.R_drew)); exact HO554.out⟩, ⟨by repeat (first | (with_reducible first | exact HB.out | apply below_alloc | apply pw_below_drewN | apply below_drew1) | exact HB.out)⟩⟩
   case round =>
    clear H'
    try clear c2
    try clear c2b0
    try clear c2b1
    try clear p2
    try clear c3
    try clear c3b0
    try clear c3b1
    try clear c4
    obtain ⟨x3_1, x4_1, rfl, HA, HK1, HO_3, HB⟩ := hrel
    cases gk with
    | zero => exact absurd HA.out (by simp [laws_toIntS.l0])
    | succ k1 =>
     have H := HA.out
     clear HA
     simp only [laws_toIntS.l0] at H
     by_cases c6 : x4_1 < (l0.length : Int)
     ·rw [if_pos c6] at H
      have c6b0 : decide (x4_1 < (l0.length : Int)) = true := decide_eq_true c6
      clear c6
      by_cases c7 : 0 ≤ x4_1
      ·rw [if_pos c7] at H
       have c7b0 : decide (0 ≤ x4_1) = true := decide_eq_true c7
       clear c7
       by_cases c8 : x4_1 < (x3_1.length : Int)
       ·rw [if_pos c8] at H
        have c8b0 : decide (x4_1 < (x3_1.length : Int)) = true := decide_eq_true c8
        clear c8
        obtain ⟨y556, hy556⟩ : ∃ y_ : List Int, y_ = (x3_1.set (x4_1 : Int).toNat (rd l0 x4_1)) := ⟨_, rfl⟩
        replace H : (laws_toIntS.l0 k1 l0 y556 (wrap64 (x4_1 + 1))) = some r := by first | (rw [hy556]; with_reducible exact H) | (have H2_ := (Option.bind_some _ _).symm.trans H; rw [hy556]; with_reducible exact H2_) | (have H2_ := (Option.bind_some _ _).symm.trans H; with_reducible exact H2_) | with_reducible exact H | (rw [hy556]; exact H) | exact H
        have Ny556 := Aside0.mk hy556
        clear hy556
        have H' := Aside0.mk H
        clear H
        have p555 : 0 ≤ (x4_1 : Int) := of_decide_eq_true (by first | (with_reducible assumption) | assumption)
        have q555 : x4_1 < (l0.length : Int) := of_decide_eq_true (by first | (with_reducible assumption) | assumption)
        obtain ⟨ad555, e555, hx555_0⟩ := Kd.at_int HR0.out x4_1 p555 q555
        cases e555
        replace hx555_0 := (HB.out.cell (World.block_lt_of_cell? w _ hx555_0)).trans hx555_0
        replace p555 := eq_true p555
        replace q555 := eq_true q555
        have p9 : 0 ≤ (x4_1 : Int) := of_decide_eq_true (by first | (with_reducible assumption) | assumption)
        have q9 : (x4_1 : Int) < ((x3_1.length : Int) : Int) := of_decide_eq_true (by first | (with_reducible assumption) | assumption)
        obtain ⟨go9, co9, eo9, gb9, gl9, cl9, HG9⟩ := Kd.R_form HO_3.out (by omega)
        (first | cases eo9 | (injection eo9 with ea_ en_ ec_; (first | subst ea_ | (injection ea_ with ea_; subst ea_)); subst ec_; clear en_))
        have GB9 := Aside0.mk gb9
        have GG9 := Aside0.mk HG9
        clear gb9 gl9 HG9
        obtain ⟨hx9_0, hf9_0⟩ := Kd.R_celln 0 HO_3.out (x4_1 : Int) p9 q9
        replace p9 := eq_true p9
        replace q9 := eq_true q9
        have HP10 := Kd.R_putg HO_3.out (x4_1 : Int) (rd l0 x4_1)
        go_wp2_with (first | ((with_reducible refine gate_store (t := 3) (p := 20) rfl ?_); refine store_event (t := 3) (p := 20) (v := ?vo_w11) (w1 := (wr.setCell ⟨go9, (x4_1 : Int).toNat, none⟩ (.int .i64 (rd l0 x4_1)))) ?hg ?ho ?hn ?hr ?_; (case ho => rfl); (case hg => rfl); (case hn => rfl); (case hr => first | (go_simp; done) | (go_simp; rfl)); intro w11 hw; have hg : wr.grownBy w11 (some go9) := (by rw [hw]; exact HP10.2); have hp_ : Kd.R (Kd.int .i64) 3 w11 w.heap.size (fun _ => True) (.slice (some ⟨go9, 0, none⟩) x3_1.length co9) y556 := (by rw [hw, Ny556.out]; exact HP10.1); clear HP10; have n0_ := Aside0.mk (hp_); have n1_ := Aside0.mk ((by rw [hw]; exact below_set (HB.out) GB9.out : Below w.heap.size w w11)); clear HO_3; clear HB; have HO_3 := n0_; have HB := n1_; clear n0_ n1_; clear hg hw hp_))
        go_roundg k1
        case measure => have := HK1.out; omega
        case rel => exact ⟨(y556), (wrap64 (x4_1 + 1)), (by first | rfl | (simp; done) | (simp [*]; done)), H', ⟨by have := HK1.out; omega⟩, ⟨by (with_reducible repeat (first | apply Kd.R_alloc | apply Kd.R_drewN | apply Kd.R_drew)); exact HO_3.out⟩, ⟨by repeat (first | (with_reducible first | exact HB.out | apply below_alloc | apply pw_below_drewN | apply below_drew1) | exact HB.out)⟩⟩
       ·rw [if_neg c8] at H
        exact absurd H (by simp)
      ·rw [if_neg c7] at H
       exact absurd H (by simp)
     ·rw [if_neg c6] at H
      have c6b0 : decide (x4_1 < (l0.length : Int)) = false := decide_eq_false c6
      clear c6
      obtain rfl := Option.some.inj H
      go_wp2
      go_ret
      exact ⟨_, by first | rfl | (simp [errW_none, errW_some] <;> rfl) | (simp [*, errW_none, errW_some] <;> rfl), by (with_reducible repeat (first | apply Kd.R_alloc | apply Kd.R_drewN | apply Kd.R_drew)); exact HO_3.out, by repeat (first | (with_reducible first | exact HB.out | apply below_alloc | apply pw_below_drewN | apply below_drew1) | exact HB.out)⟩
  ·rw [if_neg c3] at H
   exact absurd H (by simp)
 ·rw [if_neg c2] at H
  exact absurd H (by simp)

end Go.Proofs.Ythkkpdgadfhijaa.M
/- What the laws' own small functions on rows of whole numbers come to: a copy is the row, two rows are held against each other, marks are laid and found. No condition but lengths that fit. -/
namespace Go.Proofs.Ythkkpdgadfhijaa.M
open Go.RowKit Go.Proofs.YthkkpdgadfhijaaW.PrintWords Go.Proofs.Ythkkpdgadfhijaa.K

theorem toIntS_ev (l : List Int) (h : l.length ≤ 1048576) : Ev (fun k => laws_toIntS.f k l) l := by
  have key : ∀ i, i ≤ l.length → ∀ f : Nat → Int, (∀ j, j < i → f j = l.getD j 0) → Ev (fun k => laws_toIntS.l0 k l (row l.length f) (i : Int)) l := by
    refine down l.length ?_ ?_
    · intro f hf
      refine Ev.step (fun k => by simp only [laws_toIntS.l0]; rw [_root_.if_neg (by omega)]) ?_
      rw [row_congr _ _ _ hf, row_of]; exact Ev.some _
    · intro i hi ih f hf
      refine Ev.step (fun k => by simp only [laws_toIntS.l0]; rw [_root_.if_pos (by omega), _root_.if_pos (by omega), _root_.if_pos (by rw [row_length]; omega), wsucc (by omega), Int.toNat_natCast, rd_at, row_set]) (ih _ ?_)
      intro j hj
      by_cases e : j = i
      · rw [_root_.if_pos e, e]
      · rw [_root_.if_neg e]; exact hf j (by omega)
  unfold laws_toIntS.f
  refine Ev.if_pos (by omega) (Ev.if_pos (by omega) ?_)
  rw [Int.toNat_natCast, row_replicate]
  exact key 0 (by omega) _ (fun j hj => by omega)

theorem eqIntS_ev (a b : List Int) (h : a.length < 9223372036854775807) : Ev (fun k => laws_eqIntS.f k a b) (decide (a = b)) := by
  unfold laws_eqIntS.f
  refine Ev.ite (fun e => ?_) (fun e => ?_)
  · have e' : a.length = b.length := by omega
    have key : ∀ i, i ≤ a.length → Ev (fun k => laws_eqIntS.l0 k a b (i : Int)) (decide (a.drop i = b.drop i)) := by
      refine down a.length ?_ ?_
      · refine Ev.step (fun k => by simp only [laws_eqIntS.l0]; rw [_root_.if_neg (by omega)]) ?_
        rw [List.drop_length, e', List.drop_length]; exact Ev.some _
      · intro i hi ih
        refine Ev.step (fun k => by simp only [laws_eqIntS.l0]; rw [_root_.if_pos (by omega), _root_.if_pos (by omega), _root_.if_pos (by omega), wsucc (by omega), rd_get a i hi, rd_get b i (by omega)]) ?_
        rw [drop_eq a i hi, drop_eq b i (by omega), cons_dec]
        refine Ev.ite (fun q => ?_) (fun q => ?_)
        · rw [decide_eq_true q]; simpa using ih
        · rw [decide_eq_false q]; exact Ev.some _
    exact key 0 (by omega)
  · refine Ev.same (Ev.some _) ?_
    symm; rw [decide_eq_false_iff_not]; intro q; rw [q] at e; exact e rfl

/-- The marks m, m + 1, .. in n places. -/
def marks (n : Nat) (m : Int) : List Int := row n (fun i => m + i)

theorem markIntS_ev (l : List Int) (m : Int) (h0 : 0 ≤ m) (h : m + l.length < 9223372036854775807) : Ev (fun k => laws_markIntS.f k l m) (m + l.length, marks l.length m) := by
  have key : ∀ i, i ≤ l.length → ∀ f : Nat → Int, (∀ j, j < i → f j = m + j) → Ev (fun k => laws_markIntS.l0 k (row l.length f) (m + i) (i : Int)) (m + l.length, marks l.length m) := by
    refine down l.length ?_ ?_
    · intro f hf
      refine Ev.step (fun k => by simp only [laws_markIntS.l0]; rw [_root_.if_neg (by rw [row_length]; omega)]) ?_
      unfold marks; rw [row_congr _ _ _ hf]; exact Ev.some _
    · intro i hi ih f hf
      refine Ev.step (fun k => by simp only [laws_markIntS.l0]; rw [_root_.if_pos (by rw [row_length]; omega), _root_.if_pos (by omega), wsucc (by omega), Int.toNat_natCast, row_set, w_id (by omega) (by omega), show m + (i : Int) + 1 = m + ((i + 1 : Nat) : Int) from by omega]) (ih _ ?_)
      intro j hj
      by_cases e : j = i
      · rw [_root_.if_pos e, e]
      · rw [_root_.if_neg e]; exact hf j (by omega)
  unfold laws_markIntS.f
  have := key 0 (by omega) (fun i => l.getD i 0) (fun j hj => by omega)
  rw [row_of, show m + ((0 : Nat) : Int) = m from by omega] at this
  exact this

theorem heldIntS_ev (n : Nat) (m : Int) (h0 : 0 ≤ m) (h : m + n < 9223372036854775807) : Ev (fun k => laws_heldIntS.f k (marks n m) m) (m + n) := by
  have key : ∀ i, i ≤ n → Ev (fun k => laws_heldIntS.l0 k (marks n m) (m + i) (i : Int)) (m + n) := by
    refine down n ?_ ?_
    · refine Ev.step (fun k => by simp only [laws_heldIntS.l0]; rw [_root_.if_neg (by unfold marks; rw [row_length]; omega)]) ?_
      exact Ev.some _
    · intro i hi ih
      refine Ev.step (fun k => by simp only [laws_heldIntS.l0]; rw [_root_.if_pos (by unfold marks; rw [row_length]; omega), _root_.if_pos (by omega), _root_.if_pos (by unfold marks; rw [rd_row _ _ _ hi]), wsucc (by omega), w_id (by omega) (by omega), show m + (i : Int) + 1 = m + ((i + 1 : Nat) : Int) from by omega]) ih
  unfold laws_heldIntS.f
  have := key 0 (by omega)
  rw [show m + ((0 : Nat) : Int) = m from by omega] at this
  exact this
end Go.Proofs.Ythkkpdgadfhijaa.M
