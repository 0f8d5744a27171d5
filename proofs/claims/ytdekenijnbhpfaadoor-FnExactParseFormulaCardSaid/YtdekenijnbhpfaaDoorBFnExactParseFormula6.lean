/- Texts of the claim on FnExactParseFormula, joined (part 6 of 7): walks of the functions, what they come to, and in the last part the row. No condition of mine. -/
import Derived.Test.YtdekenijnbhpfaaDoorBFnExactParseFormula0
import Derived.Test.YtdekenijnbhpfaaDoorBFnExactParseFormula5
import Derived.Test.YtdekenijnbhpfaaDoorBFnExactParseFormula1
import Derived.Test.YtdekenijnbhpfaaDoorBFnExactParseFormula2
import Derived.Test.YtdekenijnbhpfaaDoorBFnExactParseFormula4
import Derived.Test.YtdekenijnbhpfaaDoorBFnExactParseFormula3
/- Formulas as values, further: program and reference tell formulas alike, and write the same text. No condition but sizes. -/
namespace Go.Proofs.YtdekenijnbhpfaaDoor.M
open Go.RowKit Go.Proofs.YtdekenijnbhpfaaDoorW.PrintWords Go.Proofs.YtdekenijnbhpfaaDoor.K
set_option linter.unusedVariables false
set_option linter.unusedSimpArgs false
abbrev allK (f : List S75) : List Int := f.flatMap kids
theorem allK_succ (f : List S75) (i : Nat) (h : i < f.length) : allK (f.take (i + 1)) = allK (f.take i) ++ kids f[i] := by
 unfold allK; rw [take_succ f i h, List.flatMap_append]; simp
/-- Each node is right by itself and uses earlier ones. -/
def okAt (f : List S75) (i : Nat) : Prop := ∀ (h : i < f.length), nodeB f[i] = true ∧ inR (i : Int) (kids f[i]) = true
/-- A formula. -/
def isFP (f : List S75) : Prop := (1 ≤ f.length ∧ f.length ≤ 40) ∧ (∀ i, okAt f i) ∧ (allK f).Nodup ∧ ∀ j : Nat, j + 1 < f.length → (j : Int) ∈ allK f
theorem inR_iff (a : Int) (l : List Int) : inR a l = true ↔ ∀ y ∈ l, 0 ≤ y ∧ y < a := by unfold inR; simp
theorem allK_len (f : List S75) : (allK f).length ≤ 2 * f.length := by
 induction f with
 | nil => simp [allK]
 | cons x f ih =>
  have := kids_le x; simp only [allK, List.flatMap_cons, List.length_append, List.length_cons] at ih ⊢; omega
theorem getB (u : List Bool) (j : Nat) (h : j < u.length) : rdOf false u (j : Int) = u[j] := rdOf_get _ _ _ h
/-- The marks u are those of the list K. -/
def marks (n : Nat) (u : List Bool) (K : List Int) : Prop := u.length = n ∧ ∀ j : Nat, j < n → (rdOf false u (j : Int) = true ↔ (j : Int) ∈ K)
theorem marks_set {n : Nat} {u : List Bool} {K : List Int} (h : marks n u K) (j : Nat) (hj : j < n) : marks n (u.set j true) (K ++ [(j : Int)]) := by
 refine ⟨by rw [List.length_set]; exact h.1, fun m hm => ?_⟩; have hl := h.1; rw [getB _ m (by rw [List.length_set]; omega), List.getElem_set, List.mem_append, List.mem_singleton]; by_cases e : j = m
 ·subst e; simp
 ·rw [_root_.if_neg e, ← getB u m (by omega), h.2 m hm]; exact ⟨fun x => .inl x, fun x => x.elim id (fun q => absurd (by omega) e)⟩
theorem implF_tail (f : List S75) (hn : f.length ≤ 40) (h1 : 1 ≤ f.length) (u : List Bool) (hu : marks f.length u (allK f)) : ∃ r, Ev (fun k => impl_IsFormula.l2 k (u.take (f.length - 1)) ((u.take (f.length - 1)).length : Int) 0) r ∧ (r = true ↔ ∀ j : Nat, j + 1 < f.length → (j : Int) ∈ allK f) := by
 have hl : (u.take (f.length - 1)).length = f.length - 1 := by rw [List.length_take, hu.1]; omega
 have key : ∀ i, i ≤ f.length - 1 → ∃ r, Ev (fun k => impl_IsFormula.l2 k (u.take (f.length - 1)) ((u.take (f.length - 1)).length : Int) (i : Int)) r ∧ (r = true ↔ ∀ j : Nat, i ≤ j → j + 1 < f.length → (j : Int) ∈ allK f) := by
  refine down _ ?_ ?_
  ·exact ⟨true, Ev.step (fun k => by simp only [impl_IsFormula.l2]; rfl) (Ev.if_neg (by omega) (Ev.some _)), by simp; omega⟩
  ·rintro i hi ⟨r, e, hr⟩; have hm := hu.2 i (by omega); have ei : rdOf false (u.take (f.length - 1)) (i : Int) = rdOf false u (i : Int) := by
    rw [getB _ i (by omega), getB u i (by have := hu.1; omega), List.getElem_take]
   by_cases q : rdOf false u (i : Int) = true
   ·refine ⟨r, Ev.step (fun k => by simp only [impl_IsFormula.l2]; rfl) (Ev.if_pos (by omega) (Ev.if_pos (by omega) (Ev.if_pos (by omega) (Ev.if_pos (by rw [ei]; exact q) (by rw [wsucc (by omega)]; exact e))))), ?_⟩; rw [hr]; refine ⟨fun h j hj hj2 => ?_, fun h j hj hj2 => h j (by omega) hj2⟩; by_cases c : j = i
    ·subst c; exact hm.1 q
    ·exact h j (by omega) hj2
   ·refine ⟨false, Ev.step (fun k => by simp only [impl_IsFormula.l2]; rfl) (Ev.if_pos (by omega) (Ev.if_pos (by omega) (Ev.if_pos (by omega) (Ev.if_neg (by rw [ei]; exact q) (Ev.some _))))), ?_⟩; refine ⟨fun h => (by cases h), fun h => absurd (hm.2 (h i (by omega) (by omega))) q⟩
 obtain ⟨r, e, hr⟩ := key 0 (by omega); exact ⟨r, e, by rw [hr]; exact ⟨fun h j hj => h j (by omega) hj, fun h j _ hj => h j hj⟩⟩
theorem implF_kids (f : List S75) (hn : f.length ≤ 40) (i : Nat) (hi : i < f.length) (ys : List Int) (K : List Int) (R : Prop) (hy : ys.length ≤ 2)
  (next : ∀ u, marks f.length u (K ++ ys) → (K ++ ys).Nodup → ∃ r, Ev (fun k => impl_IsFormula.l0 k f u f (f.length : Int) ((i + 1 : Nat) : Int)) r ∧ (r = true ↔ R)) :
  ∀ m, m ≤ ys.length → ∀ u, marks f.length u (K ++ ys.take m) → (K ++ ys.take m).Nodup → ∃ r, Ev (fun k => impl_IsFormula.l1 k f u (i : Int) f (f.length : Int) (i : Int) ys (ys.length : Int) (m : Int)) r ∧ (r = true ↔ inR (i : Int) (ys.drop m) = true ∧ (K ++ ys).Nodup ∧ R) := by
 refine down ys.length ?_ ?_
 ·intro u hu hd; rw [List.take_length] at hu hd; obtain ⟨r, e, hr⟩ := next u hu hd; refine ⟨r, Ev.step (fun k => by simp only [impl_IsFormula.l1]; rfl) (Ev.if_neg (by omega) (by rw [wsucc (by omega)]; exact e)), ?_⟩; rw [hr, List.drop_length]; exact ⟨fun h => ⟨rfl, hd, h⟩, fun h => h.2.2⟩
 ·intro m hm ih u hu hd; have er : rd ys (m : Int) = ys[m] := rd_get ys m hm; rw [drop_eq ys m hm]; have st : ∀ {r : Bool}, Ev (fun k => if ys[m] < 0 then some false else if ys[m] ≥ (i : Int) then some false else if 0 ≤ ys[m] then (if ys[m] < (u.length : Int) then (if rdOf false u ys[m] = true then some false else impl_IsFormula.l1 k f (u.set ys[m].toNat true) (i : Int) f (f.length : Int) (i : Int) ys (ys.length : Int) (wrap64 ((m : Int) + 1))) else none) else none) r → Ev (fun k => impl_IsFormula.l1 k f u (i : Int) f (f.length : Int) (i : Int) ys (ys.length : Int) (m : Int)) r := by
   intro r h; refine Ev.step (fun k => by simp only [impl_IsFormula.l1]; rfl) (Ev.if_pos (by omega) (Ev.if_pos (by omega) (Ev.if_pos (by omega) ?_))); rw [er]; exact h
  by_cases c0 : ys[m] < 0
  ·exact ⟨false, st (Ev.if_pos c0 (Ev.some _)), fun h => (by cases h), fun h => absurd ((inR_iff _ _).1 h.1 _ (List.mem_cons_self ..)) (by omega)⟩
  by_cases c1 : ys[m] ≥ (i : Int)
  ·exact ⟨false, st (Ev.if_neg c0 (Ev.if_pos c1 (Ev.some _))), fun h => (by cases h), fun h => absurd ((inR_iff _ _).1 h.1 _ (List.mem_cons_self ..)) (by omega)⟩
  have hl := hu.1; obtain ⟨j, hj⟩ : ∃ j : Nat, ys[m] = (j : Int) := ⟨ys[m].toNat, by omega⟩; have hm2 := hu.2 j (by omega); rw [hj] at st c0 c1; rw [hj]; have ht : K ++ ys.take (m + 1) = (K ++ ys.take m) ++ [(j : Int)] := by rw [take_succ ys m hm, hj, List.append_assoc]
  by_cases c2 : rdOf false u (j : Int) = true
  ·refine ⟨false, st (Ev.if_neg c0 (Ev.if_neg c1 (Ev.if_pos (by omega) (Ev.if_pos (by omega) (Ev.if_pos c2 (Ev.some _)))))), ?_⟩; refine ⟨fun h => (by cases h), fun h => ?_⟩; have h2 := h.2.1; have : K ++ ys = (K ++ ys.take m) ++ ((j : Int) :: ys.drop (m + 1)) := by rw [List.append_assoc, ← hj, ← drop_eq ys m hm, List.take_append_drop]
   rw [this, List.nodup_append] at h2; exact absurd rfl (h2.2.2 _ (hm2.1 c2) _ (List.mem_cons_self ..))
  ·have hnot : (j : Int) ∉ K ++ ys.take m := fun h => c2 (hm2.2 h)
   obtain ⟨r, e, hr⟩ := ih (u.set j true) (by rw [ht]; exact marks_set hu j (by omega)) (by
    rw [ht, List.nodup_append]
    exact ⟨hd, by simp, fun a ha b hb => by rw [List.mem_singleton] at hb; subst hb; rintro rfl; exact hnot ha⟩)
   refine ⟨r, st (Ev.if_neg c0 (Ev.if_neg c1 (Ev.if_pos (by omega) (Ev.if_pos (by omega) (Ev.if_neg c2 (by rw [Int.toNat_natCast, wsucc (by omega)]; exact e)))))), ?_⟩; rw [hr]; have : inR (i : Int) ((j : Int) :: ys.drop (m + 1)) = inR (i : Int) (ys.drop (m + 1)) := by simp [inR]; omega
   rw [this]
theorem implF_main (f : List S75) (hn : f.length ≤ 40) (h1 : 1 ≤ f.length) : ∀ i, i ≤ f.length → ∀ u, marks f.length u (allK (f.take i)) → (allK (f.take i)).Nodup →
  ∃ r, Ev (fun k => impl_IsFormula.l0 k f u f (f.length : Int) (i : Int)) r ∧ (r = true ↔ (∀ j, i ≤ j → okAt f j) ∧ (allK f).Nodup ∧ ∀ j : Nat, j + 1 < f.length → (j : Int) ∈ allK f) := by
 refine down f.length ?_ ?_
 ·intro u hu hd; rw [List.take_length] at hu hd; obtain ⟨r, e, hr⟩ := implF_tail f hn h1 u hu; have hw : wrap64 ((f.length : Int) - 1) = ((f.length - 1 : Nat) : Int) := by rw [w_id (by omega) (by omega)]; omega
  have hl := hu.1; refine ⟨r, Ev.step (fun k => by simp only [impl_IsFormula.l0, Option.bind_some, hw]; rfl) (Ev.if_neg (by omega) (Ev.if_pos (by omega) (Ev.if_pos (by omega) e))), ?_⟩; rw [hr]; exact ⟨fun h => ⟨fun j hj hj2 => absurd hj2 (by omega), hd, h⟩, fun h => h.2.2⟩
 ·intro i hi ih u hu hd; have kv := implKids_ev f[i]; have st : ∀ {r : Bool}, Ev (fun k => if nodeB f[i] = true then impl_IsFormula.l1 k f u (i : Int) f (f.length : Int) (i : Int) (kids f[i]) ((kids f[i]).length : Int) 0 else some false) r → Ev (fun k => impl_IsFormula.l0 k f u f (f.length : Int) (i : Int)) r := by
   intro r h; refine Ev.step (fun k => by simp only [impl_IsFormula.l0]; rfl) (Ev.if_pos (by omega) (Ev.if_pos (by omega) (Ev.if_pos (by omega) ?_))); rw [rdN_get f i hi]; exact Ev.bind kv h
  by_cases c : nodeB f[i] = true
  ·have ht := allK_succ f i hi; obtain ⟨r, e, hr⟩ := implF_kids f hn i hi (kids f[i]) (allK (f.take i)) ((∀ j, i + 1 ≤ j → okAt f j) ∧ (allK f).Nodup ∧ ∀ j : Nat, j + 1 < f.length → (j : Int) ∈ allK f) (kids_le _) (fun u' hu' hd' => ih u' (by rw [ht]; exact hu') (by rw [ht]; exact hd')) 0 (by omega) u (by simpa using hu) (by simpa using hd); refine ⟨r, st (Ev.if_pos c e), ?_⟩; rw [hr, List.drop_zero]; constructor
   ·rintro ⟨a, b, d, e, g⟩; refine ⟨fun j hj hj2 => ?_, e, g⟩; by_cases q : j = i
    ·subst q; exact ⟨c, a⟩
    ·exact d j (by omega) hj2
   ·rintro ⟨a, b, d⟩; refine ⟨(a i (Nat.le_refl _) hi).2, ?_, fun j hj => a j (by omega), b, d⟩; have : allK f = (allK (f.take i) ++ kids f[i]) ++ allK (f.drop (i + 1)) := by
     unfold allK; rw [← ht]; unfold allK; rw [← List.flatMap_append, List.take_append_drop]
    rw [this, List.nodup_append] at b; exact b.1
  ·refine ⟨false, st (Ev.if_neg c (Ev.some _)), ?_⟩; exact ⟨fun h => (by cases h), fun h => absurd (h.1 i (Nat.le_refl _) hi).1 c⟩
theorem implF_ev (f : List S75) (hf : f.length ≤ 1048576) : ∃ r, Ev (fun k => impl_IsFormula.f k f) r ∧ (r = true ↔ isFP f) := by
 unfold impl_IsFormula.f; by_cases c1 : (f.length : Int) < 1
 ·exact ⟨false, Ev.if_pos c1 (Ev.step (fun k => by simp only [impl_IsFormula.j0]; rfl) (Ev.if_pos trivial (Ev.some _))), fun h => (by cases h), fun h => absurd h.1.1 (by omega)⟩
 by_cases c2 : (f.length : Int) > 40
 ·exact ⟨false, Ev.if_neg c1 (Ev.step (fun k => by simp only [impl_IsFormula.j0]; rfl) (Ev.if_pos (decide_eq_true c2) (Ev.some _))), fun h => (by cases h), fun h => absurd h.1.2 (by omega)⟩
 obtain ⟨r, e, hr⟩ := implF_main f (by omega) (by omega) 0 (by omega) (List.replicate f.length false) ⟨by simp, fun j hj => by
  rw [getB _ j (by simpa using hj)]; simp [allK]⟩ (by simp [allK])
 refine ⟨r, Ev.if_neg c1 (Ev.step (fun k => by simp only [impl_IsFormula.j0]; rfl) (Ev.if_neg (by simpa using c2) (Ev.if_pos (by omega) (Ev.if_pos (by omega) e)))), ?_⟩; rw [hr]; exact ⟨fun h => ⟨⟨by omega, by omega⟩, fun i => h.1 i (by omega), h.2⟩, fun h => ⟨fun j _ => h.2.1 j, h.2.2⟩⟩
/-! The reference counts. -/
def counts (n : Nat) (u : List Int) (K : List Int) : Prop := u.length = n ∧ ∀ j : Nat, j < n → rd u (j : Int) = (K.count (j : Int) : Int)
theorem counts_set {n : Nat} {u : List Int} {K : List Int} (h : counts n u K) (j : Nat) (hj : j < n) (hK : K.length ≤ 1000) : counts n (u.set j (wrap64 (rd u (j : Int) + 1))) (K ++ [(j : Int)]) := by
 refine ⟨by rw [List.length_set]; exact h.1, fun m hm => ?_⟩; have hl := h.1; have hc := List.count_le_length (a := (j : Int)) (l := K); rw [h.2 j hj, wsucc (by omega), rd_get _ m (by rw [List.length_set]; omega), List.getElem_set, List.count_append]; by_cases e : j = m
 ·subst e; rw [_root_.if_pos rfl]; simp
 ·rw [_root_.if_neg e, ← rd_get u m (by omega), h.2 m hm, List.count_cons, List.count_nil, _root_.if_neg (by simp; omega)]; rfl
theorem specF_tail (f : List S75) (hn : f.length ≤ 40) (h1 : 1 ≤ f.length) (u : List Int) (hu : counts f.length u (allK f)) : ∃ r, Ev (fun k => spec_IsFormula.l2 k f u 0) r ∧ (r = true ↔ ∀ j : Nat, j + 1 < f.length → (allK f).count (j : Int) = 1) := by
 have hw : wrap64 ((f.length : Int) - 1) = ((f.length - 1 : Nat) : Int) := by rw [w_id (by omega) (by omega)]; omega
 have hl := hu.1; have key : ∀ i, i ≤ f.length - 1 → ∃ r, Ev (fun k => spec_IsFormula.l2 k f u (i : Int)) r ∧ (r = true ↔ ∀ j : Nat, i ≤ j → j + 1 < f.length → (allK f).count (j : Int) = 1) := by
  refine down _ ?_ ?_
  ·exact ⟨true, Ev.step (fun k => by simp only [spec_IsFormula.l2, hw]; rfl) (Ev.if_neg (by omega) (Ev.some _)), by simp; omega⟩
  ·rintro i hi ⟨r, e, hr⟩; have hm := hu.2 i (by omega); by_cases q : rd u (i : Int) = 1
   ·refine ⟨r, Ev.step (fun k => by simp only [spec_IsFormula.l2, hw]; rfl) (Ev.if_pos (by omega) (Ev.if_pos (by omega) (Ev.if_pos (by omega) (Ev.if_pos q (by rw [wsucc (by omega)]; exact e))))), ?_⟩; rw [hr]; refine ⟨fun h j hj hj2 => ?_, fun h j hj hj2 => h j (by omega) hj2⟩; by_cases c : j = i
    ·subst c; omega
    ·exact h j (by omega) hj2
   ·refine ⟨false, Ev.step (fun k => by simp only [spec_IsFormula.l2, hw]; rfl) (Ev.if_pos (by omega) (Ev.if_pos (by omega) (Ev.if_pos (by omega) (Ev.if_neg q (Ev.some _))))), ?_⟩; refine ⟨fun h => (by cases h), fun h => absurd (h i (by omega) (by omega)) (by omega)⟩
 obtain ⟨r, e, hr⟩ := key 0 (by omega); exact ⟨r, e, by rw [hr]; exact ⟨fun h j hj => h j (by omega) hj, fun h j _ hj => h j hj⟩⟩
theorem specF_kids (f : List S75) (hn : f.length ≤ 40) (i : Nat) (hi : i < f.length) (ys : List Int) (K : List Int) (R : Prop) (hy : ys.length ≤ 2) (hK : K.length ≤ 80) (hr : inR (i : Int) ys = true)
  (next : ∀ u, counts f.length u (K ++ ys) → ∃ r, Ev (fun k => spec_IsFormula.l0 k f u ((i + 1 : Nat) : Int)) r ∧ (r = true ↔ R)) :
  ∀ m, m ≤ ys.length → ∀ u, counts f.length u (K ++ ys.take m) → ∃ r, Ev (fun k => spec_IsFormula.l1 k f u (i : Int) ys (m : Int)) r ∧ (r = true ↔ R) := by
 refine down ys.length ?_ ?_
 ·intro u hu; rw [List.take_length] at hu; obtain ⟨r, e, hr⟩ := next u hu; exact ⟨r, Ev.step (fun k => by simp only [spec_IsFormula.l1]; rfl) (Ev.if_neg (by omega) (by rw [wsucc (by omega)]; exact e)), hr⟩
 ·intro m hm ih u hu; have er : rd ys (m : Int) = ys[m] := rd_get ys m hm; have hb := (inR_iff _ _).1 hr _ (List.getElem_mem hm); have hl := hu.1; obtain ⟨j, hj⟩ : ∃ j : Nat, ys[m] = (j : Int) := ⟨ys[m].toNat, by omega⟩; have ht : K ++ ys.take (m + 1) = (K ++ ys.take m) ++ [(j : Int)] := by rw [take_succ ys m hm, hj, List.append_assoc]
  obtain ⟨r, e, hr⟩ := ih (u.set j (wrap64 (rd u (j : Int) + 1))) (by rw [ht]; exact counts_set hu j (by omega) (by rw [List.length_append, List.length_take]; omega)); refine ⟨r, Ev.step (fun k => by simp only [spec_IsFormula.l1]; rfl) (Ev.if_pos (by omega) (Ev.if_pos (by omega) ?_)), hr⟩; rw [er, hj, Int.toNat_natCast, wsucc (by omega)]; exact Ev.if_pos (by omega) (Ev.if_pos (by omega) e)
theorem specF_main (f : List S75) (hn : f.length ≤ 40) (h1 : 1 ≤ f.length) : ∀ i, i ≤ f.length → ∀ u, counts f.length u (allK (f.take i)) →
  ∃ r, Ev (fun k => spec_IsFormula.l0 k f u (i : Int)) r ∧ (r = true ↔ (∀ j, i ≤ j → okAt f j) ∧ ∀ j : Nat, j + 1 < f.length → (allK f).count (j : Int) = 1) := by
 refine down f.length ?_ ?_
 ·intro u hu; rw [List.take_length] at hu; obtain ⟨r, e, hr⟩ := specF_tail f hn h1 u hu; refine ⟨r, Ev.step (fun k => by simp only [spec_IsFormula.l0]; rfl) (Ev.if_neg (by omega) e), ?_⟩; rw [hr]; exact ⟨fun h => ⟨fun j hj hj2 => absurd hj2 (by omega), h⟩, fun h => h.2⟩
 ·intro i hi ih u hu; have nv := specNode_ev f[i] (i : Int); have kv := specKids_ev f[i]; have st : ∀ {r : Bool}, Ev (fun k => if (nodeB f[i] && inR (i : Int) (kids f[i])) = true then spec_IsFormula.l1 k f u (i : Int) (kids f[i]) 0 else some false) r → Ev (fun k => spec_IsFormula.l0 k f u (i : Int)) r := by
   intro r h; refine Ev.step (fun k => by simp only [spec_IsFormula.l0]; rfl) (Ev.if_pos (by omega) (Ev.if_pos (by omega) ?_)); rw [rdN_get f i hi]; refine Ev.bind nv ?_; by_cases c : (nodeB f[i] && inR (i : Int) (kids f[i])) = true
   ·exact Ev.if_pos c (Ev.bind kv (Ev.congr (fun k => (_root_.if_pos c).symm) h))
   ·exact Ev.if_neg c (Ev.congr (fun k => (_root_.if_neg c).symm) h)
  by_cases c : (nodeB f[i] && inR (i : Int) (kids f[i])) = true
  ·have ht := allK_succ f i hi; have c' := c; rw [Bool.and_eq_true] at c'; have hK := allK_len (f.take i); rw [List.length_take] at hK; obtain ⟨r, e, hr⟩ := specF_kids f hn i hi (kids f[i]) (allK (f.take i)) ((∀ j, i + 1 ≤ j → okAt f j) ∧ ∀ j : Nat, j + 1 < f.length → (allK f).count (j : Int) = 1) (kids_le _) (by omega) c'.2 (fun u' hu' => ih u' (by rw [ht]; exact hu')) 0 (by omega) u (by simpa using hu); refine ⟨r, st (Ev.if_pos c e), ?_⟩; rw [hr]; constructor
   ·rintro ⟨d, e⟩; refine ⟨fun j hj hj2 => ?_, e⟩; by_cases q : j = i
    ·subst q; exact c'
    ·exact d j (by omega) hj2
   ·rintro ⟨a, b⟩; exact ⟨fun j hj => a j (by omega), b⟩
  ·refine ⟨false, st (Ev.if_neg c (Ev.some _)), ?_⟩; refine ⟨fun h => (by cases h), fun h => absurd ?_ c⟩; rw [Bool.and_eq_true]; exact h.1 i (Nat.le_refl _) hi
theorem allK_range (f : List S75) (h : ∀ i, okAt f i) : ∀ y ∈ allK f, ∃ j : Nat, y = (j : Int) ∧ j + 1 < f.length := by
 intro y hy; obtain ⟨x, hx, hyx⟩ := List.mem_flatMap.1 hy; obtain ⟨i, hi, rfl⟩ := List.mem_iff_getElem.1 hx; have := (inR_iff _ _).1 (h i hi).2 y hyx; exact ⟨y.toNat, by omega, by omega⟩
theorem specF_ev (f : List S75) (hf : f.length ≤ 1048576) : ∃ r, Ev (fun k => spec_IsFormula.f k f) r ∧ (r = true ↔ isFP f) := by
 unfold spec_IsFormula.f; by_cases c : (1 : Int) ≤ (f.length : Int) ∧ (f.length : Int) ≤ 40
 ·have hv : spec_l1In.f (f.length : Int) 1 40 = some true := by rw [l1In_val, decide_eq_true c]
  obtain ⟨r, e, hr⟩ := specF_main f (by omega) (by omega) 0 (by omega) (List.replicate f.length 0) ⟨by simp, fun j hj => by
   rw [rd_get _ j (by simpa using hj)]; simp [allK]⟩
  refine ⟨r, Ev.bind (Ev.val hv) (Ev.if_pos rfl (Ev.if_pos (by omega) (Ev.if_pos (by omega) e))), ?_⟩; rw [hr]; constructor
  ·rintro ⟨a, b⟩; have ok : ∀ i, okAt f i := fun i => a i (by omega)
   refine ⟨⟨by omega, by omega⟩, ok, ?_, fun j hj => ?_⟩
   ·rw [List.nodup_iff_count]; intro y; by_cases hy : y ∈ allK f
    ·obtain ⟨j, rfl, hj⟩ := allK_range f ok y hy; rw [b j hj]; exact Nat.le_refl _
    ·rw [List.count_eq_zero.2 hy]; omega
   ·exact List.count_pos_iff.1 (by rw [b j hj]; omega)
  ·rintro ⟨_, ok, nd, mem⟩; refine ⟨fun j _ => ok j, fun j hj => ?_⟩; have h1 := List.nodup_iff_count.1 nd (j : Int); have h2 := List.count_pos_iff.2 (mem j hj); omega
 ·have hv : spec_l1In.f (f.length : Int) 1 40 = some false := by rw [l1In_val, decide_eq_false c]
  exact ⟨false, Ev.bind (Ev.val hv) (Ev.if_neg (by simp) (Ev.some _)), fun h => (by cases h), fun h => absurd h.1 (by omega)⟩
/-! The text. -/
def zN : S75 := ⟨0, 0, 0, 0⟩
/-- The text of a node. -/
def txt (f : List S75) : Nat → Nat → List UInt8
 | 0, _ => []
 | m + 1, a =>
  let x := f.getD a zN
  if x.f0 = 1 then [61] ++ Lib.itoa x.f1 ++ Lib.itoa x.f2
  else if x.f0 = 2 then [60] ++ Lib.itoa x.f1 ++ Lib.itoa x.f2
  else if x.f0 = 3 then [43] ++ Lib.itoa x.f1 ++ Lib.itoa x.f2 ++ Lib.itoa x.f3
  else if x.f0 = 4 then [35] ++ Lib.itoa x.f1 ++ Lib.itoa x.f2 ++ [46]
  else if x.f0 = 5 then [83] ++ Lib.itoa x.f1 ++ Lib.itoa x.f2
  else if x.f0 = 6 then [33] ++ txt f m x.f1.toNat
  else if x.f0 = 7 then [38] ++ txt f m x.f1.toNat ++ txt f m x.f2.toNat
  else if x.f0 = 8 then [124] ++ txt f m x.f1.toNat ++ txt f m x.f2.toNat
  else if x.f0 = 9 then [69] ++ Lib.itoa x.f1 ++ txt f m x.f2.toNat
  else [65] ++ Lib.itoa x.f1 ++ txt f m x.f2.toNat
theorem node_bounds (x : S75) (a : Nat) (ha : a ≤ 40) (hb : nodeB x = true) (hr : inR (a : Int) (kids x) = true) : (0 ≤ x.f1 ∧ x.f1 ≤ 1000) ∧ (0 ≤ x.f2 ∧ x.f2 ≤ 1000) ∧ (0 ≤ x.f3 ∧ x.f3 ≤ 1000) := by
 rw [inR_iff] at hr; unfold nodeB vr at hb; unfold kids at hr; by_cases c1 : x.f0 = 1
 ·simp [c1] at hb; omega
 by_cases c2 : x.f0 = 2
 ·simp [c2] at hb; omega
 by_cases c3 : x.f0 = 3
 ·simp [c3] at hb; omega
 by_cases c4 : x.f0 = 4
 ·simp [c4] at hb; omega
 by_cases c5 : x.f0 = 5
 ·simp [c5] at hb; omega
 by_cases c6 : x.f0 = 6
 ·simp [c6] at hb hr; omega
 by_cases c7 : x.f0 = 7
 ·simp [c7] at hb hr; omega
 by_cases c8 : x.f0 = 8
 ·simp [c8] at hb hr; omega
 by_cases c9 : x.f0 = 9
 ·simp [c9] at hb hr; omega
 by_cases c10 : x.f0 = 10
 ·simp [c10] at hb hr; omega
 simp [c1, c2, c3, c4, c5, c6, c7, c8, c9, c10] at hb
theorem txt_both (f : List S75) (hn : f.length ≤ 40) (ok : ∀ i, okAt f i) :
  ∀ m a, a < m → a < f.length → (Ev (fun k => spec_l16Text.f k f (a : Int)) (bs (txt f m a)) ∧ Ev (fun k => impl_text.f k f (a : Int)) (bs (txt f m a))) ∧ (1 ≤ (txt f m a).length ∧ (txt f m a).length + 61 ≤ 61 * 2 ^ (a + 1)) := by
 intro m
 induction m with
 | zero => intro a h; omega
 | succ m ih =>
  intro a ha hf; obtain ⟨hb, hr⟩ := ok a hf; obtain ⟨w1, w2, w3⟩ := node_bounds f[a] a (by omega) hb hr; have hx : f.getD a zN = f[a] := by rw [List.getD_eq_getElem?_getD, List.getElem?_eq_getElem hf]; rfl
  have hrd := rdN_get f a hf; have p1 : (2 : Nat) ^ a ≥ 1 := Nat.one_le_two_pow; have p2 : (2 : Nat) ^ (a + 1) = 2 * 2 ^ a := by rw [Nat.pow_succ]; omega
  have pa : (2 : Nat) ^ (a + 1) ≤ 2 ^ 40 := Nat.pow_le_pow_right (by omega) (by omega); have p40 : (2 : Nat) ^ 40 = 1099511627776 := by decide
  have sub : ∀ y : Int, y ∈ kids f[a] → (Ev (fun k => spec_l16Text.f k f y) (bs (txt f m y.toNat)) ∧ Ev (fun k => impl_text.f k f y) (bs (txt f m y.toNat))) ∧ (1 ≤ (txt f m y.toNat).length ∧ (txt f m y.toNat).length + 61 ≤ 61 * 2 ^ a) := by
   intro y hy; have hy2 := (inR_iff _ _).1 hr y hy; have h := ih y.toNat (by omega) (by omega); have e : ((y.toNat : Nat) : Int) = y := by omega
   rw [e] at h; have : (2 : Nat) ^ (y.toNat + 1) ≤ 2 ^ a := Nat.pow_le_pow_right (by omega) (by omega); exact ⟨h.1, h.2.1, by omega⟩
  have s1 := specFI_ev f[a].f1 (by omega) (by omega); have s2 := specFI_ev f[a].f2 (by omega) (by omega); have s3 := specFI_ev f[a].f3 (by omega) (by omega); have i1 := implFI_val f[a].f1 (by omega) (by omega); have i2 := implFI_val f[a].f2 (by omega) (by omega); have i3 := implFI_val f[a].f3 (by omega) (by omega); have z1 := itoa_le f[a].f1 (by omega) (by omega); have z2 := itoa_le f[a].f2 (by omega) (by omega); have z3 := itoa_le f[a].f3 (by omega) (by omega); generalize hk : f[a] = x at *; have hcase : x.f0 = 1 ∨ x.f0 = 2 ∨ x.f0 = 3 ∨ x.f0 = 4 ∨ x.f0 = 5 ∨ x.f0 = 6 ∨ x.f0 = 7 ∨ x.f0 = 8 ∨ x.f0 = 9 ∨ x.f0 = 10 := by
   by_cases c : x.f0 = 1 ∨ x.f0 = 2 ∨ x.f0 = 3 ∨ x.f0 = 4 ∨ x.f0 = 5 ∨ x.f0 = 6 ∨ x.f0 = 7 ∨ x.f0 = 8 ∨ x.f0 = 9 ∨ x.f0 = 10
   ·exact c
   ·exfalso; unfold nodeB at hb; simp only [not_or] at c; simp [c] at hb
  have hw : wrap64 (x.f0 + 1) = x.f0 + 1 := w_id (by omega) (by omega); have one : ∀ (n : Nat) (a : List UInt8), (bs a).size ≤ n → a.length ≤ n := fun n a h => by rw [bs_size] at h; exact h
  rcases hcase with h | h | h | h | h | h | h | h | h | h
  ·have hT : txt f (m + 1) a = ([61] : List UInt8) ++ Lib.itoa x.f1 ++ Lib.itoa x.f2 := by simp only [txt, hx, h, Int.reduceEq, reduceIte, List.append_assoc]
   rw [hT]; clear hT; refine ⟨⟨?_, ?_⟩, ?_⟩
   ·refine Ev.step (fun k => by simp only [spec_l16Text.f]; rfl) (Ev.if_pos (by omega) (Ev.if_pos (by omega) ?_)); rw [hrd]; simp only [h, Int.reduceAdd, Int.reduceLE, Int.reduceGE, Int.reduceEq, Int.reduceBEq, Int.reduceToNat, reduceIte, Bool.false_eq_true, if_true, if_false]; refine (Ev.bind s1 (Ev.if_pos (by simp only [ByteArray.size_append, szA, bs_size, List.size_toArray, List.length_cons, List.length_nil]; omega) (Ev.bind s2 (Ev.if_pos (by simp only [ByteArray.size_append, szA, bs_size, List.size_toArray, List.length_cons, List.length_nil]; omega) (Ev.same (Ev.some _) ?_))))); show bs [61] ++ bs _ ++ bs _ = _; simp only [bs_app]
   ·refine Ev.step (fun k => by simp only [impl_text.f]; rfl) (Ev.if_pos (by omega) (Ev.if_pos (by omega) ?_)); rw [hrd, hw]; simp only [h, Int.reduceAdd, Int.reduceLE, Int.reduceGE, Int.reduceEq, Int.reduceBEq, Int.reduceToNat, reduceIte, Bool.false_eq_true, if_true, if_false]; rw [show (⟨#[32, 61, 60, 43, 35, 83, 33, 38, 124, 69, 65]⟩ : ByteArray).extract 1 2 = bs [61] by decide +kernel]; refine Ev.step (fun k => by simp only [impl_text.j0, Int.reduceEq, Int.reduceBEq, reduceIte, Bool.false_eq_true, if_true, if_false]; rfl) ?_; refine (Ev.bind (Ev.val i1) (Ev.if_pos (by simp only [ByteArray.size_append, szA, bs_size, List.size_toArray, List.length_cons, List.length_nil]; omega) (Ev.bind (Ev.val i2) (Ev.if_pos (by simp only [ByteArray.size_append, szA, bs_size, List.size_toArray, List.length_cons, List.length_nil]; omega) (Ev.same (Ev.some _) ?_)))))
    skip
    simp only [bs_app]
   ·simp only [List.length_append, List.length_cons, List.length_nil]; omega
  ·have hT : txt f (m + 1) a = ([60] : List UInt8) ++ Lib.itoa x.f1 ++ Lib.itoa x.f2 := by simp only [txt, hx, h, Int.reduceEq, reduceIte, List.append_assoc]
   rw [hT]; clear hT; refine ⟨⟨?_, ?_⟩, ?_⟩
   ·refine Ev.step (fun k => by simp only [spec_l16Text.f]; rfl) (Ev.if_pos (by omega) (Ev.if_pos (by omega) ?_)); rw [hrd]; simp only [h, Int.reduceAdd, Int.reduceLE, Int.reduceGE, Int.reduceEq, Int.reduceBEq, Int.reduceToNat, reduceIte, Bool.false_eq_true, if_true, if_false]; refine (Ev.bind s1 (Ev.if_pos (by simp only [ByteArray.size_append, szA, bs_size, List.size_toArray, List.length_cons, List.length_nil]; omega) (Ev.bind s2 (Ev.if_pos (by simp only [ByteArray.size_append, szA, bs_size, List.size_toArray, List.length_cons, List.length_nil]; omega) (Ev.same (Ev.some _) ?_))))); show bs [60] ++ bs _ ++ bs _ = _; simp only [bs_app]
   ·refine Ev.step (fun k => by simp only [impl_text.f]; rfl) (Ev.if_pos (by omega) (Ev.if_pos (by omega) ?_)); rw [hrd, hw]; simp only [h, Int.reduceAdd, Int.reduceLE, Int.reduceGE, Int.reduceEq, Int.reduceBEq, Int.reduceToNat, reduceIte, Bool.false_eq_true, if_true, if_false]; rw [show (⟨#[32, 61, 60, 43, 35, 83, 33, 38, 124, 69, 65]⟩ : ByteArray).extract 2 3 = bs [60] by decide +kernel]; refine Ev.step (fun k => by simp only [impl_text.j0, Int.reduceEq, Int.reduceBEq, reduceIte, Bool.false_eq_true, if_true, if_false]; rfl) ?_; refine (Ev.bind (Ev.val i1) (Ev.if_pos (by simp only [ByteArray.size_append, szA, bs_size, List.size_toArray, List.length_cons, List.length_nil]; omega) (Ev.bind (Ev.val i2) (Ev.if_pos (by simp only [ByteArray.size_append, szA, bs_size, List.size_toArray, List.length_cons, List.length_nil]; omega) (Ev.same (Ev.some _) ?_)))))
    skip
    simp only [bs_app]
   ·simp only [List.length_append, List.length_cons, List.length_nil]; omega
  ·have hT : txt f (m + 1) a = ([43] : List UInt8) ++ Lib.itoa x.f1 ++ Lib.itoa x.f2 ++ Lib.itoa x.f3 := by simp only [txt, hx, h, Int.reduceEq, reduceIte, List.append_assoc]
   rw [hT]; clear hT; refine ⟨⟨?_, ?_⟩, ?_⟩
   ·refine Ev.step (fun k => by simp only [spec_l16Text.f]; rfl) (Ev.if_pos (by omega) (Ev.if_pos (by omega) ?_)); rw [hrd]; simp only [h, Int.reduceAdd, Int.reduceLE, Int.reduceGE, Int.reduceEq, Int.reduceBEq, Int.reduceToNat, reduceIte, Bool.false_eq_true, if_true, if_false]; refine (Ev.bind s1 (Ev.if_pos (by simp only [ByteArray.size_append, szA, bs_size, List.size_toArray, List.length_cons, List.length_nil]; omega) (Ev.bind s2 (Ev.if_pos (by simp only [ByteArray.size_append, szA, bs_size, List.size_toArray, List.length_cons, List.length_nil]; omega) (Ev.bind s3 (Ev.if_pos (by simp only [ByteArray.size_append, szA, bs_size, List.size_toArray, List.length_cons, List.length_nil]; omega) (Ev.same (Ev.some _) ?_))))))); show bs [43] ++ bs _ ++ bs _ ++ bs _ = _; simp only [bs_app]
   ·refine Ev.step (fun k => by simp only [impl_text.f]; rfl) (Ev.if_pos (by omega) (Ev.if_pos (by omega) ?_)); rw [hrd, hw]; simp only [h, Int.reduceAdd, Int.reduceLE, Int.reduceGE, Int.reduceEq, Int.reduceBEq, Int.reduceToNat, reduceIte, Bool.false_eq_true, if_true, if_false]; rw [show (⟨#[32, 61, 60, 43, 35, 83, 33, 38, 124, 69, 65]⟩ : ByteArray).extract 3 4 = bs [43] by decide +kernel]; refine Ev.step (fun k => by simp only [impl_text.j0, Int.reduceEq, Int.reduceBEq, reduceIte, Bool.false_eq_true, if_true, if_false]; rfl) ?_; refine (Ev.bind (Ev.val i1) (Ev.if_pos (by simp only [ByteArray.size_append, szA, bs_size, List.size_toArray, List.length_cons, List.length_nil]; omega) (Ev.bind (Ev.val i2) (Ev.if_pos (by simp only [ByteArray.size_append, szA, bs_size, List.size_toArray, List.length_cons, List.length_nil]; omega) (Ev.bind (Ev.val i3) (Ev.if_pos (by simp only [ByteArray.size_append, szA, bs_size, List.size_toArray, List.length_cons, List.length_nil]; omega) (Ev.same (Ev.some _) ?_)))))))
    skip
    simp only [bs_app]
   ·simp only [List.length_append, List.length_cons, List.length_nil]; omega
  ·have hT : txt f (m + 1) a = ([35] : List UInt8) ++ Lib.itoa x.f1 ++ Lib.itoa x.f2 ++ [46] := by simp only [txt, hx, h, Int.reduceEq, reduceIte, List.append_assoc]
   rw [hT]; clear hT; refine ⟨⟨?_, ?_⟩, ?_⟩
   ·refine Ev.step (fun k => by simp only [spec_l16Text.f]; rfl) (Ev.if_pos (by omega) (Ev.if_pos (by omega) ?_)); rw [hrd]; simp only [h, Int.reduceAdd, Int.reduceLE, Int.reduceGE, Int.reduceEq, Int.reduceBEq, Int.reduceToNat, reduceIte, Bool.false_eq_true, if_true, if_false]; refine (Ev.bind s1 (Ev.if_pos (by simp only [ByteArray.size_append, szA, bs_size, List.size_toArray, List.length_cons, List.length_nil]; omega) (Ev.bind s2 (Ev.if_pos (by simp only [ByteArray.size_append, szA, bs_size, List.size_toArray, List.length_cons, List.length_nil]; omega) (Ev.if_pos (by simp only [ByteArray.size_append, szA, bs_size, List.size_toArray, List.length_cons, List.length_nil]; omega) (Ev.same (Ev.some _) ?_)))))); show bs [35] ++ bs _ ++ bs _ ++ bs [46] = _; simp only [bs_app]
   ·refine Ev.step (fun k => by simp only [impl_text.f]; rfl) (Ev.if_pos (by omega) (Ev.if_pos (by omega) ?_)); rw [hrd, hw]; simp only [h, Int.reduceAdd, Int.reduceLE, Int.reduceGE, Int.reduceEq, Int.reduceBEq, Int.reduceToNat, reduceIte, Bool.false_eq_true, if_true, if_false]; rw [show (⟨#[32, 61, 60, 43, 35, 83, 33, 38, 124, 69, 65]⟩ : ByteArray).extract 4 5 = bs [35] by decide +kernel]; refine Ev.step (fun k => by simp only [impl_text.j0, Int.reduceEq, Int.reduceBEq, reduceIte, Bool.false_eq_true, if_true, if_false]; rfl) ?_; refine (Ev.bind (Ev.val i1) (Ev.if_pos (by simp only [ByteArray.size_append, szA, bs_size, List.size_toArray, List.length_cons, List.length_nil]; omega) (Ev.bind (Ev.val i2) (Ev.if_pos (by simp only [ByteArray.size_append, szA, bs_size, List.size_toArray, List.length_cons, List.length_nil]; omega) (Ev.if_pos (by simp only [ByteArray.size_append, szA, bs_size, List.size_toArray, List.length_cons, List.length_nil]; omega) (Ev.same (Ev.some _) ?_)))))); show bs [35] ++ bs _ ++ bs _ ++ bs [46] = _; simp only [bs_app]
   ·simp only [List.length_append, List.length_cons, List.length_nil]; omega
  ·have hT : txt f (m + 1) a = ([83] : List UInt8) ++ Lib.itoa x.f1 ++ Lib.itoa x.f2 := by simp only [txt, hx, h, Int.reduceEq, reduceIte, List.append_assoc]
   rw [hT]; clear hT; refine ⟨⟨?_, ?_⟩, ?_⟩
   ·refine Ev.step (fun k => by simp only [spec_l16Text.f]; rfl) (Ev.if_pos (by omega) (Ev.if_pos (by omega) ?_)); rw [hrd]; simp only [h, Int.reduceAdd, Int.reduceLE, Int.reduceGE, Int.reduceEq, Int.reduceBEq, Int.reduceToNat, reduceIte, Bool.false_eq_true, if_true, if_false]; refine (Ev.bind s1 (Ev.if_pos (by simp only [ByteArray.size_append, szA, bs_size, List.size_toArray, List.length_cons, List.length_nil]; omega) (Ev.bind s2 (Ev.if_pos (by simp only [ByteArray.size_append, szA, bs_size, List.size_toArray, List.length_cons, List.length_nil]; omega) (Ev.same (Ev.some _) ?_))))); show bs [83] ++ bs _ ++ bs _ = _; simp only [bs_app]
   ·refine Ev.step (fun k => by simp only [impl_text.f]; rfl) (Ev.if_pos (by omega) (Ev.if_pos (by omega) ?_)); rw [hrd, hw]; simp only [h, Int.reduceAdd, Int.reduceLE, Int.reduceGE, Int.reduceEq, Int.reduceBEq, Int.reduceToNat, reduceIte, Bool.false_eq_true, if_true, if_false]; rw [show (⟨#[32, 61, 60, 43, 35, 83, 33, 38, 124, 69, 65]⟩ : ByteArray).extract 5 6 = bs [83] by decide +kernel]; refine Ev.step (fun k => by simp only [impl_text.j0, Int.reduceEq, Int.reduceBEq, reduceIte, Bool.false_eq_true, if_true, if_false]; rfl) ?_; refine (Ev.bind (Ev.val i1) (Ev.if_pos (by simp only [ByteArray.size_append, szA, bs_size, List.size_toArray, List.length_cons, List.length_nil]; omega) (Ev.bind (Ev.val i2) (Ev.if_pos (by simp only [ByteArray.size_append, szA, bs_size, List.size_toArray, List.length_cons, List.length_nil]; omega) (Ev.same (Ev.some _) ?_)))))
    skip
    simp only [bs_app]
   ·simp only [List.length_append, List.length_cons, List.length_nil]; omega
  ·have u1 := sub x.f1 (by unfold kids; rw [h]; simp); have hT : txt f (m + 1) a = ([33] : List UInt8) ++ txt f m x.f1.toNat := by simp only [txt, hx, h, Int.reduceEq, reduceIte, List.append_assoc]
   rw [hT]; clear hT; refine ⟨⟨?_, ?_⟩, ?_⟩
   ·refine Ev.step (fun k => by simp only [spec_l16Text.f]; rfl) (Ev.if_pos (by omega) (Ev.if_pos (by omega) ?_)); rw [hrd]; simp only [h, Int.reduceAdd, Int.reduceLE, Int.reduceGE, Int.reduceEq, Int.reduceBEq, Int.reduceToNat, reduceIte, Bool.false_eq_true, if_true, if_false]; refine (Ev.bind u1.1.1 (Ev.if_pos (by simp only [ByteArray.size_append, szA, bs_size, List.size_toArray, List.length_cons, List.length_nil]; omega) (Ev.same (Ev.some _) ?_))); show bs [33] ++ bs _ = _; simp only [bs_app]
   ·refine Ev.step (fun k => by simp only [impl_text.f]; rfl) (Ev.if_pos (by omega) (Ev.if_pos (by omega) ?_)); rw [hrd, hw]; simp only [h, Int.reduceAdd, Int.reduceLE, Int.reduceGE, Int.reduceEq, Int.reduceBEq, Int.reduceToNat, reduceIte, Bool.false_eq_true, if_true, if_false]; rw [show (⟨#[32, 61, 60, 43, 35, 83, 33, 38, 124, 69, 65]⟩ : ByteArray).extract 6 7 = bs [33] by decide +kernel]; refine Ev.step (fun k => by simp only [impl_text.j0, Int.reduceEq, Int.reduceBEq, reduceIte, Bool.false_eq_true, if_true, if_false]; rfl) ?_; refine (Ev.bind u1.1.2 (Ev.if_pos (by simp only [ByteArray.size_append, szA, bs_size, List.size_toArray, List.length_cons, List.length_nil]; omega) (Ev.same (Ev.some _) ?_)))
    skip
    simp only [bs_app]
   ·simp only [List.length_append, List.length_cons, List.length_nil]; omega
  ·have u1 := sub x.f1 (by unfold kids; rw [h]; simp); have u2 := sub x.f2 (by unfold kids; rw [h]; simp); have hT : txt f (m + 1) a = ([38] : List UInt8) ++ txt f m x.f1.toNat ++ txt f m x.f2.toNat := by simp only [txt, hx, h, Int.reduceEq, reduceIte, List.append_assoc]
   rw [hT]; clear hT; refine ⟨⟨?_, ?_⟩, ?_⟩
   ·refine Ev.step (fun k => by simp only [spec_l16Text.f]; rfl) (Ev.if_pos (by omega) (Ev.if_pos (by omega) ?_)); rw [hrd]; simp only [h, Int.reduceAdd, Int.reduceLE, Int.reduceGE, Int.reduceEq, Int.reduceBEq, Int.reduceToNat, reduceIte, Bool.false_eq_true, if_true, if_false]; refine (Ev.bind u1.1.1 (Ev.if_pos (by simp only [ByteArray.size_append, szA, bs_size, List.size_toArray, List.length_cons, List.length_nil]; omega) (Ev.bind u2.1.1 (Ev.if_pos (by simp only [ByteArray.size_append, szA, bs_size, List.size_toArray, List.length_cons, List.length_nil]; omega) (Ev.same (Ev.some _) ?_))))); show bs [38] ++ bs _ ++ bs _ = _; simp only [bs_app]
   ·refine Ev.step (fun k => by simp only [impl_text.f]; rfl) (Ev.if_pos (by omega) (Ev.if_pos (by omega) ?_)); rw [hrd, hw]; simp only [h, Int.reduceAdd, Int.reduceLE, Int.reduceGE, Int.reduceEq, Int.reduceBEq, Int.reduceToNat, reduceIte, Bool.false_eq_true, if_true, if_false]; rw [show (⟨#[32, 61, 60, 43, 35, 83, 33, 38, 124, 69, 65]⟩ : ByteArray).extract 7 8 = bs [38] by decide +kernel]; refine Ev.step (fun k => by simp only [impl_text.j0, Int.reduceEq, Int.reduceBEq, reduceIte, Bool.false_eq_true, if_true, if_false]; rfl) ?_; refine Ev.step (fun k => by simp only [impl_text.j1, Int.reduceEq, Int.reduceBEq, reduceIte, Bool.false_eq_true, if_true, if_false]; rfl) ?_; refine (Ev.bind u1.1.2 (Ev.if_pos (by simp only [ByteArray.size_append, szA, bs_size, List.size_toArray, List.length_cons, List.length_nil]; omega) (Ev.bind u2.1.2 (Ev.if_pos (by simp only [ByteArray.size_append, szA, bs_size, List.size_toArray, List.length_cons, List.length_nil]; omega) (Ev.same (Ev.some _) ?_)))))
    skip
    simp only [bs_app]
   ·simp only [List.length_append, List.length_cons, List.length_nil]; omega
  ·have u1 := sub x.f1 (by unfold kids; rw [h]; simp); have u2 := sub x.f2 (by unfold kids; rw [h]; simp); have hT : txt f (m + 1) a = ([124] : List UInt8) ++ txt f m x.f1.toNat ++ txt f m x.f2.toNat := by simp only [txt, hx, h, Int.reduceEq, reduceIte, List.append_assoc]
   rw [hT]; clear hT; refine ⟨⟨?_, ?_⟩, ?_⟩
   ·refine Ev.step (fun k => by simp only [spec_l16Text.f]; rfl) (Ev.if_pos (by omega) (Ev.if_pos (by omega) ?_)); rw [hrd]; simp only [h, Int.reduceAdd, Int.reduceLE, Int.reduceGE, Int.reduceEq, Int.reduceBEq, Int.reduceToNat, reduceIte, Bool.false_eq_true, if_true, if_false]; refine (Ev.bind u1.1.1 (Ev.if_pos (by simp only [ByteArray.size_append, szA, bs_size, List.size_toArray, List.length_cons, List.length_nil]; omega) (Ev.bind u2.1.1 (Ev.if_pos (by simp only [ByteArray.size_append, szA, bs_size, List.size_toArray, List.length_cons, List.length_nil]; omega) (Ev.same (Ev.some _) ?_))))); show bs [124] ++ bs _ ++ bs _ = _; simp only [bs_app]
   ·refine Ev.step (fun k => by simp only [impl_text.f]; rfl) (Ev.if_pos (by omega) (Ev.if_pos (by omega) ?_)); rw [hrd, hw]; simp only [h, Int.reduceAdd, Int.reduceLE, Int.reduceGE, Int.reduceEq, Int.reduceBEq, Int.reduceToNat, reduceIte, Bool.false_eq_true, if_true, if_false]; rw [show (⟨#[32, 61, 60, 43, 35, 83, 33, 38, 124, 69, 65]⟩ : ByteArray).extract 8 9 = bs [124] by decide +kernel]; refine Ev.step (fun k => by simp only [impl_text.j0, Int.reduceEq, Int.reduceBEq, reduceIte, Bool.false_eq_true, if_true, if_false]; rfl) ?_; refine Ev.step (fun k => by simp only [impl_text.j1, Int.reduceEq, Int.reduceBEq, reduceIte, Bool.false_eq_true, if_true, if_false]; rfl) ?_; refine (Ev.bind u1.1.2 (Ev.if_pos (by simp only [ByteArray.size_append, szA, bs_size, List.size_toArray, List.length_cons, List.length_nil]; omega) (Ev.bind u2.1.2 (Ev.if_pos (by simp only [ByteArray.size_append, szA, bs_size, List.size_toArray, List.length_cons, List.length_nil]; omega) (Ev.same (Ev.some _) ?_)))))
    skip
    simp only [bs_app]
   ·simp only [List.length_append, List.length_cons, List.length_nil]; omega
  ·have u2 := sub x.f2 (by unfold kids; rw [h]; simp); have hT : txt f (m + 1) a = ([69] : List UInt8) ++ Lib.itoa x.f1 ++ txt f m x.f2.toNat := by simp only [txt, hx, h, Int.reduceEq, reduceIte, List.append_assoc]
   rw [hT]; clear hT; refine ⟨⟨?_, ?_⟩, ?_⟩
   ·refine Ev.step (fun k => by simp only [spec_l16Text.f]; rfl) (Ev.if_pos (by omega) (Ev.if_pos (by omega) ?_)); rw [hrd]; simp only [h, Int.reduceAdd, Int.reduceLE, Int.reduceGE, Int.reduceEq, Int.reduceBEq, Int.reduceToNat, reduceIte, Bool.false_eq_true, if_true, if_false]; refine (Ev.bind s1 (Ev.if_pos (by simp only [ByteArray.size_append, szA, bs_size, List.size_toArray, List.length_cons, List.length_nil]; omega) (Ev.bind u2.1.1 (Ev.if_pos (by simp only [ByteArray.size_append, szA, bs_size, List.size_toArray, List.length_cons, List.length_nil]; omega) (Ev.same (Ev.some _) ?_))))); show bs [69] ++ bs _ ++ bs _ = _; simp only [bs_app]
   ·refine Ev.step (fun k => by simp only [impl_text.f]; rfl) (Ev.if_pos (by omega) (Ev.if_pos (by omega) ?_)); rw [hrd, hw]; simp only [h, Int.reduceAdd, Int.reduceLE, Int.reduceGE, Int.reduceEq, Int.reduceBEq, Int.reduceToNat, reduceIte, Bool.false_eq_true, if_true, if_false]; rw [show (⟨#[32, 61, 60, 43, 35, 83, 33, 38, 124, 69, 65]⟩ : ByteArray).extract 9 10 = bs [69] by decide +kernel]; refine Ev.step (fun k => by simp only [impl_text.j0, Int.reduceEq, Int.reduceBEq, reduceIte, Bool.false_eq_true, if_true, if_false]; rfl) ?_; refine Ev.step (fun k => by simp only [impl_text.j1, Int.reduceEq, Int.reduceBEq, reduceIte, Bool.false_eq_true, if_true, if_false]; rfl) ?_; refine (Ev.bind (Ev.val i1) (Ev.if_pos (by simp only [ByteArray.size_append, szA, bs_size, List.size_toArray, List.length_cons, List.length_nil]; omega) (Ev.bind u2.1.2 (Ev.if_pos (by simp only [ByteArray.size_append, szA, bs_size, List.size_toArray, List.length_cons, List.length_nil]; omega) (Ev.same (Ev.some _) ?_)))))
    skip
    simp only [bs_app]
   ·simp only [List.length_append, List.length_cons, List.length_nil]; omega
  ·have u2 := sub x.f2 (by unfold kids; rw [h]; simp); have hT : txt f (m + 1) a = ([65] : List UInt8) ++ Lib.itoa x.f1 ++ txt f m x.f2.toNat := by simp only [txt, hx, h, Int.reduceEq, reduceIte, List.append_assoc]
   rw [hT]; clear hT; refine ⟨⟨?_, ?_⟩, ?_⟩
   ·refine Ev.step (fun k => by simp only [spec_l16Text.f]; rfl) (Ev.if_pos (by omega) (Ev.if_pos (by omega) ?_)); rw [hrd]; simp only [h, Int.reduceAdd, Int.reduceLE, Int.reduceGE, Int.reduceEq, Int.reduceBEq, Int.reduceToNat, reduceIte, Bool.false_eq_true, if_true, if_false]; refine (Ev.bind s1 (Ev.if_pos (by simp only [ByteArray.size_append, szA, bs_size, List.size_toArray, List.length_cons, List.length_nil]; omega) (Ev.bind u2.1.1 (Ev.if_pos (by simp only [ByteArray.size_append, szA, bs_size, List.size_toArray, List.length_cons, List.length_nil]; omega) (Ev.same (Ev.some _) ?_))))); show bs [65] ++ bs _ ++ bs _ = _; simp only [bs_app]
   ·refine Ev.step (fun k => by simp only [impl_text.f]; rfl) (Ev.if_pos (by omega) (Ev.if_pos (by omega) ?_)); rw [hrd, hw]; simp only [h, Int.reduceAdd, Int.reduceLE, Int.reduceGE, Int.reduceEq, Int.reduceBEq, Int.reduceToNat, reduceIte, Bool.false_eq_true, if_true, if_false]; rw [show (⟨#[32, 61, 60, 43, 35, 83, 33, 38, 124, 69, 65]⟩ : ByteArray).extract 10 11 = bs [65] by decide +kernel]; refine Ev.step (fun k => by simp only [impl_text.j0, Int.reduceEq, Int.reduceBEq, reduceIte, Bool.false_eq_true, if_true, if_false]; rfl) ?_; refine Ev.step (fun k => by simp only [impl_text.j1, Int.reduceEq, Int.reduceBEq, reduceIte, Bool.false_eq_true, if_true, if_false]; rfl) ?_; refine (Ev.bind (Ev.val i1) (Ev.if_pos (by simp only [ByteArray.size_append, szA, bs_size, List.size_toArray, List.length_cons, List.length_nil]; omega) (Ev.bind u2.1.2 (Ev.if_pos (by simp only [ByteArray.size_append, szA, bs_size, List.size_toArray, List.length_cons, List.length_nil]; omega) (Ev.same (Ev.some _) ?_)))))
    skip
    simp only [bs_app]
   ·simp only [List.length_append, List.length_cons, List.length_nil]; omega
end Go.Proofs.YtdekenijnbhpfaaDoor.M
/- Formulas as trees: the list of nodes that a reader lays (flat), the text (tt); a list that is a formula and was laid so has the tree's text. Plain Lean. -/
namespace Go.Proofs.YtdekenijnbhpfaaDoor.M
open Go.RowKit Go.Proofs.YtdekenijnbhpfaaDoorW.PrintWords Go.Proofs.YtdekenijnbhpfaaDoor.K
set_option linter.unusedVariables false
inductive FT where
 | two (o x y : Int)
 | sum (x y z : Int)
 | num (x y : Int)
 | neg (t : FT)
 | bin (o : Int) (t u : FT)
 | qu (o x : Int) (t : FT)
def FT.sz : FT → Nat
 | two _ _ _ => 1
 | sum _ _ _ => 1
 | num _ _ => 1
 | neg t => t.sz + 1
 | bin _ t u => t.sz + u.sz + 1
 | qu _ _ t => t.sz + 1
theorem FT.sz_pos : ∀ t : FT, 1 ≤ t.sz
 | two _ _ _ => Nat.le_refl _
 | sum _ _ _ => Nat.le_refl _
 | num _ _ => Nat.le_refl _
 | neg t => by simp [FT.sz]
 | bin _ t u => by simp [FT.sz]
 | qu _ _ t => by simp [FT.sz]
/-- The nodes, laid behind n others. -/
def FT.flat (n : Nat) : FT → List S75
 | two o x y => [⟨o, x, y, 0⟩]
 | sum x y z => [⟨3, x, y, z⟩]
 | num x y => [⟨4, x, y, 0⟩]
 | neg t => t.flat n ++ [⟨6, ((n + t.sz : Nat) : Int) - 1, 0, 0⟩]
 | bin o t u => t.flat n ++ u.flat (n + t.sz) ++ [⟨o, ((n + t.sz : Nat) : Int) - 1, ((n + t.sz + u.sz : Nat) : Int) - 1, 0⟩]
 | qu o x t => t.flat n ++ [⟨o, x, ((n + t.sz : Nat) : Int) - 1, 0⟩]
theorem FT.flat_len : ∀ (t : FT) (n : Nat), (t.flat n).length = t.sz
 | two _ _ _, _ => rfl
 | sum _ _ _, _ => rfl
 | num _ _, _ => rfl
 | neg t, n => by simp [FT.flat, FT.sz, FT.flat_len t n]
 | bin _ t u, n => by simp [FT.flat, FT.sz, FT.flat_len t n, FT.flat_len u]; omega
 | qu _ _ t, n => by simp [FT.flat, FT.sz, FT.flat_len t n]
/-- The operations are those that a reader lays. -/
def FT.ops : FT → Prop
 | two o _ _ => o = 1 ∨ o = 2 ∨ o = 5
 | sum _ _ _ => True
 | num _ _ => True
 | neg t => t.ops
 | bin o t u => (o = 7 ∨ o = 8) ∧ t.ops ∧ u.ops
 | qu o _ t => (o = 9 ∨ o = 10) ∧ t.ops
def dgt (x : Int) : Prop := 0 ≤ x ∧ x ≤ 9
/-- Right numbers besides. -/
def FT.vd : FT → Prop
 | two o x y => (o = 1 ∨ o = 2 ∨ o = 5) ∧ dgt x ∧ dgt y
 | sum x y z => dgt x ∧ dgt y ∧ dgt z
 | num x y => dgt x ∧ 0 ≤ y ∧ y ≤ 255
 | neg t => t.vd
 | bin o t u => (o = 7 ∨ o = 8) ∧ t.vd ∧ u.vd
 | qu o x t => (o = 9 ∨ o = 10) ∧ dgt x ∧ t.vd
def osg (o : Int) : UInt8 := if o = 1 then 61 else if o = 2 then 60 else if o = 5 then 83 else if o = 7 then 38 else if o = 8 then 124 else if o = 9 then 69 else 65
def FT.tt : FT → List UInt8
 | two o x y => [osg o] ++ Lib.itoa x ++ Lib.itoa y
 | sum x y z => [43] ++ Lib.itoa x ++ Lib.itoa y ++ Lib.itoa z
 | num x y => [35] ++ Lib.itoa x ++ Lib.itoa y ++ [46]
 | neg t => [33] ++ t.tt
 | bin o t u => [osg o] ++ t.tt ++ u.tt
 | qu o x t => [osg o] ++ Lib.itoa x ++ t.tt
/-- A tree's nodes stand in a list from n on. -/
def FT.inn (F : List S75) (n : Nat) (t : FT) : Prop := ∀ j, j < t.sz → F[n + j]? = (t.flat n)[j]?
theorem inn_left {F : List S75} {n : Nat} {t : FT} {l : List S75} {m : Nat} (hm : t.sz ≤ m) (h : ∀ j, j < m → F[n + j]? = (t.flat n ++ l)[j]?) : t.inn F n := fun j hj => by
 rw [h j (by omega), List.getElem?_append_left (by rw [FT.flat_len]; exact hj)]
theorem vr_iff (a : Int) : vr a = true ↔ 0 ≤ a ∧ a < 3 := by unfold vr; simp
theorem tree_text (F : List S75) (ok : ∀ i, okAt F i) : ∀ (t : FT) (n : Nat), t.ops → t.inn F n → t.vd ∧ ∀ m, n + t.sz ≤ m → txt F m (n + t.sz - 1) = t.tt := by
 have node : ∀ {i : Nat} {x : S75}, F[i]? = some x → nodeB x = true ∧ F.getD i zN = x := fun {i x} h => by
  obtain ⟨hl, e⟩ := List.getElem?_eq_some_iff.1 h; have := (ok i hl).1; rw [e] at this; exact ⟨this, by rw [List.getD_eq_getElem?_getD, h]; rfl⟩
 intro t
 induction t with
 | two o x y =>
  intro n ho hi; have h0 : F[n]? = some ⟨o, x, y, 0⟩ := hi 0 (by simp [FT.sz]); obtain ⟨hb, hg⟩ := node h0; simp only [FT.ops] at ho; have hv : dgt x ∧ dgt y := by
   rcases ho with rfl | rfl | rfl <;> simp [nodeB, vr_iff] at hb <;> (unfold dgt; omega)
  refine ⟨⟨ho, hv.1, hv.2⟩, fun m hm => ?_⟩; obtain ⟨m, rfl⟩ : ∃ q, m = q + 1 := ⟨m - 1, by simp only [FT.sz] at hm; omega⟩; show txt F (m + 1) n = _; simp only [txt, hg, FT.tt]; rcases ho with rfl | rfl | rfl <;> rfl
 | sum x y z =>
  intro n ho hi; have h0 : F[n]? = some ⟨3, x, y, z⟩ := hi 0 (by simp [FT.sz]); obtain ⟨hb, hg⟩ := node h0; simp [nodeB, vr_iff] at hb; refine ⟨⟨by unfold dgt; omega, by unfold dgt; omega, by unfold dgt; omega⟩, fun m hm => ?_⟩; obtain ⟨m, rfl⟩ : ∃ q, m = q + 1 := ⟨m - 1, by simp only [FT.sz] at hm; omega⟩; show txt F (m + 1) n = _; simp only [txt, hg, FT.tt]; rfl
 | num x y =>
  intro n ho hi; have h0 : F[n]? = some ⟨4, x, y, 0⟩ := hi 0 (by simp [FT.sz]); obtain ⟨hb, hg⟩ := node h0; simp [nodeB, vr_iff] at hb; refine ⟨⟨by unfold dgt; omega, by omega, by omega⟩, fun m hm => ?_⟩; obtain ⟨m, rfl⟩ : ∃ q, m = q + 1 := ⟨m - 1, by simp only [FT.sz] at hm; omega⟩; show txt F (m + 1) n = _; simp only [txt, hg, FT.tt]; rfl
 | neg t ih =>
  intro n ho hi; have hp := t.sz_pos; have h0 : F[n + t.sz]? = some ⟨6, ((n + t.sz : Nat) : Int) - 1, 0, 0⟩ := by
   rw [hi t.sz (by simp [FT.sz])]; simp [FT.flat, FT.flat_len]
  obtain ⟨hb, hg⟩ := node h0; obtain ⟨v1, e1⟩ := ih n ho (inn_left (Nat.le_refl _) fun j hj => hi j (by simp only [FT.sz]; omega)); refine ⟨v1, fun m hm => ?_⟩; simp only [FT.sz] at hm; obtain ⟨m, rfl⟩ : ∃ q, m = q + 1 := ⟨m - 1, by omega⟩; show txt F (m + 1) (n + (t.sz + 1) - 1) = _; rw [show n + (t.sz + 1) - 1 = n + t.sz by omega]; simp only [txt, hg, FT.tt]; rw [← e1 m (by omega), show (((n + t.sz : Nat) : Int) - 1).toNat = n + t.sz - 1 by omega]; rfl
 | bin o t u ih1 ih2 =>
  intro n ho hi; simp only [FT.ops] at ho; have hp := t.sz_pos; have hq := u.sz_pos; have h0 : F[n + t.sz + u.sz]? = some ⟨o, ((n + t.sz : Nat) : Int) - 1, ((n + t.sz + u.sz : Nat) : Int) - 1, 0⟩ := by
   rw [Nat.add_assoc, hi (t.sz + u.sz) (by simp [FT.sz])]; simp [FT.flat, FT.flat_len, Int.add_assoc]
  obtain ⟨hb, hg⟩ := node h0; obtain ⟨v1, e1⟩ := ih1 n ho.2.1 (inn_left (l := u.flat (n + t.sz) ++ [⟨o, ((n + t.sz : Nat) : Int) - 1, ((n + t.sz + u.sz : Nat) : Int) - 1, 0⟩]) (Nat.le_refl _) fun j hj => by rw [hi j (by simp only [FT.sz]; omega)]; simp [FT.flat])
  obtain ⟨v2, e2⟩ := ih2 (n + t.sz) ho.2.2 (fun j hj => by
   rw [Nat.add_assoc, hi (t.sz + j) (by simp only [FT.sz]; omega)]; simp only [FT.flat]
   rw [List.append_assoc, List.getElem?_append_right (by rw [FT.flat_len]; omega), FT.flat_len, show t.sz + j - t.sz = j by omega, List.getElem?_append_left (by rw [FT.flat_len]; exact hj)])
  refine ⟨⟨ho.1, v1, v2⟩, fun m hm => ?_⟩; simp only [FT.sz] at hm; obtain ⟨m, rfl⟩ : ∃ q, m = q + 1 := ⟨m - 1, by omega⟩; show txt F (m + 1) (n + (t.sz + u.sz + 1) - 1) = _; rw [show n + (t.sz + u.sz + 1) - 1 = n + t.sz + u.sz by omega]; simp only [txt, hg, FT.tt]; rw [← e1 m (by omega), ← e2 m (by omega), show (((n + t.sz : Nat) : Int) - 1).toNat = n + t.sz - 1 by omega, show (((n + t.sz + u.sz : Nat) : Int) - 1).toNat = n + t.sz + u.sz - 1 by omega]; rcases ho.1 with rfl | rfl <;> rfl
 | qu o x t ih =>
  intro n ho hi; simp only [FT.ops] at ho; have hp := t.sz_pos; have h0 : F[n + t.sz]? = some ⟨o, x, ((n + t.sz : Nat) : Int) - 1, 0⟩ := by
   rw [hi t.sz (by simp [FT.sz])]; simp [FT.flat, FT.flat_len]
  obtain ⟨hb, hg⟩ := node h0; obtain ⟨v1, e1⟩ := ih n ho.2 (inn_left (Nat.le_refl _) fun j hj => hi j (by simp only [FT.sz]; omega)); have hv : dgt x := by
   rcases ho.1 with rfl | rfl <;> simp [nodeB, vr_iff] at hb <;> (unfold dgt; omega)
  refine ⟨⟨ho.1, hv, v1⟩, fun m hm => ?_⟩; simp only [FT.sz] at hm; obtain ⟨m, rfl⟩ : ∃ q, m = q + 1 := ⟨m - 1, by omega⟩; show txt F (m + 1) (n + (t.sz + 1) - 1) = _; rw [show n + (t.sz + 1) - 1 = n + t.sz by omega]; simp only [txt, hg, FT.tt]; rw [← e1 m (by omega), show (((n + t.sz : Nat) : Int) - 1).toNat = n + t.sz - 1 by omega]; rcases ho.1 with rfl | rfl <;> rfl
theorem bt_nat (s : ByteArray) (i : Nat) (l : List UInt8) (hl : s = bs l) (h : i < l.length) : bt s (i : Int) = ((l[i]'h).toNat : Int) := by
 subst hl; unfold bt; have h2 : Int.toNat (i : Int) < (bs l).size := by rw [bs_size]; exact h
 rw [dif_pos h2]; congr 1
theorem pone_ok (s : ByteArray) (i : Nat) (b : Bool) (hi : i ≤ s.size) (h : (pone s i b).2.2 = false) : b = false ∧ i < s.size ∧ pone s i b = (bt s (i : Int), i + 1, false) := by
 unfold pone at h ⊢; by_cases h1 : b = true
 ·rw [if_pos h1] at h; cases h
 ·rw [if_neg h1] at h ⊢; by_cases h2 : i = s.size
  ·rw [if_pos h2] at h; cases h
  ·rw [if_neg h2]; exact ⟨by cases b <;> simp_all, by omega, rfl⟩
theorem pdig_ok (s : ByteArray) (i : Nat) (b : Bool) (hi : i ≤ s.size) (h : (pdig s i b).2.2 = false) : b = false ∧ i < s.size ∧ pdig s i b = (bt s (i : Int) - 48, i + 1, false) ∧ 48 ≤ bt s (i : Int) ∧ bt s (i : Int) ≤ 57 := by
 unfold pdig at h ⊢; by_cases h1 : (pone s i b).1 < 48
 ·rw [if_pos h1] at h; cases h
 ·rw [if_neg h1] at h ⊢; by_cases h2 : (pone s i b).1 > 57
  ·rw [if_pos h2] at h; cases h
  ·rw [if_neg h2] at h ⊢; obtain ⟨q1, q2, q3⟩ := pone_ok s i b hi h; rw [q3] at h1 h2 ⊢; dsimp only at h1 h2 ⊢; exact ⟨q1, q2, rfl, by omega, by omega⟩
theorem pnum_bad (s : ByteArray) (i : Nat) (b : Bool) (h : (pnum s i b).2.2 = false) : b = false := by
 unfold pnum at h; split at h
 ·cases h
 ·rename_i hq; cases b
  ·rfl
  ·exact absurd (Or.inl rfl) hq
theorem pfin_some {f : List S75} {n : S75} {i : Nat} {b : Bool} {r : Int} {i' : Nat} {b' : Bool} {f' : List S75} (h : pfin f n i b = some (r, i', b', f')) : r = (f.length : Int) ∧ i' = i ∧ b' = b ∧ f' = f ++ [n] := by
 unfold pfin at h; split at h
 ·simp only [Option.some.injEq, Prod.mk.injEq] at h; obtain ⟨rfl, rfl, rfl, rfl⟩ := h; exact ⟨rfl, rfl, rfl, rfl⟩
 ·cases h
/-- What is read well is a tree. -/
theorem pnode_tree (s : ByteArray) : ∀ (k i : Nat) (b : Bool) (f : List S75) (r : Int) (i' : Nat) (b' : Bool) (f' : List S75), i ≤ s.size → pnode s k i b f = some (r, i', b', f') → i' ≤ s.size ∧ (b' = false → b = false ∧ ∃ t : FT, t.ops ∧ f' = f ++ t.flat f.length ∧ r = ((f.length + t.sz : Nat) : Int) - 1) := by
 intro k
 induction k with
 | zero => intro i b f r i' b' f' hi h; cases h
 | succ k ih =>
  intro i b f r i' b' f' hi h; have hle := pone_le s i b hi; have hx := psgn_range s i b; have hb1 : (pone s i b).2.2 = false → b = false := fun q => (pone_ok s i b hi q).1
  simp only [pnode] at h; generalize psgn s i b = x at h hx; generalize pone s i b = q at h hle hb1; obtain ⟨c, i1, b1⟩ := q; dsimp only at h hle hb1; have hd1 := pdig_le s i1 b1 hle; have hd2 := pdig_le s _ (pdig s i1 b1).2.2 hd1; have bad1 : (pdig s i1 b1).2.2 = false → b = false := fun q => hb1 (pdig_ok s i1 b1 hle q).1
  split at h
  ·obtain ⟨_, rfl, rfl, _⟩ := pfin_some h; exact ⟨hle, fun q => by cases q⟩
  split at h
  ·rename_i ho; obtain ⟨rfl, rfl, rfl, rfl⟩ := pfin_some h; exact ⟨hd2, fun q => ⟨bad1 (pdig_ok s _ _ hd1 q).1, .two x _ _, ho, rfl, by simp [FT.sz]⟩⟩
  split at h
  ·obtain ⟨rfl, rfl, rfl, rfl⟩ := pfin_some h; exact ⟨pdig_le s _ _ hd2, fun q => ⟨bad1 (pdig_ok s _ _ hd1 (pdig_ok s _ _ hd2 q).1).1, .sum _ _ _, trivial, rfl, by simp [FT.sz]⟩⟩
  split at h
  ·obtain ⟨rfl, rfl, rfl, rfl⟩ := pfin_some h; exact ⟨pnum_le s _ _ hd1, fun q => ⟨bad1 (pnum_bad s _ _ q), .num _ _, trivial, rfl, by simp [FT.sz]⟩⟩
  split at h
  ·obtain ⟨⟨qr, qi, qb, qf⟩, hq, h⟩ := Option.bind_eq_some_iff.1 h; dsimp only at h; obtain ⟨rfl, rfl, rfl, rfl⟩ := pfin_some h; obtain ⟨g1, g2⟩ := ih i1 b1 f _ _ _ _ hle hq; refine ⟨g1, fun q => ?_⟩; obtain ⟨e1, t, ot, rfl, rfl⟩ := g2 q; exact ⟨hb1 e1, .neg t, ot, by simp [FT.flat], by simp [FT.sz, FT.flat_len]; omega⟩
  split at h
  ·rename_i ho; obtain ⟨⟨qr, qi, qb, qf⟩, hq, h⟩ := Option.bind_eq_some_iff.1 h; dsimp only at h; obtain ⟨⟨pr, pi, pb, pf⟩, hp, h⟩ := Option.bind_eq_some_iff.1 h; dsimp only at h; obtain ⟨rfl, rfl, rfl, rfl⟩ := pfin_some h; obtain ⟨g1, g2⟩ := ih i1 b1 f _ _ _ _ hle hq; obtain ⟨g3, g4⟩ := ih _ _ _ _ _ _ _ g1 hp; refine ⟨g3, fun q => ?_⟩; obtain ⟨e2, u, ou, rfl, rfl⟩ := g4 q; obtain ⟨e1, t, ot, rfl, rfl⟩ := g2 e2; exact ⟨hb1 e1, .bin x t u, ⟨ho, ot, ou⟩, by simp [FT.flat, FT.flat_len], by simp [FT.sz, FT.flat_len]; omega⟩
  ·rename_i n1 n2 n3 n4 n5 n6; obtain ⟨⟨qr, qi, qb, qf⟩, hq, h⟩ := Option.bind_eq_some_iff.1 h; dsimp only at h; obtain ⟨rfl, rfl, rfl, rfl⟩ := pfin_some h; obtain ⟨g1, g2⟩ := ih _ _ f _ _ _ _ hd1 hq; refine ⟨g1, fun q => ?_⟩; obtain ⟨e1, t, ot, rfl, rfl⟩ := g2 q; exact ⟨bad1 e1, .qu x (pdig s i1 b1).1 t, ⟨by omega, ot⟩, by simp [FT.flat], by simp [FT.sz, FT.flat_len]; omega⟩
/-! A tree's text is read back. -/
theorem itoa_dgt (x : Int) (h : dgt x) : Lib.itoa x = [(48 + x.toNat).toUInt8] := by
 unfold dgt at h; rcases (show x = 0 ∨ x = 1 ∨ x = 2 ∨ x = 3 ∨ x = 4 ∨ x = 5 ∨ x = 6 ∨ x = 7 ∨ x = 8 ∨ x = 9 by omega) with rfl | rfl | rfl | rfl | rfl | rfl | rfl | rfl | rfl | rfl <;> decide +kernel
theorem dgt_byte (x : Int) (h : dgt x) : (((48 + x.toNat).toUInt8).toNat : Int) = 48 + x := by
 unfold dgt at h; rcases (show x = 0 ∨ x = 1 ∨ x = 2 ∨ x = 3 ∨ x = 4 ∨ x = 5 ∨ x = 6 ∨ x = 7 ∨ x = 8 ∨ x = 9 by omega) with rfl | rfl | rfl | rfl | rfl | rfl | rfl | rfl | rfl | rfl <;> rfl
/-- What stands at a place of the text. -/
theorem bt_mid (pre post : List UInt8) (c : UInt8) : bt (bs (pre ++ c :: post)) (pre.length : Int) = (c.toNat : Int) := by
 rw [bt_nat _ _ _ rfl (by simp)]; simp
theorem pone_mid (pre post : List UInt8) (c : UInt8) : pone (bs (pre ++ c :: post)) pre.length false = ((c.toNat : Int), pre.length + 1, false) := by
 unfold pone; rw [if_neg (by simp), if_neg (by rw [bs_size]; simp), bt_mid]
theorem pdig_mid (pre post : List UInt8) (x : Int) (h : dgt x) : pdig (bs (pre ++ (48 + x.toNat).toUInt8 :: post)) pre.length false = (x, pre.length + 1, false) := by
 unfold pdig; rw [pone_mid]; dsimp only; rw [dgt_byte x h]; unfold dgt at h; rw [if_neg (by omega), if_neg (by omega), show 48 + x - 48 = x by omega]
theorem psgn_mid (pre post : List UInt8) (c : UInt8) : psgn (bs (pre ++ c :: post)) pre.length false = Lib.indexByte sgn c := by
 unfold psgn; rw [pone_mid]; dsimp only; congr 1; rw [Int.toNat_natCast]; exact UInt8.ofNat_toNat
theorem pone_ge (s : ByteArray) (i : Nat) (b : Bool) : i ≤ (pone s i b).2.1 := by
 unfold pone; split
 ·exact Nat.le_refl _
 ·split
  ·exact Nat.le_refl _
  ·exact Nat.le_succ _
theorem pdig_ge (s : ByteArray) (i : Nat) (b : Bool) : i ≤ (pdig s i b).2.1 := by
 unfold pdig; split
 ·exact pone_ge s i b
 ·split <;> exact pone_ge s i b
theorem pnum_ge (s : ByteArray) (i : Nat) (b : Bool) : i ≤ (pnum s i b).2.1 := by
 unfold pnum; split
 ·exact Nat.le_refl _
 ·show i ≤ i + _ + 1; omega
theorem psgn_pos (s : ByteArray) (i : Nat) (b : Bool) (hi : i ≤ s.size) (h : ¬ psgn s i b ≤ 0) : (pone s i b).2.1 = i + 1 ∧ i + 1 ≤ s.size ∧ (pone s i b).2.2 = false := by
 have z : Lib.indexByte sgn (0 : Int).toNat.toUInt8 = -1 := by decide +kernel
 unfold psgn at h; unfold pone at h ⊢; by_cases h1 : b = true
 ·rw [if_pos h1] at h; dsimp only at h; rw [z] at h; omega
 ·rw [if_neg h1] at h ⊢; by_cases h2 : i = s.size
  ·rw [if_pos h2] at h; dsimp only at h; rw [z] at h; omega
  ·rw [if_neg h2]; exact ⟨rfl, by omega, rfl⟩
theorem pfin_ev (f : List S75) (n : S75) (i : Nat) (b : Bool) (h : f.length < 4398046511104) : Ev (fun _ => pfin f n i b) ((f.length : Int), i, b, f ++ [n]) := Ev.val (by unfold pfin; rw [if_pos h])
/-- What a reading ends with: its place goes on, its nodes are few. -/
def PEnd (s : ByteArray) (g : Nat → Option (Int × Nat × Bool × List S75)) (i : Nat) (f : List S75) : Prop := ∃ r i' b' f', Ev g (r, i', b', f') ∧ i ≤ i' ∧ i' ≤ s.size ∧ f'.length ≤ f.length + 2 * (i' - i) + 1
theorem pnode_end (s : ByteArray) : ∀ (m i : Nat) (b : Bool) (f : List S75), i ≤ s.size → s.size - i ≤ m → f.length + 2 * (s.size - i) ≤ 100000 → PEnd s (fun k => pnode s k i b f) i f := by
 intro m
 induction m with
 | zero =>
  intro i b f hi hm hf; obtain rfl : i = s.size := by omega
  have hx : psgn s s.size b ≤ 0 := by
   by_cases h : psgn s s.size b ≤ 0
   ·exact h
   ·have := (psgn_pos s s.size b hi h).2.1; omega
  refine ⟨_, _, _, _, Ev.step (fun k => by simp only [pnode]; rfl) (Ev.if_pos hx (pfin_ev _ _ _ _ (by omega))), pone_ge _ _ _, pone_le _ _ _ hi, ?_⟩; rw [List.length_append, List.length_singleton]; omega
 | succ m ih =>
  intro i b f hi hm hf; by_cases hx : psgn s i b ≤ 0
  ·refine ⟨_, _, _, _, Ev.step (fun k => by simp only [pnode]; rfl) (Ev.if_pos hx (pfin_ev _ _ _ _ (by omega))), pone_ge _ _ _, pone_le _ _ _ hi, ?_⟩; rw [List.length_append, List.length_singleton]; omega
  ·obtain ⟨e1, e2, e3⟩ := psgn_pos s i b hi hx; have hd1 := pdig_le s (i + 1) false e2; have gd1 := pdig_ge s (i + 1) false; have hd2 := pdig_le s _ (pdig s (i + 1) false).2.2 hd1; have gd2 := pdig_ge s (pdig s (i + 1) false).2.1 (pdig s (i + 1) false).2.2; by_cases c1 : psgn s i b = 1 ∨ psgn s i b = 2 ∨ psgn s i b = 5
   ·refine ⟨_, _, _, _, Ev.step (fun k => by simp only [pnode]; rfl) (Ev.if_neg hx (Ev.if_pos c1 (pfin_ev _ _ _ _ (by omega)))), ?_, ?_, ?_⟩
    ·rw [e1, e3]; omega
    ·rw [e1, e3]; omega
    ·rw [List.length_append, List.length_singleton]; omega
   by_cases c2 : psgn s i b = 3
   ·have hd3 := pdig_le s _ (pdig s (pdig s (i + 1) false).2.1 (pdig s (i + 1) false).2.2).2.2 hd2; have gd3 := pdig_ge s (pdig s (pdig s (i + 1) false).2.1 (pdig s (i + 1) false).2.2).2.1 (pdig s (pdig s (i + 1) false).2.1 (pdig s (i + 1) false).2.2).2.2; refine ⟨_, _, _, _, Ev.step (fun k => by simp only [pnode]; rfl) (Ev.if_neg hx (Ev.if_neg c1 (Ev.if_pos c2 (pfin_ev _ _ _ _ (by omega))))), ?_, ?_, ?_⟩
    ·rw [e1, e3]; omega
    ·rw [e1, e3]; omega
    ·rw [List.length_append, List.length_singleton]; omega
   by_cases c3 : psgn s i b = 4
   ·have hd3 := pnum_le s _ (pdig s (i + 1) false).2.2 hd1; have gd3 := pnum_ge s (pdig s (i + 1) false).2.1 (pdig s (i + 1) false).2.2; refine ⟨_, _, _, _, Ev.step (fun k => by simp only [pnode]; rfl) (Ev.if_neg hx (Ev.if_neg c1 (Ev.if_neg c2 (Ev.if_pos c3 (pfin_ev _ _ _ _ (by omega)))))), ?_, ?_, ?_⟩
    ·rw [e1, e3]; omega
    ·rw [e1, e3]; omega
    ·rw [List.length_append, List.length_singleton]; omega
   by_cases c4 : psgn s i b = 6
   ·obtain ⟨r, i', b', f', g1, g2, g3, g4⟩ := ih (i + 1) false f e2 (by omega) (by omega); refine ⟨_, _, _, _, Ev.step (fun k => by simp only [pnode, e1, e3]; rfl) (Ev.if_neg hx (Ev.if_neg c1 (Ev.if_neg c2 (Ev.if_neg c3 (Ev.if_pos c4 (Ev.bind g1 (pfin_ev f' _ _ _ (by omega)))))))), ?_, ?_, ?_⟩
    ·dsimp only; omega
    ·dsimp only; omega
    ·rw [List.length_append, List.length_singleton]; dsimp only; omega
   by_cases c5 : psgn s i b = 7 ∨ psgn s i b = 8
   ·obtain ⟨r, i', b', f', g1, g2, g3, g4⟩ := ih (i + 1) false f e2 (by omega) (by omega); obtain ⟨r2, i2, b2, f2, g5, g6, g7, g8⟩ := ih i' b' f' g3 (by omega) (by omega); refine ⟨_, _, _, _, Ev.step (fun k => by simp only [pnode, e1, e3]; rfl) (Ev.if_neg hx (Ev.if_neg c1 (Ev.if_neg c2 (Ev.if_neg c3 (Ev.if_neg c4 (Ev.if_pos c5 (Ev.bind g1 (Ev.bind g5 (pfin_ev f2 _ _ _ (by omega)))))))))), ?_, ?_, ?_⟩
    ·dsimp only; omega
    ·dsimp only; omega
    ·rw [List.length_append, List.length_singleton]; dsimp only; omega
   ·obtain ⟨r, i', b', f', g1, g2, g3, g4⟩ := ih _ (pdig s (i + 1) false).2.2 f hd1 (by omega) (by omega); refine ⟨_, _, _, _, Ev.step (fun k => by simp only [pnode, e1, e3]; rfl) (Ev.if_neg hx (Ev.if_neg c1 (Ev.if_neg c2 (Ev.if_neg c3 (Ev.if_neg c4 (Ev.if_neg c5 (Ev.bind g1 (pfin_ev f' _ _ _ (by omega))))))))), ?_, ?_, ?_⟩
    ·dsimp only; omega
    ·dsimp only; omega
    ·rw [List.length_append, List.length_singleton]; dsimp only; omega
/-! A tree's text is read back. -/
theorem small_dec : ∀ y < 256, Lib.atoi (Lib.itoa ((y : Nat) : Int)) = some (y : Int) ∧ (Lib.itoa ((y : Nat) : Int)).length ≤ 3 ∧ (Lib.itoa ((y : Nat) : Int)).all (fun c => decide (48 ≤ c.toNat ∧ c.toNat ≤ 57)) = true := by decide +kernel
theorem indexByte_app (c : UInt8) : ∀ (a q : List UInt8), (∀ x ∈ a, x ≠ c) → Lib.indexByte (a ++ c :: q) c = (a.length : Int)
 | [], q, _ => by rw [List.nil_append, Lib.indexByte]; simp
 | x :: a, q, h => by
  have h1 := indexByte_app c a q (fun y hy => h y (List.mem_cons_of_mem _ hy)); have h2 := h x (List.mem_cons_self ..); rw [List.cons_append, Lib.indexByte, h1]; simp [h2]
theorem pdig_at {T : ByteArray} {n : Nat} (P Q : List UInt8) (x : Int) (h : dgt x) (hT : T = bs (P ++ (Lib.itoa x ++ Q))) (hn : n = P.length) : pdig T n false = (x, n + 1, false) := by
 subst hT hn; rw [itoa_dgt x h]; exact pdig_mid P Q x h
theorem bs_extract (P Q : List UInt8) : (bs (P ++ Q)).extract P.length (bs (P ++ Q)).size = bs Q := by
 apply ByteArray.ext; rw [ByteArray.data_extract]; show (P ++ Q).toArray.extract P.length (P ++ Q).toArray.size = Q.toArray; simp
theorem bs_extract2 (P A Q : List UInt8) : (bs (P ++ (A ++ Q))).extract P.length (P.length + A.length) = bs A := by
 apply ByteArray.ext; rw [ByteArray.data_extract]; show (P ++ (A ++ Q)).toArray.extract P.length (P.length + A.length) = A.toArray; simp
theorem pint_small (y : Int) (h0 : 0 ≤ y) (h1 : y ≤ 255) : pint (bs (Lib.itoa y)) = (y, true) := by
 obtain ⟨n, rfl⟩ : ∃ n : Nat, y = (n : Int) := ⟨y.toNat, by omega⟩; obtain ⟨e1, e2, _⟩ := small_dec n (by omega); unfold pint; rw [if_neg (by rw [bs_size]; omega), if_neg (by rw [bs_size]; omega), bs_list, e1]; dsimp only; rw [if_pos (by rw [ByteArray.toList_eq, bs_list])]
theorem pnum_at {T : ByteArray} {n : Nat} (P Q : List UInt8) (y : Int) (h0 : 0 ≤ y) (h1 : y ≤ 255) (hT : T = bs (P ++ (Lib.itoa y ++ 46 :: Q))) (hn : n = P.length) : pnum T n false = (y, n + (Lib.itoa y).length + 1, false) := by
 subst hT hn; have hx : Lib.indexByte (Lib.itoa y ++ 46 :: Q) 46 = ((Lib.itoa y).length : Int) := by
  apply indexByte_app; obtain ⟨n, rfl⟩ : ∃ n : Nat, y = (n : Int) := ⟨y.toNat, by omega⟩; obtain ⟨_, _, e3⟩ := small_dec n (by omega); intro x hx e; have := List.all_eq_true.1 e3 x hx; subst e
  revert this; decide
 unfold pnum; rw [bs_extract, bs_list, hx, if_neg (by simp), Int.toNat_natCast, bs_extract2, pint_small y h0 h1]; rfl
theorem psgn_at {T : ByteArray} {n : Nat} (P Q : List UInt8) (c : UInt8) (hT : T = bs (P ++ c :: Q)) (hn : n = P.length) : psgn T n false = Lib.indexByte sgn c ∧ (pone T n false).2.1 = n + 1 ∧ (pone T n false).2.2 = false := by
 subst hT hn; exact ⟨psgn_mid P Q c, by rw [pone_mid], by rw [pone_mid]⟩
theorem pnode_read : ∀ (t : FT), t.vd → ∀ (P Q : List UInt8) (T : ByteArray) (f : List S75), T = bs (P ++ (t.tt ++ Q)) → f.length + t.sz ≤ 100000 → Ev (fun k => pnode T k P.length false f) (((f.length + t.sz : Nat) : Int) - 1, P.length + t.tt.length, false, f ++ t.flat f.length) := by
 intro t
 induction t with
 | two o x y =>
  intro hv P Q T f hT hf; obtain ⟨ho, hx, hy⟩ := hv; obtain ⟨s1, s2, s3⟩ := psgn_at (T := T) P (Lib.itoa x ++ (Lib.itoa y ++ Q)) (osg o) (by rw [hT]; simp [FT.tt]) rfl; have d1 := pdig_at (T := T) (n := P.length + 1) (P ++ [osg o]) (Lib.itoa y ++ Q) x hx (by rw [hT]; simp [FT.tt]) (by simp); have d2 := pdig_at (T := T) (n := P.length + 1 + 1) (P ++ [osg o] ++ Lib.itoa x) Q y hy (by rw [hT]; simp [FT.tt]) (by rw [itoa_dgt x hx]; simp); have so : psgn T P.length false = o := by
   rw [s1]; rcases ho with rfl | rfl | rfl <;> decide +kernel
  refine Ev.step (fun k => by simp only [pnode, s2, s3, so, d1, d2]; rfl) (Ev.if_neg (by omega) (Ev.if_pos ho (Ev.same (pfin_ev _ _ _ _ (by omega)) ?_))); simp [FT.sz, FT.flat, FT.tt, itoa_dgt x hx, itoa_dgt y hy]
 | sum x y z =>
  intro hv P Q T f hT hf; obtain ⟨hx, hy, hz⟩ := hv; obtain ⟨s1, s2, s3⟩ := psgn_at (T := T) P (Lib.itoa x ++ (Lib.itoa y ++ (Lib.itoa z ++ Q))) 43 (by rw [hT]; simp [FT.tt]) rfl; have d1 := pdig_at (T := T) (n := P.length + 1) (P ++ [43]) (Lib.itoa y ++ (Lib.itoa z ++ Q)) x hx (by rw [hT]; simp [FT.tt]) (by simp); have d2 := pdig_at (T := T) (n := P.length + 1 + 1) (P ++ [43] ++ Lib.itoa x) (Lib.itoa z ++ Q) y hy (by rw [hT]; simp [FT.tt]) (by rw [itoa_dgt x hx]; simp); have d3 := pdig_at (T := T) (n := P.length + 1 + 1 + 1) (P ++ [43] ++ Lib.itoa x ++ Lib.itoa y) Q z hz (by rw [hT]; simp [FT.tt]) (by rw [itoa_dgt x hx, itoa_dgt y hy]; simp); have so : psgn T P.length false = 3 := by rw [s1]; decide +kernel
  refine Ev.step (fun k => by simp only [pnode, s2, s3, d1, d2, d3]; rfl) (Ev.if_neg (by omega) (Ev.if_neg (by omega) (Ev.if_pos so (Ev.same (pfin_ev _ _ _ _ (by omega)) ?_)))); simp [FT.sz, FT.flat, FT.tt, itoa_dgt x hx, itoa_dgt y hy, itoa_dgt z hz]
 | num x y =>
  intro hv P Q T f hT hf; obtain ⟨hx, h0, h1⟩ := hv; obtain ⟨s1, s2, s3⟩ := psgn_at (T := T) P (Lib.itoa x ++ (Lib.itoa y ++ 46 :: Q)) 35 (by rw [hT]; simp [FT.tt]) rfl; have d1 := pdig_at (T := T) (n := P.length + 1) (P ++ [35]) (Lib.itoa y ++ 46 :: Q) x hx (by rw [hT]; simp [FT.tt]) (by simp); have d2 := pnum_at (T := T) (n := P.length + 1 + 1) (P ++ [35] ++ Lib.itoa x) Q y h0 h1 (by rw [hT]; simp [FT.tt]) (by rw [itoa_dgt x hx]; simp); have so : psgn T P.length false = 4 := by rw [s1]; decide +kernel
  refine Ev.step (fun k => by simp only [pnode, s2, s3, d1, d2]; rfl) (Ev.if_neg (by omega) (Ev.if_neg (by omega) (Ev.if_neg (by omega) (Ev.if_pos so (Ev.same (pfin_ev _ _ _ _ (by omega)) ?_))))); simp [FT.sz, FT.flat, FT.tt, itoa_dgt x hx]; omega
 | neg t ih =>
  intro hv P Q T f hT hf; simp only [FT.sz] at hf; obtain ⟨s1, s2, s3⟩ := psgn_at (T := T) P (t.tt ++ Q) 33 (by rw [hT]; simp [FT.tt]) rfl; have so : psgn T P.length false = 6 := by rw [s1]; decide +kernel
  have g1 := ih hv (P ++ [33]) Q T f (by rw [hT]; simp [FT.tt]) (by omega); rw [List.length_append, List.length_singleton] at g1; refine Ev.step (fun k => by simp only [pnode, s2, s3]; rfl) (Ev.if_neg (by omega) (Ev.if_neg (by omega) (Ev.if_neg (by omega) (Ev.if_neg (by omega) (Ev.if_pos so (Ev.bind g1 (Ev.same (pfin_ev (f ++ t.flat f.length) _ _ _ (by rw [List.length_append, FT.flat_len]; omega)) ?_))))))); simp [FT.sz, FT.flat, FT.flat_len, FT.tt]; omega
 | bin o t u ih1 ih2 =>
  intro hv P Q T f hT hf; simp only [FT.sz] at hf; obtain ⟨ho, v1, v2⟩ := hv; obtain ⟨s1, s2, s3⟩ := psgn_at (T := T) P (t.tt ++ (u.tt ++ Q)) (osg o) (by rw [hT]; simp [FT.tt]) rfl; have so : psgn T P.length false = o := by
   rw [s1]; rcases ho with rfl | rfl <;> decide +kernel
  have g1 := ih1 v1 (P ++ [osg o]) (u.tt ++ Q) T f (by rw [hT]; simp [FT.tt]) (by omega); have g2 := ih2 v2 (P ++ [osg o] ++ t.tt) Q T (f ++ t.flat f.length) (by rw [hT]; simp [FT.tt]) (by rw [List.length_append, FT.flat_len]; omega); rw [List.length_append, List.length_append, List.length_singleton] at g2; rw [List.length_append, List.length_singleton] at g1; refine Ev.step (fun k => by simp only [pnode, s2, s3, so]; rfl) (Ev.if_neg (by omega) (Ev.if_neg (by omega) (Ev.if_neg (by omega) (Ev.if_neg (by omega) (Ev.if_neg (by omega) (Ev.if_pos ho (Ev.bind g1 (Ev.bind g2 (Ev.same (pfin_ev (f ++ t.flat f.length ++ u.flat (f ++ t.flat f.length).length) _ _ _ (by simp only [List.length_append, FT.flat_len]; omega)) ?_))))))))); simp [FT.sz, FT.flat, FT.flat_len, FT.tt]; omega
 | qu o x t ih =>
  intro hv P Q T f hT hf; simp only [FT.sz] at hf; obtain ⟨ho, hx, v1⟩ := hv; obtain ⟨s1, s2, s3⟩ := psgn_at (T := T) P (Lib.itoa x ++ (t.tt ++ Q)) (osg o) (by rw [hT]; simp [FT.tt]) rfl; have d1 := pdig_at (T := T) (n := P.length + 1) (P ++ [osg o]) (t.tt ++ Q) x hx (by rw [hT]; simp [FT.tt]) (by simp); have so : psgn T P.length false = o := by
   rw [s1]; rcases ho with rfl | rfl <;> decide +kernel
  have g1 := ih v1 (P ++ [osg o] ++ Lib.itoa x) Q T f (by rw [hT]; simp [FT.tt]) (by omega); rw [List.length_append, List.length_append, List.length_singleton, show (Lib.itoa x).length = 1 by rw [itoa_dgt x hx]; rfl] at g1; refine Ev.step (fun k => by simp only [pnode, s2, s3, so, d1]; rfl) (Ev.if_neg (by omega) (Ev.if_neg (by omega) (Ev.if_neg (by omega) (Ev.if_neg (by omega) (Ev.if_neg (by omega) (Ev.if_neg (by omega) (Ev.bind g1 (Ev.same (pfin_ev (f ++ t.flat f.length) _ _ _ (by simp only [List.length_append, FT.flat_len]; omega)) ?_)))))))); simp [FT.sz, FT.flat, FT.flat_len, FT.tt, itoa_dgt x hx]; omega
def sdig (s : ByteArray) (i : Int) : Int := if i ≥ (s.size : Int) then -1 else if bt s i < 48 then -1 else if bt s i > 57 then -1 else bt s i - 48
theorem sdig_val (s : ByteArray) (i : Int) (h : 0 ≤ i) : spec_l16Digit.f s i = some (sdig s i) := by
 unfold spec_l16Digit.f sdig; by_cases h1 : i ≥ (s.size : Int)
 ·rw [if_pos h1, if_pos h1]
 ·rw [if_neg h1, if_neg h1, if_pos h, if_pos (by omega)]; by_cases h2 : bt s i < 48
  ·rw [if_pos h2, if_pos h2]
  ·rw [if_neg h2, if_neg h2]; by_cases h3 : bt s i > 57
   ·rw [if_pos h3, if_pos h3]
   ·rw [if_neg h3, if_neg h3, show (bt s i - 48) % 256 = bt s i - 48 by omega]
theorem sdig_ev (s : ByteArray) (i : Int) (h : 0 ≤ i ∧ i ≤ 1000) : Ev (fun _ => spec_l16Digit.f s (wrap64 i)) (sdig s i) := Ev.val (by rw [w_id (by omega) (by omega)]; exact sdig_val s i h.1)
theorem sdig_pos (s : ByteArray) (i : Int) (h : sdig s i ≥ 0) : i < (s.size : Int) ∧ 48 ≤ bt s i ∧ bt s i ≤ 57 := by
 unfold sdig at h; split at h
 ·omega
 ·split at h
  ·omega
  ·split at h <;> omega
theorem sdig_at {T : ByteArray} {n : Nat} (P Q : List UInt8) (x : Int) (h : dgt x) (hT : T = bs (P ++ (Lib.itoa x ++ Q))) (hn : n = P.length) : sdig T (n : Int) = x := by
 subst hT hn; have e : bt (bs (P ++ (Lib.itoa x ++ Q))) (P.length : Int) = 48 + x := by
  rw [itoa_dgt x h]; show bt (bs (P ++ _ :: Q)) _ = _; rw [bt_mid, dgt_byte x h]
 unfold sdig; unfold dgt at h; rw [e, if_neg (by rw [bs_size, List.length_append, itoa_dgt x h]; simp; omega), if_neg (by omega), if_neg (by omega)]; omega
/-! Numbers. -/
def isd (c : UInt8) : Prop := 48 ≤ c.toNat ∧ c.toNat ≤ 57
def dv : Int → List UInt8 → Int
 | a, [] => a
 | a, c :: l => dv (a * 10 + ((c.toNat : Int) - 48)) l
theorem sparse_loop (t : List UInt8) (ht : t.length ≤ 4) : ∀ (l P : List UInt8) (a : Int), t = P ++ l → (∀ c ∈ t, isd c) → 0 ≤ a → a < 10 ^ P.length →
  Ev (fun k => spec_ParseInt.l0 k (bs t) a (P.length : Int) (P.length : Int)) (if Lib.itoa (dv a l) = t then (dv a l, true) else (0, false)) := by
 intro l
 induction l with
 | nil =>
  intro P a e hd h0 h1; rw [List.append_nil] at e; subst e; have hp : (10 : Int) ^ t.length ≤ 10 ^ 4 := by
   have := Nat.pow_le_pow_right (show 0 < 10 by omega) ht
   exact_mod_cast this
  have fin : Ev (fun k => spec_ParseInt.j2 k (bs t) a (t.length : Int) false) (if Lib.itoa a = t then (a, true) else (0, false)) := by
   refine Ev.step (fun k => by simp only [spec_ParseInt.j2]; rfl) (Ev.if_neg (by simp) (Ev.if_neg (by omega) (Ev.if_neg (by rw [bs_size]; omega) (Ev.bind (specFI_ev a (by omega) (by omega)) ?_)))); by_cases h : Lib.itoa a = t
   ·rw [if_pos h]; exact Ev.if_pos (by rw [h]) (Ev.some _)
   ·rw [if_neg h]; exact Ev.if_neg (by rw [ByteArray.toList_eq, ByteArray.toList_eq, bs_list, bs_list]; exact h) (Ev.some _)
  refine Ev.step (fun k => by simp only [spec_ParseInt.l0]; rfl) (Ev.if_neg (by rw [bs_size]; omega) (Ev.step (fun k => by simp only [spec_ParseInt.j1]; rfl) (Ev.if_neg (by simp) ?_))); cases t with
  | nil => exact Ev.if_neg (by rw [bs_size]; simp) fin
  | cons c t =>
   have hc := hd c (List.mem_cons_self ..); have hb : bt (bs (c :: t)) 0 = (c.toNat : Int) := bt_mid [] t c; refine Ev.if_pos (by rw [bs_size, List.length_cons]; omega) (Ev.if_pos (by rw [bs_size, List.length_cons]; omega) ?_); rw [hb, show (((c.toNat : Int) == 45) : Bool) = false by unfold isd at hc; simp; omega]; exact fin
 | cons c l ih =>
  intro P a e hd h0 h1; have hl : P.length + 1 ≤ 4 := by rw [e] at ht; simp at ht; omega
  have hc := hd c (by rw [e]; simp); unfold isd at hc; have hb : bt (bs t) (P.length : Int) = (c.toNat : Int) := by rw [e]; exact bt_mid P l c
  have hp : (10 : Int) ^ P.length ≤ 10 ^ 4 := by
   have := Nat.pow_le_pow_right (show 0 < 10 by omega) (show P.length ≤ 4 by omega)
   exact_mod_cast this
  have g := ih (P ++ [c]) (a * 10 + ((c.toNat : Int) - 48)) (by rw [e]; simp) hd (by omega) (by rw [List.length_append, List.length_singleton, Int.pow_succ]; omega); rw [List.length_append, List.length_singleton] at g; refine Ev.step (fun k => by simp only [spec_ParseInt.l0]; rfl) (Ev.if_pos (by rw [bs_size, e]; simp; omega) ?_); rw [show decide ((P.length : Int) < 11) = true from decide_eq_true (by omega)]; refine Ev.step (fun k => by simp only [spec_ParseInt.j1]; rfl) (Ev.if_pos (rfl : true = true) (Ev.if_pos (by omega) (Ev.if_pos (by rw [bs_size, e]; simp; omega) (Ev.if_pos (by rw [hb]; omega) (Ev.if_pos (by rw [hb]; omega) ?_))))); rw [hb, show ((c.toNat : Int) - 48) % 256 = (c.toNat : Int) - 48 by omega, w_id (a := a * 10) (by omega) (by omega), w_id (a := a * 10 + ((c.toNat : Int) - 48)) (by omega) (by omega), wsucc (by omega)]; exact g
theorem sparse_ev (t : List UInt8) (ht : t.length ≤ 4) (hd : ∀ c ∈ t, isd c) : Ev (fun k => spec_ParseInt.f k (bs t)) (if Lib.itoa (dv 0 t) = t then (dv 0 t, true) else (0, false)) :=
 sparse_loop t ht t [] 0 rfl hd (by omega) (by simp)
theorem small_dv : ∀ y < 256, dv 0 (Lib.itoa ((y : Nat) : Int)) = (y : Int) := by decide +kernel
theorem itoa_small (y : Int) (h0 : 0 ≤ y) (h1 : y ≤ 255) : (Lib.itoa y).length ≤ 3 ∧ (∀ c ∈ Lib.itoa y, isd c) ∧ dv 0 (Lib.itoa y) = y := by
 obtain ⟨n, rfl⟩ : ∃ n : Nat, y = (n : Int) := ⟨y.toNat, by omega⟩; obtain ⟨_, e2, e3⟩ := small_dec n (by omega); refine ⟨e2, fun c hc => ?_, small_dv n (by omega)⟩; have := List.all_eq_true.1 e3 c hc; unfold isd; simpa using this
/-! The reader's arms. -/
def SR (s : ByteArray) (i : Int) (l : List S75) (r : List S75 × Int) : Prop := Ev (fun k => spec_l16Read.f k s i l) r
section
variable {s : ByteArray} {i : Int} {l : List S75} {r q : List S75 × Int}
theorem SR_end (h : i ≥ (s.size : Int) ∨ (l.length : Int) > 40) : SR s i l ([], -1) := by
 have g : Ev (fun k => spec_l16Read.j0 k s i l true) (([] : List S75), (-1 : Int)) := Ev.step (fun k => by simp only [spec_l16Read.j0]; rfl) (Ev.if_pos (rfl : true = true) (Ev.some _)); by_cases h1 : i ≥ (s.size : Int)
 ·exact Ev.step (fun k => by simp only [spec_l16Read.f]; rfl) (Ev.if_pos h1 g)
 ·refine Ev.step (fun k => by simp only [spec_l16Read.f]; rfl) (Ev.if_neg h1 ?_); rw [show decide ((l.length : Int) > 40) = true from decide_eq_true (by omega)]; exact g
/-- Where a node may begin. -/
structure At (s : ByteArray) (i : Int) (l : List S75) : Prop where
 h0 : 0 ≤ i
 h1 : i < (s.size : Int)
 hs : s.size ≤ 300
 hl : l.length ≤ 40
theorem SR_in (h : At s i l) (g : Ev (fun k => if bt s i = 61 then spec_l16Read.j1 k s i l (bt s i) (bt s i == 61) else spec_l16Read.j1 k s i l (bt s i) (bt s i == 60)) r) : SR s i l r := by
 have h0 := h.h0; have h1 := h.h1; have hl := h.hl; refine Ev.step (fun k => by simp only [spec_l16Read.f]; rfl) (Ev.if_neg (by omega) ?_); rw [show decide ((l.length : Int) > 40) = false from decide_eq_false (by omega)]; exact Ev.step (fun k => by simp only [spec_l16Read.j0]; rfl) (Ev.if_neg (by simp) (Ev.if_pos h0 (Ev.if_pos h1 g)))
theorem SR_two (h : At s i l) (o : Int) (ho : (bt s i = 61 ∧ o = 1) ∨ (bt s i = 60 ∧ o = 2) ∨ (bt s i = 83 ∧ o = 5)) : SR s i l (l ++ [⟨o, sdig s (i + 1), sdig s (i + 2), 0⟩], i + 3) := by
 have h0 := h.h0; have h1 := h.h1; have hs := h.hs; have hl := h.hl; have fin : ∀ o : Int, Ev (fun k => (spec_l16Digit.f s (wrap64 (i + 1))).bind fun t1 => (spec_l16Digit.f s (wrap64 (i + 2))).bind fun t2 => if l.length < 4398046511104 then some (l ++ [(⟨o, t1, t2, 0⟩ : S75)], wrap64 (i + 3)) else none) (l ++ [⟨o, sdig s (i + 1), sdig s (i + 2), 0⟩], i + 3) := fun o =>
  Ev.bind (sdig_ev s (i + 1) ⟨by omega, by omega⟩) (Ev.bind (sdig_ev s (i + 2) ⟨by omega, by omega⟩) (Ev.if_pos (by omega) (Ev.val (by rw [w_id (a := i + 3) (by omega) (by omega)]))))
 rcases ho with ⟨hc, rfl⟩ | ⟨hc, rfl⟩ | ⟨hc, rfl⟩
 ·refine SR_in h (Ev.if_pos hc ?_); rw [hc]; exact Ev.step (fun k => by simp only [spec_l16Read.j1]; rfl) (Ev.if_pos (by decide) (Ev.if_pos h0 (Ev.if_pos h1 (Ev.if_neg (by omega) (fin 1)))))
 ·refine SR_in h (Ev.if_neg (by omega) ?_); rw [hc]; exact Ev.step (fun k => by simp only [spec_l16Read.j1]; rfl) (Ev.if_pos (by decide) (Ev.if_pos h0 (Ev.if_pos h1 (Ev.if_pos hc (fin 2)))))
 ·refine SR_in h (Ev.if_neg (by omega) ?_); rw [hc]; exact Ev.step (fun k => by simp only [spec_l16Read.j1]; rfl) (Ev.if_neg (by decide) (Ev.if_neg (by decide) (Ev.if_pos (rfl : (83 : Int) = 83) (fin 5))))
theorem SR_in2 (h : At s i l) (hc : bt s i ≠ 61 ∧ bt s i ≠ 60) (g : Ev (fun k => spec_l16Read.j1 k s i l (bt s i) false) r) : SR s i l r := by
 refine SR_in h (Ev.if_neg hc.1 ?_); rw [show (bt s i == 60) = false by simp [hc.2]]; exact g
theorem SR_sum (h : At s i l) (hc : bt s i = 43) : SR s i l (l ++ [⟨3, sdig s (i + 1), sdig s (i + 2), sdig s (i + 3)⟩], i + 4) := by
 have h0 := h.h0; have h1 := h.h1; have hs := h.hs; have hl := h.hl; refine SR_in2 h ⟨by omega, by omega⟩ ?_; rw [hc]; refine Ev.same (Ev.step (fun k => by simp only [spec_l16Read.j1]; rfl) (Ev.if_neg (by decide) (Ev.if_pos (rfl : (43 : Int) = 43) (Ev.bind (sdig_ev s (i + 1) ⟨by omega, by omega⟩) (Ev.bind (sdig_ev s (i + 2) ⟨by omega, by omega⟩) (Ev.bind (sdig_ev s (i + 3) ⟨by omega, by omega⟩) (Ev.if_pos (show l.length < 4398046511104 by omega) (Ev.some _)))))))) ?_; rw [w_id (a := i + 4) (by omega) (by omega)]
theorem SR_num (h : At s i l) (hc : bt s i = 35) (g : Ev (fun k => spec_l16Read.l0 k s i l (i + 2)) r) : SR s i l r := by
 have h0 := h.h0; have h1 := h.h1; have hs := h.hs; refine SR_in2 h ⟨by omega, by omega⟩ ?_; rw [hc]; refine Ev.step (fun k => by simp only [spec_l16Read.j1]; rfl) (Ev.if_neg (by decide) (Ev.if_neg (by decide) (Ev.if_neg (by decide) (Ev.if_pos (rfl : (35 : Int) = 35) ?_)))); rw [w_id (a := i + 2) (by omega) (by omega)]; exact g
theorem SR_neg (h : At s i l) (hc : bt s i = 33) (g : SR s (i + 1) l q) (hq : q.1.length ≤ 4000) : SR s i l (if q.2 < 0 then ([], -1) else (q.1 ++ [⟨6, (q.1.length : Int) - 1, 0, 0⟩], q.2)) := by
 have h0 := h.h0; have h1 := h.h1; have hs := h.hs; refine SR_in2 h ⟨by omega, by omega⟩ ?_; rw [hc]; refine Ev.step (fun k => by simp only [spec_l16Read.j1]; rfl) (Ev.if_neg (by decide) (Ev.if_neg (by decide) (Ev.if_neg (by decide) (Ev.if_neg (by decide) (Ev.if_pos (rfl : (33 : Int) = 33) ?_))))); rw [w_id (a := i + 1) (by omega) (by omega)]; refine Ev.bind g ?_; by_cases c : q.2 < 0
 ·exact Ev.same (Ev.if_pos c (Ev.some _)) (if_pos c).symm
 ·refine Ev.same (Ev.if_neg c (Ev.if_pos (by omega) (Ev.some _))) ?_; rw [if_neg c, w_id (a := (q.1.length : Int) - 1) (by omega) (by omega)]
theorem SR_mid (h : At s i l) (hc : bt s i ≠ 61 ∧ bt s i ≠ 60 ∧ bt s i ≠ 43 ∧ bt s i ≠ 83 ∧ bt s i ≠ 35 ∧ bt s i ≠ 33) (g : Ev (fun k => if bt s i = 38 then spec_l16Read.j4 k s i l (bt s i) (bt s i == 38) else spec_l16Read.j4 k s i l (bt s i) (bt s i == 124)) r) : SR s i l r := by
 refine SR_in2 h ⟨hc.1, hc.2.1⟩ ?_; exact Ev.step (fun k => by simp only [spec_l16Read.j1]; rfl) (Ev.if_neg (by simp) (Ev.if_neg hc.2.2.1 (Ev.if_neg hc.2.2.2.1 (Ev.if_neg hc.2.2.2.2.1 (Ev.if_neg hc.2.2.2.2.2 g)))))
theorem SR_bin (h : At s i l) (o : Int) (ho : (bt s i = 38 ∧ o = 7) ∨ (bt s i = 124 ∧ o = 8)) (g : SR s (i + 1) l q) (g2 : q.2 < 0 ∨ (0 ≤ q.2 ∧ SR s q.2 q.1 r)) (hq : q.1.length ≤ 4000) (hr : r.1.length ≤ 4000) :
  SR s i l (if q.2 < 0 then ([], -1) else if r.2 < 0 then ([], -1) else (r.1 ++ [⟨o, (q.1.length : Int) - 1, (r.1.length : Int) - 1, 0⟩], r.2)) := by
 have h0 := h.h0; have h1 := h.h1; have hs := h.hs; have fin : Ev (fun k => spec_l16Read.j5 k s i l o) (if q.2 < 0 then ([], -1) else if r.2 < 0 then ([], -1) else (r.1 ++ [⟨o, (q.1.length : Int) - 1, (r.1.length : Int) - 1, 0⟩], r.2)) := by
  refine Ev.step (fun k => by simp only [spec_l16Read.j5]; rfl) ?_; rw [w_id (a := i + 1) (by omega) (by omega)]; refine Ev.bind g ?_; by_cases c : q.2 < 0
  ·exact Ev.same (Ev.if_pos c (Ev.some _)) (if_pos c).symm
  ·refine Ev.same (Ev.if_neg c (Ev.bind (g2.resolve_left c).2 ?_)) (if_neg c).symm; by_cases c2 : r.2 < 0
   ·exact Ev.same (Ev.if_pos c2 (Ev.some _)) (if_pos c2).symm
   ·refine Ev.same (Ev.if_neg c2 (Ev.if_pos (by omega) (Ev.some _))) ?_; rw [if_neg c2, w_id (a := (q.1.length : Int) - 1) (by omega) (by omega), w_id (a := (r.1.length : Int) - 1) (by omega) (by omega)]
 rcases ho with ⟨hc, rfl⟩ | ⟨hc, rfl⟩
 ·refine SR_mid h ⟨by omega, by omega, by omega, by omega, by omega, by omega⟩ (Ev.if_pos hc ?_); rw [hc]; exact Ev.step (fun k => by simp only [spec_l16Read.j4]; rfl) (Ev.if_pos (by decide) (Ev.if_pos h0 (Ev.if_pos h1 (Ev.if_neg (by omega) fin))))
 ·refine SR_mid h ⟨by omega, by omega, by omega, by omega, by omega, by omega⟩ (Ev.if_neg (by omega) ?_); rw [hc]; exact Ev.step (fun k => by simp only [spec_l16Read.j4]; rfl) (Ev.if_pos (by decide) (Ev.if_pos h0 (Ev.if_pos h1 (Ev.if_pos hc fin))))
theorem SR_low (h : At s i l) (hc : bt s i ≠ 61 ∧ bt s i ≠ 60 ∧ bt s i ≠ 43 ∧ bt s i ≠ 83 ∧ bt s i ≠ 35 ∧ bt s i ≠ 33) (hc2 : bt s i ≠ 38 ∧ bt s i ≠ 124) (g : Ev (fun k => if bt s i = 69 then spec_l16Read.j6 k s i l (bt s i == 69) else spec_l16Read.j6 k s i l (bt s i == 65)) r) : SR s i l r := by
 refine SR_mid h hc (Ev.if_neg hc2.1 ?_); rw [show (bt s i == 124) = false by simp [hc2.2]]; exact Ev.step (fun k => by simp only [spec_l16Read.j4]; rfl) (Ev.if_neg (by simp) g)
theorem SR_qu (h : At s i l) (o : Int) (ho : (bt s i = 69 ∧ o = 9) ∨ (bt s i = 65 ∧ o = 10)) (g : SR s (i + 2) l q) (hq : q.1.length ≤ 4000) :
  SR s i l (if q.2 < 0 then ([], -1) else (q.1 ++ [⟨o, sdig s (i + 1), (q.1.length : Int) - 1, 0⟩], q.2)) := by
 have h0 := h.h0; have h1 := h.h1; have hs := h.hs; have fin : Ev (fun k => spec_l16Read.j7 k s i l o) (if q.2 < 0 then ([], -1) else (q.1 ++ [⟨o, sdig s (i + 1), (q.1.length : Int) - 1, 0⟩], q.2)) := by
  refine Ev.step (fun k => by simp only [spec_l16Read.j7]; rfl) ?_; rw [w_id (a := i + 2) (by omega) (by omega)]; refine Ev.bind g ?_; by_cases c : q.2 < 0
  ·exact Ev.same (Ev.if_pos c (Ev.some _)) (if_pos c).symm
  ·refine Ev.same (Ev.if_neg c (Ev.bind (sdig_ev s (i + 1) ⟨by omega, by omega⟩) (Ev.if_pos (by omega) (Ev.some _)))) ?_; rw [if_neg c, w_id (a := (q.1.length : Int) - 1) (by omega) (by omega)]
 rcases ho with ⟨hc, rfl⟩ | ⟨hc, rfl⟩
 ·refine SR_low h ⟨by omega, by omega, by omega, by omega, by omega, by omega⟩ ⟨by omega, by omega⟩ (Ev.if_pos hc ?_); rw [hc]; exact Ev.step (fun k => by simp only [spec_l16Read.j6]; rfl) (Ev.if_pos (by decide) (Ev.if_pos h0 (Ev.if_pos h1 (Ev.if_neg (by omega) fin))))
 ·refine SR_low h ⟨by omega, by omega, by omega, by omega, by omega, by omega⟩ ⟨by omega, by omega⟩ (Ev.if_neg (by omega) ?_); rw [hc]; exact Ev.step (fun k => by simp only [spec_l16Read.j6]; rfl) (Ev.if_pos (by decide) (Ev.if_pos h0 (Ev.if_pos h1 (Ev.if_pos hc fin))))
theorem SR_no (h : At s i l) (hc : bt s i ≠ 61 ∧ bt s i ≠ 60 ∧ bt s i ≠ 43 ∧ bt s i ≠ 83 ∧ bt s i ≠ 35 ∧ bt s i ≠ 33) (hc2 : bt s i ≠ 38 ∧ bt s i ≠ 124 ∧ bt s i ≠ 69 ∧ bt s i ≠ 65) : SR s i l ([], -1) := by
 refine SR_low h hc ⟨hc2.1, hc2.2.1⟩ (Ev.if_neg hc2.2.2.1 ?_); rw [show (bt s i == 65) = false by simp [hc2.2.2.2]]; exact Ev.step (fun k => by simp only [spec_l16Read.j6]; rfl) (Ev.if_neg (by simp) (Ev.some _))
end
/-! The number's place. -/
theorem num_stop (s : ByteArray) (i : Int) (l : List S75) (r : List S75 × Int) (h0 : 0 ≤ i) (h1 : i ≤ 300) (e : Int) (he : i + 2 ≤ e ∧ e ≤ i + 6) (h : sdig s e < 0 ∨ e = i + 6) (g : Ev (fun k => spec_l16Read.j3 k s i l e) r) : Ev (fun k => spec_l16Read.l0 k s i l e) r := by
 have w := w_id (a := i + 6) (by omega) (by omega); refine Ev.step (fun k => by simp only [spec_l16Read.l0, sdig_val s e (show 0 ≤ e by omega), w]; rfl) ?_; refine Ev.bind (Ev.some _) (Ev.ite (fun c => ?_) (fun c => g)); exact Ev.if_neg (by omega) g
theorem num_go (s : ByteArray) (i : Int) (l : List S75) (r : List S75 × Int) (h0 : 0 ≤ i) (h1 : i ≤ 300) (e : Int) (he : i + 2 ≤ e ∧ e < i + 6) (h : sdig s e ≥ 0) (g : Ev (fun k => spec_l16Read.l0 k s i l (e + 1)) r) : Ev (fun k => spec_l16Read.l0 k s i l e) r := by
 have w := w_id (a := i + 6) (by omega) (by omega); have w1 := w_id (a := e + 1) (by omega) (by omega); refine Ev.step (fun k => by simp only [spec_l16Read.l0, sdig_val s e (show 0 ≤ e by omega), w, w1]; rfl) ?_; exact Ev.bind (Ev.some _) (Ev.if_pos h (Ev.if_pos he.2 g))
theorem num_end (s : ByteArray) (i : Int) (h0 : 0 ≤ i) (h1 : i ≤ 300) : ∀ (n : Nat) (e : Int), i + 6 - e ≤ n → i + 2 ≤ e → e ≤ i + 6 → (∀ j, i + 2 ≤ j → j < e → sdig s j ≥ 0) →
  ∃ e', i + 2 ≤ e' ∧ e' ≤ i + 6 ∧ (∀ j, i + 2 ≤ j → j < e' → sdig s j ≥ 0) ∧ ∀ l r, Ev (fun k => spec_l16Read.j3 k s i l e') r → Ev (fun k => spec_l16Read.l0 k s i l e) r := by
 intro n
 induction n with
 | zero => intro e hn h2 h3 hd; exact ⟨e, h2, h3, hd, fun l r g => num_stop s i l r h0 h1 e ⟨h2, h3⟩ (Or.inr (by omega)) g⟩
 | succ n ih =>
  intro e hn h2 h3 hd; by_cases c : sdig s e < 0 ∨ e = i + 6
  ·exact ⟨e, h2, h3, hd, fun l r g => num_stop s i l r h0 h1 e ⟨h2, h3⟩ c g⟩
  ·have c1 : sdig s e ≥ 0 := by omega
   obtain ⟨e', a1, a2, a3, a4⟩ := ih (e + 1) (by omega) (by omega) (by omega) (fun j j1 j2 => by
    by_cases q : j = e
    ·rw [q]; exact c1
    ·exact hd j j1 (by omega))
   exact ⟨e', a1, a2, a3, fun l r g => num_go s i l r h0 h1 e ⟨h2, by omega⟩ c1 (a4 l r g)⟩
theorem num_run (s : ByteArray) (i : Int) (l : List S75) (r : List S75 × Int) (h0 : 0 ≤ i) (h1 : i ≤ 300) : ∀ (n : Nat) (e : Int), i + 2 ≤ e → e + n < i + 6 → (∀ j : Nat, j < n → sdig s (e + j) ≥ 0) → sdig s (e + n) < 0 → Ev (fun k => spec_l16Read.j3 k s i l (e + n)) r → Ev (fun k => spec_l16Read.l0 k s i l e) r := by
 intro n
 induction n with
 | zero => intro e h2 h3 hd hz g; exact num_stop s i l r h0 h1 e ⟨h2, by omega⟩ (Or.inl (by simpa using hz)) (by simpa using g)
 | succ n ih =>
  intro e h2 h3 hd hz g; have e1 : e + 1 + (n : Int) = e + ((n + 1 : Nat) : Int) := by omega
  refine num_go s i l r h0 h1 e ⟨h2, by omega⟩ (by simpa using hd 0 (by omega)) (ih (e + 1) (by omega) (by omega) (fun j hj => ?_) (by rw [e1]; exact hz) (by rw [e1]; exact g)); rw [show e + 1 + (j : Int) = e + ((j + 1 : Nat) : Int) by omega]; exact hd (j + 1) (by omega)
theorem num_j3 (s : ByteArray) (i : Int) (l : List S75) (h : At s i l) (e : Int) (he : i + 2 ≤ e ∧ e ≤ i + 6) (L : List UInt8) (hL : s.extract (mn (s.size : Int) (i + 2)).toNat (mn (s.size : Int) e).toNat = bs L) (h4 : L.length ≤ 4) (hd : ∀ c ∈ L, isd c) :
  Ev (fun k => spec_l16Read.j3 k s i l e) (if Lib.itoa (dv 0 L) = L then (l ++ [⟨4, sdig s (i + 1), dv 0 L, 0⟩], e + 1) else ([], -1)) := by
 have h0 := h.h0; have h1 := h.h1; have hs := h.hs; have hl := h.hl; have w := w_id (a := i + 2) (by omega) (by omega); have w1 := w_id (a := e + 1) (by omega) (by omega); have m1 : 0 ≤ mn (s.size : Int) (i + 2) := by unfold mn; split <;> omega
 have m2 : mn (s.size : Int) (i + 2) ≤ mn (s.size : Int) e := by unfold mn; split <;> split <;> omega
 have m3 : mn (s.size : Int) e ≤ (s.size : Int) := by unfold mn; split <;> omega
 refine Ev.step (fun k => by simp only [spec_l16Read.j3, w, w1, hL]; rfl) (Ev.if_pos m1 (Ev.if_pos m2 (Ev.if_pos m3 (Ev.bind (sparse_ev L h4 hd) ?_)))); by_cases c : Lib.itoa (dv 0 L) = L
 ·rw [if_pos c, if_pos c]; exact Ev.if_pos rfl (Ev.bind (sdig_ev s (i + 1) ⟨by omega, by omega⟩) (Ev.if_pos (by omega) (Ev.some _)))
 ·rw [if_neg c, if_neg c]; exact Ev.if_neg (by simp) (Ev.some _)
theorem ext_digits (s : ByteArray) (a b : Int) (h0 : 0 ≤ a) (hab : a ≤ b) (h : ∀ j, a ≤ j → j < b → sdig s j ≥ 0) : ∃ L, s.extract (mn (s.size : Int) a).toNat (mn (s.size : Int) b).toNat = bs L ∧ (L.length : Int) ≤ b - a ∧ ∀ c ∈ L, isd c := by
 refine ⟨_, (bs_of _).symm, ?_, ?_⟩
 ·rw [Array.length_toList]; show ((s.extract _ _).size : Int) ≤ _; rw [ByteArray.size_extract]; unfold mn; split <;> split <;> omega
 ·intro c hc; rw [ByteArray.data_extract, Array.toList_extract, List.mem_iff_getElem] at hc; obtain ⟨j, hj, e⟩ := hc; simp only [List.extract_eq_take_drop, List.length_take, List.length_drop, Array.length_toList] at hj; rw [List.getElem_eq_iff, List.extract_eq_take_drop, List.getElem?_take_of_lt (by omega), List.getElem?_drop] at e; have hsz : s.data.size = s.size := rfl; have ha : (mn (s.size : Int) a) = a := by
   unfold mn at hj ⊢; split
   ·rfl
   ·rename_i q; rw [if_neg q] at hj; split at hj <;> omega
  rw [ha] at hj e; obtain ⟨e1, e2⟩ := List.getElem?_eq_some_iff.1 e; rw [Array.length_toList] at e1; have hb : a.toNat + j < b.toNat := by
   unfold mn at hj; split at hj <;> omega
  obtain ⟨p1, p2, p3⟩ := sdig_pos s (a + j) (h (a + j) (by omega) (by omega)); have hv : bt s (a + (j : Int)) = (c.toNat : Int) := by
   unfold bt; rw [dif_pos (by omega)]; congr 2; have e3 : (a + (j : Int)).toNat = a.toNat + j := by omega
   rw [← e2]; show s.data[(a + (j : Int)).toNat] = _; simp [e3]
  rw [hv] at p2 p3; unfold isd; omega
/-- What a reading ends with. -/
def SEnd (s : ByteArray) (i : Int) (l : List S75) (r : List S75 × Int) : Prop := (r.2 < 0 ∧ r.1 = []) ∨ ∃ t : FT, t.ops ∧ r.1 = l ++ t.flat l.length ∧ i + t.sz ≤ r.2 ∧ r.2 ≤ (s.size : Int) + 10
theorem SEnd.len {s : ByteArray} {i : Int} {l : List S75} {r : List S75 × Int} (h : SEnd s i l r) (hs : s.size ≤ 300) (hi : 0 ≤ i) (hl : l.length ≤ 40) : r.1.length ≤ 4000 := by
 rcases h with ⟨_, e⟩ | ⟨t, _, e, h1, h2⟩
 ·rw [e]; simp
 ·rw [e, List.length_append, FT.flat_len]; omega
theorem SR_all (s : ByteArray) (hs : s.size ≤ 300) : ∀ (m : Nat) (i : Int) (l : List S75), 0 ≤ i → (s.size : Int) - i ≤ m → ∃ r, SR s i l r ∧ SEnd s i l r := by
 intro m
 induction m with
 | zero => intro i l h0 hm; exact ⟨_, SR_end (Or.inl (by omega)), Or.inl ⟨by decide, rfl⟩⟩
 | succ m ih =>
  intro i l h0 hm; by_cases hx : i ≥ (s.size : Int) ∨ (l.length : Int) > 40
  ·exact ⟨_, SR_end hx, Or.inl ⟨by decide, rfl⟩⟩
  have h : At s i l := ⟨h0, by omega, hs, by omega⟩; have hl := h.hl; have h1 := h.h1; by_cases c1 : bt s i = 61
  ·exact ⟨_, SR_two h 1 (Or.inl ⟨c1, rfl⟩), Or.inr ⟨.two 1 _ _, Or.inl rfl, rfl, by simp only [FT.sz]; omega, by dsimp only; omega⟩⟩
  by_cases c2 : bt s i = 60
  ·exact ⟨_, SR_two h 2 (Or.inr (Or.inl ⟨c2, rfl⟩)), Or.inr ⟨.two 2 _ _, Or.inr (Or.inl rfl), rfl, by simp only [FT.sz]; omega, by dsimp only; omega⟩⟩
  by_cases c3 : bt s i = 83
  ·exact ⟨_, SR_two h 5 (Or.inr (Or.inr ⟨c3, rfl⟩)), Or.inr ⟨.two 5 _ _, Or.inr (Or.inr rfl), rfl, by simp only [FT.sz]; omega, by dsimp only; omega⟩⟩
  by_cases c4 : bt s i = 43
  ·exact ⟨_, SR_sum h c4, Or.inr ⟨.sum _ _ _, trivial, rfl, by simp only [FT.sz]; omega, by dsimp only; omega⟩⟩
  by_cases c5 : bt s i = 35
  ·obtain ⟨e, e1, e2, e3, e4⟩ := num_end s i h0 (by omega) 4 (i + 2) (by omega) (by omega) (by omega) (fun j j1 j2 => by omega); obtain ⟨L, d1, d2, d3⟩ := ext_digits s (i + 2) e (by omega) e1 e3; have g := SR_num h c5 (e4 l _ (num_j3 s i l h e ⟨e1, e2⟩ L d1 (by omega) d3)); refine ⟨_, g, ?_⟩; by_cases q : Lib.itoa (dv 0 L) = L
   ·rw [if_pos q]; exact Or.inr ⟨.num _ _, trivial, rfl, by simp only [FT.sz]; omega, by dsimp only; omega⟩
   ·rw [if_neg q]; exact Or.inl ⟨by decide, rfl⟩
  by_cases c6 : bt s i = 33
  ·obtain ⟨q, g, he⟩ := ih (i + 1) l (by omega) (by omega); refine ⟨_, SR_neg h c6 g (he.len hs (by omega) hl), ?_⟩; rcases he with ⟨k1, k2⟩ | ⟨t, ot, k1, k2, k3⟩
   ·rw [if_pos k1]; exact Or.inl ⟨by decide, rfl⟩
   ·rw [if_neg (by omega)]; refine Or.inr ⟨.neg t, ot, ?_, by simp only [FT.sz]; omega, k3⟩; simp [k1, FT.flat, FT.flat_len]
  by_cases c7 : (bt s i = 38 ∨ bt s i = 124)
  ·obtain ⟨o, ho, ho2⟩ : ∃ o : Int, ((bt s i = 38 ∧ o = 7) ∨ (bt s i = 124 ∧ o = 8)) ∧ (o = 7 ∨ o = 8) := by
    rcases c7 with c | c
    ·exact ⟨7, Or.inl ⟨c, rfl⟩, Or.inl rfl⟩
    ·exact ⟨8, Or.inr ⟨c, rfl⟩, Or.inr rfl⟩
   obtain ⟨q, g, he⟩ := ih (i + 1) l (by omega) (by omega); have hq := he.len hs (by omega) hl; rcases he with ⟨k1, k2⟩ | ⟨t, ot, k1, k2, k3⟩
   ·refine ⟨_, SR_bin h o ho g (r := ([], -1)) (Or.inl k1) hq (by simp), ?_⟩; rw [if_pos k1]; exact Or.inl ⟨by decide, rfl⟩
   ·obtain ⟨r, g2, he2⟩ := ih q.2 q.1 (by have := t.sz_pos; omega) (by have := t.sz_pos; omega); have hr : r.1.length ≤ 4000 := by
     rcases he2 with ⟨_, e⟩ | ⟨u, _, e, n1, n2⟩
     ·rw [e]; simp
     ·rw [e, List.length_append, FT.flat_len, k1, List.length_append, FT.flat_len]; omega
    refine ⟨_, SR_bin h o ho g (Or.inr ⟨by omega, g2⟩) hq hr, ?_⟩; rw [if_neg (by omega)]; rcases he2 with ⟨n1, n2⟩ | ⟨u, ou, n1, n2, n3⟩
    ·rw [if_pos n1]; exact Or.inl ⟨by decide, rfl⟩
    ·rw [if_neg (by omega)]; refine Or.inr ⟨.bin o t u, ⟨ho2, ot, ou⟩, ?_, by simp only [FT.sz]; omega, n3⟩; simp [n1, k1, FT.flat, FT.flat_len]; omega
  by_cases c8 : (bt s i = 69 ∨ bt s i = 65)
  ·obtain ⟨o, ho, ho2⟩ : ∃ o : Int, ((bt s i = 69 ∧ o = 9) ∨ (bt s i = 65 ∧ o = 10)) ∧ (o = 9 ∨ o = 10) := by
    rcases c8 with c | c
    ·exact ⟨9, Or.inl ⟨c, rfl⟩, Or.inl rfl⟩
    ·exact ⟨10, Or.inr ⟨c, rfl⟩, Or.inr rfl⟩
   obtain ⟨q, g, he⟩ := ih (i + 2) l (by omega) (by omega); refine ⟨_, SR_qu h o ho g (he.len hs (by omega) hl), ?_⟩; rcases he with ⟨k1, k2⟩ | ⟨t, ot, k1, k2, k3⟩
   ·rw [if_pos k1]; exact Or.inl ⟨by decide, rfl⟩
   ·rw [if_neg (by omega)]; refine Or.inr ⟨.qu o (sdig s (i + 1)) t, ⟨ho2, ot⟩, ?_, by simp only [FT.sz]; omega, k3⟩; simp [k1, FT.flat, FT.flat_len]
  ·exact ⟨_, SR_no h ⟨c1, c2, c4, c3, c5, c6⟩ ⟨by omega, by omega, by omega, by omega⟩, Or.inl ⟨by decide, rfl⟩⟩
theorem bt_ofat {T : ByteArray} {n : Nat} (P Q : List UInt8) (c : UInt8) (hT : T = bs (P ++ c :: Q)) (hn : n = P.length) : bt T (n : Int) = (c.toNat : Int) := by
 subst hT hn; exact bt_mid P Q c
theorem SR_read : ∀ (t : FT), t.vd → ∀ (P Q : List UInt8) (T : ByteArray) (l : List S75), T = bs (P ++ (t.tt ++ Q)) → T.size ≤ 300 → l.length + t.sz ≤ 40 → SR T (P.length : Int) l (l ++ t.flat l.length, ((P.length + t.tt.length : Nat) : Int)) := by
 intro t
 induction t with
 | two o x y =>
  intro hv P Q T l hT hs hl; simp only [FT.sz] at hl; obtain ⟨ho, hx, hy⟩ := hv; have b0 := bt_ofat (T := T) P (Lib.itoa x ++ (Lib.itoa y ++ Q)) (osg o) (by rw [hT]; simp [FT.tt]) rfl; have d1 := sdig_at (T := T) (n := P.length + 1) (P ++ [osg o]) (Lib.itoa y ++ Q) x hx (by rw [hT]; simp [FT.tt]) (by simp); have d2 := sdig_at (T := T) (n := P.length + 2) (P ++ [osg o] ++ Lib.itoa x) Q y hy (by rw [hT]; simp [FT.tt]) (by rw [itoa_dgt x hx]; simp); have hh : At T (P.length : Int) l := ⟨by omega, by rw [hT, bs_size]; simp [FT.tt]; omega, hs, by omega⟩; refine Ev.same (SR_two hh o (by rw [b0]; rcases ho with rfl | rfl | rfl <;> decide)) ?_; rw [show ((P.length : Int) + 1) = ((P.length + 1 : Nat) : Int) by omega, show ((P.length : Int) + 2) = ((P.length + 2 : Nat) : Int) by omega, d1, d2]; simp [FT.flat, FT.tt, itoa_dgt x hx, itoa_dgt y hy]
 | sum x y z =>
  intro hv P Q T l hT hs hl; simp only [FT.sz] at hl; obtain ⟨hx, hy, hz⟩ := hv; have b0 := bt_ofat (T := T) P (Lib.itoa x ++ (Lib.itoa y ++ (Lib.itoa z ++ Q))) 43 (by rw [hT]; simp [FT.tt]) rfl; have d1 := sdig_at (T := T) (n := P.length + 1) (P ++ [43]) (Lib.itoa y ++ (Lib.itoa z ++ Q)) x hx (by rw [hT]; simp [FT.tt]) (by simp); have d2 := sdig_at (T := T) (n := P.length + 2) (P ++ [43] ++ Lib.itoa x) (Lib.itoa z ++ Q) y hy (by rw [hT]; simp [FT.tt]) (by rw [itoa_dgt x hx]; simp); have d3 := sdig_at (T := T) (n := P.length + 3) (P ++ [43] ++ Lib.itoa x ++ Lib.itoa y) Q z hz (by rw [hT]; simp [FT.tt]) (by rw [itoa_dgt x hx, itoa_dgt y hy]; simp); have hh : At T (P.length : Int) l := ⟨by omega, by rw [hT, bs_size]; simp [FT.tt]; omega, hs, by omega⟩; refine Ev.same (SR_sum hh b0) ?_; rw [show ((P.length : Int) + 1) = ((P.length + 1 : Nat) : Int) by omega, show ((P.length : Int) + 2) = ((P.length + 2 : Nat) : Int) by omega, show ((P.length : Int) + 3) = ((P.length + 3 : Nat) : Int) by omega, d1, d2, d3]; simp [FT.flat, FT.tt, itoa_dgt x hx, itoa_dgt y hy, itoa_dgt z hz]
 | num x y =>
  intro hv P Q T l hT hs hl; simp only [FT.sz] at hl; obtain ⟨hx, h0, h1⟩ := hv; obtain ⟨y1, y2, y3⟩ := itoa_small y h0 h1; have b0 := bt_ofat (T := T) P (Lib.itoa x ++ (Lib.itoa y ++ 46 :: Q)) 35 (by rw [hT]; simp [FT.tt]) rfl; have d1 := sdig_at (T := T) (n := P.length + 1) (P ++ [35]) (Lib.itoa y ++ 46 :: Q) x hx (by rw [hT]; simp [FT.tt]) (by simp); have hsz : T.size = P.length + 2 + (Lib.itoa y).length + 1 + Q.length := by rw [hT, bs_size]; simp [FT.tt, itoa_dgt x hx]; omega
  have hh : At T (P.length : Int) l := ⟨by omega, by omega, hs, by omega⟩; have hT2 : T = bs ((P ++ [35] ++ Lib.itoa x) ++ (Lib.itoa y ++ 46 :: Q)) := by rw [hT]; simp [FT.tt]
  have hP2 : (P ++ [35] ++ Lib.itoa x).length = P.length + 2 := by rw [itoa_dgt x hx]; simp
  have hext : T.extract (mn (T.size : Int) ((P.length : Int) + 2)).toNat (mn (T.size : Int) ((P.length : Int) + 2 + ((Lib.itoa y).length : Int))).toNat = bs (Lib.itoa y) := by
   have m1 : (mn (T.size : Int) ((P.length : Int) + 2)).toNat = (P ++ [35] ++ Lib.itoa x).length := by rw [hP2]; unfold mn; split <;> omega
   have m2 : (mn (T.size : Int) ((P.length : Int) + 2 + ((Lib.itoa y).length : Int))).toNat = (P ++ [35] ++ Lib.itoa x).length + (Lib.itoa y).length := by rw [hP2]; unfold mn; split <;> omega
   rw [m1, m2, hT2, bs_extract2]
  have g3 := num_j3 T (P.length : Int) l hh ((P.length : Int) + 2 + ((Lib.itoa y).length : Int)) ⟨by omega, by omega⟩ (Lib.itoa y) hext (by omega) y2; rw [y3, if_pos rfl] at g3; have dig : ∀ j : Nat, j < (Lib.itoa y).length → sdig T ((P.length : Int) + 2 + (j : Int)) ≥ 0 := by
   intro j hj
   have hb := bt_ofat (T := T) (n := P.length + 2 + j) ((P ++ [35] ++ Lib.itoa x) ++ (Lib.itoa y).take j) ((Lib.itoa y).drop (j + 1) ++ 46 :: Q) ((Lib.itoa y)[j]) (by
    rw [hT2]; congr 1; rw [List.append_assoc (P ++ [35] ++ Lib.itoa x)]; congr 1
    rw [← List.cons_append, ← List.append_assoc, List.getElem_cons_drop, List.take_append_drop]) (by rw [List.length_append, hP2, List.length_take]; omega)
   have hd := y2 _ (List.getElem_mem hj); unfold isd at hd; rw [show ((P.length : Int) + 2 + (j : Int)) = ((P.length + 2 + j : Nat) : Int) by omega]; unfold sdig; rw [hb, if_neg (by omega), if_neg (by omega), if_neg (by omega)]; omega
  have stp : sdig T ((P.length : Int) + 2 + ((Lib.itoa y).length : Int)) < 0 := by
   have hb := bt_ofat (T := T) (n := P.length + 2 + (Lib.itoa y).length) ((P ++ [35] ++ Lib.itoa x) ++ Lib.itoa y) Q 46 (by rw [hT2]; simp) (by rw [List.length_append, hP2]); rw [show ((P.length : Int) + 2 + ((Lib.itoa y).length : Int)) = ((P.length + 2 + (Lib.itoa y).length : Nat) : Int) by omega]; unfold sdig; rw [hb, if_neg (by omega), if_pos (by decide)]; decide
  refine Ev.same (SR_num hh b0 (num_run T (P.length : Int) l _ (by omega) (by omega) (Lib.itoa y).length ((P.length : Int) + 2) (by omega) (by omega) dig stp g3)) ?_; rw [show ((P.length : Int) + 1) = ((P.length + 1 : Nat) : Int) by omega, d1]; simp [FT.flat, FT.tt, itoa_dgt x hx]; omega
 | neg t ih =>
  intro hv P Q T l hT hs hl; simp only [FT.sz] at hl; have b0 := bt_ofat (T := T) P (t.tt ++ Q) 33 (by rw [hT]; simp [FT.tt]) rfl; have hh : At T (P.length : Int) l := ⟨by omega, by rw [hT, bs_size]; simp [FT.tt]; omega, hs, by omega⟩; have g := ih hv (P ++ [33]) Q T l (by rw [hT]; simp [FT.tt]) hs (by omega); have e33 : (((P ++ ([33] : List UInt8)).length : Nat) : Int) = (P.length : Int) + 1 := by simp
  rw [e33] at g; refine Ev.same (SR_neg hh b0 g (by simp only [List.length_append, FT.flat_len]; omega)) ?_; rw [if_neg (by dsimp only; omega)]; simp [FT.flat, FT.flat_len, FT.tt]; omega
 | bin o t u ih1 ih2 =>
  intro hv P Q T l hT hs hl; simp only [FT.sz] at hl; obtain ⟨ho, v1, v2⟩ := hv; have b0 := bt_ofat (T := T) P (t.tt ++ (u.tt ++ Q)) (osg o) (by rw [hT]; simp [FT.tt]) rfl; have hh : At T (P.length : Int) l := ⟨by omega, by rw [hT, bs_size]; simp [FT.tt]; omega, hs, by omega⟩; have g := ih1 v1 (P ++ [osg o]) (u.tt ++ Q) T l (by rw [hT]; simp [FT.tt]) hs (by omega); have g2 := ih2 v2 (P ++ [osg o] ++ t.tt) Q T (l ++ t.flat l.length) (by rw [hT]; simp [FT.tt]) hs (by rw [List.length_append, FT.flat_len]; omega); rw [show (((P ++ [osg o] ++ t.tt).length : Nat) : Int) = (((P ++ [osg o]).length + t.tt.length : Nat) : Int) by simp; omega] at g2; rw [show (((P ++ [osg o]).length : Nat) : Int) = (P.length : Int) + 1 by simp] at g; refine Ev.same (SR_bin hh o (by rw [b0]; rcases ho with rfl | rfl <;> decide) g (Or.inr ⟨by dsimp only; omega, g2⟩) (by simp only [List.length_append, FT.flat_len]; omega) (by simp only [List.length_append, FT.flat_len]; omega)) ?_; rw [if_neg (by dsimp only; omega), if_neg (by dsimp only; omega)]; simp [FT.flat, FT.flat_len, FT.tt]; omega
 | qu o x t ih =>
  intro hv P Q T l hT hs hl; simp only [FT.sz] at hl; obtain ⟨ho, hx, v1⟩ := hv; have b0 := bt_ofat (T := T) P (Lib.itoa x ++ (t.tt ++ Q)) (osg o) (by rw [hT]; simp [FT.tt]) rfl; have d1 := sdig_at (T := T) (n := P.length + 1) (P ++ [osg o]) (t.tt ++ Q) x hx (by rw [hT]; simp [FT.tt]) (by simp); have hh : At T (P.length : Int) l := ⟨by omega, by rw [hT, bs_size]; simp [FT.tt]; omega, hs, by omega⟩; have g := ih v1 (P ++ [osg o] ++ Lib.itoa x) Q T l (by rw [hT]; simp [FT.tt]) hs (by omega); have hP : (P ++ [osg o] ++ Lib.itoa x).length = P.length + 2 := by rw [itoa_dgt x hx]; simp
  rw [hP] at g; refine Ev.same (SR_qu hh o (by rw [b0]; rcases ho with rfl | rfl <;> decide) (by rw [show (P.length : Int) + 2 = ((P.length + 2 : Nat) : Int) by omega]; exact g) (by simp only [List.length_append, FT.flat_len]; omega)) ?_; rw [if_neg (by dsimp only; omega), show ((P.length : Int) + 1) = ((P.length + 1 : Nat) : Int) by omega, d1]; simp [FT.flat, FT.flat_len, FT.tt, itoa_dgt x hx]; omega
theorem FT.ops_of : ∀ t : FT, t.vd → t.ops
 | two _ _ _, h => h.1
 | sum _ _ _, _ => trivial
 | num _ _, _ => trivial
 | neg t, h => FT.ops_of t h
 | bin _ t u, h => ⟨h.1, FT.ops_of t h.2.1, FT.ops_of u h.2.2⟩
 | qu _ _ t, h => ⟨h.1, FT.ops_of t h.2.2⟩
theorem form_val (f : List S75) (hf : f.length ≤ 1048576) : ∃ t, Ev (fun k => spec_FormatFormula.f k f) (bs t) ∧ Ev (fun k => impl_FormatFormula.f k f) (bs t) ∧ (isFP f → t = txt f f.length (f.length - 1)) ∧ (¬ isFP f → t = []) := by
 obtain ⟨r, s1, h1⟩ := specF_ev f hf; obtain ⟨r', s2, h2⟩ := implF_ev f hf; obtain rfl : r = r' := by
  cases r <;> cases r' <;> simp_all
 unfold spec_FormatFormula.f impl_FormatFormula.f; cases r with
 | false =>
  have hn : ¬ isFP f := fun h => by simpa using h1.2 h
  exact ⟨[], Ev.bind s1 (Ev.if_neg (by simp) (Ev.some _)), Ev.bind s2 (Ev.if_neg (by simp) (Ev.some _)), fun h => absurd h hn, fun _ => rfl⟩
 | true =>
  have hF := h1.1 rfl; obtain ⟨hl, ok, _, _⟩ := hF; have hw : wrap64 ((f.length : Int) - 1) = ((f.length - 1 : Nat) : Int) := by rw [w_id (by omega) (by omega)]; omega
  obtain ⟨⟨t1, t2⟩, _, t3⟩ := txt_both f hl.2 ok f.length (f.length - 1) (by omega) (by omega); refine ⟨txt f f.length (f.length - 1), Ev.bind s1 (Ev.if_pos rfl ?_), Ev.bind s2 (Ev.if_pos rfl ?_), fun _ => rfl, fun h => absurd (h1.1 rfl) h⟩
  ·rw [hw]; exact Ev.bind t1 (Ev.some _)
  ·rw [hw]; exact Ev.bind t2 (Ev.some _)
/-- The text of a formula's nodes. -/
def Good (t : FT) (a : ByteArray) : Prop := t.vd ∧ isFP (t.flat 0) ∧ a = bs t.tt
theorem form_tree (t : FT) (ho : t.ops) (hF : isFP (t.flat 0)) : t.vd ∧ txt (t.flat 0) (t.flat 0).length ((t.flat 0).length - 1) = t.tt := by
 obtain ⟨v, e⟩ := tree_text (t.flat 0) hF.2.1 t 0 ho (fun j _ => by rw [Nat.zero_add]); refine ⟨v, ?_⟩; have := e (t.flat 0).length (by rw [FT.flat_len]; omega); rw [Nat.zero_add] at this; rw [FT.flat_len] at this ⊢; exact this
theorem pnode_empty (s : ByteArray) (h : s.size = 0) : ∃ r i f, Ev (fun k => pnode s k 0 false []) (r, i, true, f) := by
 have hx : psgn s 0 false ≤ 0 := by
  by_cases q : psgn s 0 false ≤ 0
  ·exact q
  ·have := (psgn_pos s 0 false (by omega) q).2.1; omega
 exact ⟨_, _, _, Ev.step (fun k => by simp only [pnode]; rfl) (Ev.if_pos hx (pfin_ev _ _ _ _ (by simp)))⟩
theorem parse_both (a : ByteArray) : ∃ l b, Ev (fun k => spec_ParseFormula.f k a) (l, b) ∧ Ev (fun k => impl_ParseFormula.f k a) (l, b) ∧ l.length ≤ 40 := by
 unfold spec_ParseFormula.f impl_ParseFormula.f; by_cases hs : (a.size : Int) > 300
 ·exact ⟨[], false, Ev.if_pos hs (Ev.some _), Ev.if_pos hs (Ev.some _), by simp⟩
 by_cases hg : ∃ t, Good t a
 ·obtain ⟨t, hv, hF, ha⟩ := hg; have ho := t.ops_of hv; obtain ⟨_, et⟩ := form_tree t ho hF; have hlen : t.sz ≤ 40 := by have := hF.1.2; rwa [FT.flat_len] at this
  obtain ⟨x, f1, f2, f3, _⟩ := form_val (t.flat 0) (by rw [FT.flat_len]; omega); obtain rfl : x = t.tt := (f3 hF).trans et; have g1 := SR_read t hv [] [] a [] (by rw [ha]; simp) (by omega) (by simpa using hlen); have g2 := pnode_read t hv [] [] a [] (by rw [ha]; simp) (by simp; omega); have tl : (bs t.tt).toList = a.toList := by rw [ha]
  refine ⟨t.flat 0, true, Ev.if_neg hs (Ev.bind g1 (Ev.if_neg (by dsimp only; omega) (Ev.bind f1 (Ev.if_pos tl (Ev.some _))))), Ev.if_neg hs (Ev.bind g2 (Ev.if_neg (by simp) (Ev.bind f2 (Ev.if_pos tl (Ev.some _))))), by rw [FT.flat_len]; exact hlen⟩
 ·refine ⟨[], false, Ev.if_neg hs ?_, Ev.if_neg hs ?_, by simp⟩
  ·obtain ⟨r, g, he⟩ := SR_all a (by omega) a.size 0 [] (by omega) (by omega); refine Ev.bind g ?_; rcases he with ⟨h1, h2⟩ | ⟨t, ho, h1, h2, h3⟩
   ·exact Ev.if_pos h1 (Ev.some _)
   ·refine Ev.if_neg (by omega) ?_; rw [h1, List.nil_append, List.length_nil]; obtain ⟨x, f1, f2, f3, f4⟩ := form_val (t.flat 0) (by rw [FT.flat_len]; omega); refine Ev.bind f1 (Ev.if_neg ?_ (Ev.some _)); rw [toList_inj]; intro e; by_cases hF : isFP (t.flat 0)
    ·obtain ⟨v, et⟩ := form_tree t ho hF; exact hg ⟨t, v, hF, by rw [← e, f3 hF, et]⟩
    ·rw [f4 hF] at e; have := Ev.unique g (SR_end (s := a) (i := 0) (l := []) (Or.inl (by rw [← e, bs_size]; simp))); rw [this] at h2; dsimp only at h2; omega
  ·obtain ⟨r, i, b, f, g, e1, e2, e3⟩ := pnode_end a a.size 0 false [] (by omega) (by omega) (by simp; omega); refine Ev.bind g ?_; cases b with
   | true => exact Ev.if_pos rfl (Ev.some _)
   | false =>
    refine Ev.if_neg (by simp) ?_; obtain ⟨K, hK⟩ := g; obtain ⟨_, t, ho, h1, _⟩ := (pnode_tree a K 0 false [] r i false f (by omega) (hK K (Nat.le_refl _))).2 rfl; rw [List.nil_append, List.length_nil] at h1; subst h1; rw [FT.flat_len] at e3; dsimp only; obtain ⟨x, f1, f2, f3, f4⟩ := form_val (t.flat 0) (by rw [FT.flat_len]; simp at e3; omega); refine Ev.bind f2 (Ev.if_neg ?_ (Ev.some _)); rw [toList_inj]; intro e; by_cases hF : isFP (t.flat 0)
    ·obtain ⟨v, et⟩ := form_tree t ho hF; exact hg ⟨t, v, hF, by rw [← e, f3 hF, et]⟩
    ·rw [f4 hF] at e; obtain ⟨r', i', f', g'⟩ := pnode_empty a (by rw [← e, bs_size]; simp); have := Ev.unique ⟨K, hK⟩ g'; simp at this
/-! The laws' own functions on rows of nodes. -/
theorem eqNodeS_ev (l : List S75) (h : l.length ≤ 1048576) : Ev (fun k => laws_eqNodeS.f k l l) true := by
 unfold laws_eqNodeS.f; have key : ∀ i, i ≤ l.length → Ev (fun k => laws_eqNodeS.l0 k l l (i : Int)) true := by
  refine down l.length ?_ ?_
  ·exact Ev.step (fun k => by simp only [laws_eqNodeS.l0]; rfl) (Ev.if_neg (by omega) (Ev.some _))
  ·intro i hi ih; refine Ev.step (fun k => by simp only [laws_eqNodeS.l0]; rfl) (Ev.if_pos (by omega) (Ev.if_pos (by omega) (Ev.if_pos (by omega) ?_))); have e : ∀ x : S75, laws_eqNode.f x.f0 x.f1 x.f2 x.f3 x.f0 x.f1 x.f2 x.f3 = some true := fun x => by unfold laws_eqNode.f; simp
   refine Ev.bind (Ev.val (e _)) (Ev.if_pos rfl ?_); rw [wsucc (by omega)]; exact ih
 exact Ev.if_pos rfl (key 0 (by omega))
def mkN (m : Int) (j : Nat) : S75 := ⟨m + 4 * j, m + 4 * j + 1, m + 4 * j + 2, m + 4 * j + 3⟩
theorem markNodeS_ev (l : List S75) (m : Int) (h0 : 0 ≤ m) (h1 : m ≤ 1000) (hl : l.length ≤ 1000) : ∃ X, Ev (fun k => laws_markNodeS.f k l m) (m + 4 * l.length, X) ∧ X.length = l.length ∧ ∀ j, j < l.length → X[j]? = some (mkN m j) := by
 have key : ∀ n i (X : List S75), l.length - i = n → i ≤ l.length → X.length = l.length → (∀ j, j < i → X[j]? = some (mkN m j)) → ∃ Y, Ev (fun k => laws_markNodeS.l0 k X (m + 4 * i) (i : Int)) (m + 4 * l.length, Y) ∧ Y.length = l.length ∧ ∀ j, j < l.length → Y[j]? = some (mkN m j) := by
  intro n
  induction n with
  | zero =>
   intro i X hn hi hX hm; obtain rfl : i = l.length := by omega
   exact ⟨X, Ev.step (fun k => by simp only [laws_markNodeS.l0]; rfl) (Ev.if_neg (by omega) (Ev.some _)), hX, hm⟩
  | succ n ih =>
   intro i X hn hi hX hm; have hi' : i < X.length := by omega
   have e1 : wrap64 (m + 4 * (i : Int) + 1) = m + 4 * (i : Int) + 1 := w_id (by omega) (by omega); have e2 : wrap64 (m + 4 * (i : Int) + 1 + 1) = m + 4 * (i : Int) + 2 := (w_id (by omega) (by omega)).trans (by omega); have e3 : wrap64 (m + 4 * (i : Int) + 2 + 1) = m + 4 * (i : Int) + 3 := (w_id (by omega) (by omega)).trans (by omega); have e4 : wrap64 (m + 4 * (i : Int) + 3 + 1) = m + 4 * ((i + 1 : Nat) : Int) := (w_id (by omega) (by omega)).trans (by omega)
   obtain ⟨Y, g, hY, hm2⟩ := ih (i + 1) (X.set i (mkN m i)) (by omega) (by omega) (by rw [List.length_set]; exact hX) (fun j hj => by
    by_cases q : i = j
    ·rw [← q, List.getElem?_set_self hi']
    ·rw [List.getElem?_set_ne q]; exact hm j (by omega))
   have s0 : ∀ (Z : List S75) (v : S75), i < Z.length → rd_T75 (Z.set i v) (i : Int) = v := fun Z v hz => by rw [rdN_get _ _ (by rw [List.length_set]; exact hz)]; simp
   refine ⟨Y, Ev.step (fun k => ?_) g, hY, hm2⟩; simp only [laws_markNodeS.l0, e1, e2, e3, e4, wsucc (show i < 9223372036854775807 by omega)]; rw [if_pos (by omega), if_pos (by omega)]; simp only [Option.bind_some, Int.toNat_natCast, s0, hi', List.set_set]; rfl
 obtain ⟨Y, g, h2, h3⟩ := key l.length 0 l (by omega) (by omega) rfl (fun j hj => by omega); refine ⟨Y, ?_, h2, h3⟩; unfold laws_markNodeS.f; simpa using g
theorem heldNodeS_ev (X : List S75) (m : Int) (h0 : 0 ≤ m) (h1 : m ≤ 1000) (hl : X.length ≤ 1000) (hm : ∀ j, j < X.length → X[j]? = some (mkN m j)) : Ev (fun k => laws_heldNodeS.f k X m) (m + 4 * X.length) := by
 have key : ∀ i, i ≤ X.length → Ev (fun k => laws_heldNodeS.l0 k X (m + 4 * i) (i : Int)) (m + 4 * X.length) := by
  refine down X.length ?_ ?_
  ·exact Ev.step (fun k => by simp only [laws_heldNodeS.l0]; rfl) (Ev.if_neg (by omega) (Ev.some _))
  ·intro i hi ih; have e1 : wrap64 (m + 4 * (i : Int) + 1) = m + 4 * (i : Int) + 1 := w_id (by omega) (by omega); have e2 : wrap64 (m + 4 * (i : Int) + 1 + 1) = m + 4 * (i : Int) + 2 := (w_id (by omega) (by omega)).trans (by omega); have e3 : wrap64 (m + 4 * (i : Int) + 2 + 1) = m + 4 * (i : Int) + 3 := (w_id (by omega) (by omega)).trans (by omega); have e4 : wrap64 (m + 4 * (i : Int) + 3 + 1) = m + 4 * ((i + 1 : Nat) : Int) := (w_id (by omega) (by omega)).trans (by omega); have hx : rd_T75 X (i : Int) = mkN m i := by
    rw [rdN_get X i hi]; exact (List.getElem?_eq_some_iff.1 (hm i hi)).2
   refine Ev.step (fun k => by simp only [laws_heldNodeS.l0, e1, e2, e3, e4, hx, wsucc (show i < 9223372036854775807 by omega)]; rfl) (Ev.if_pos (by omega) (Ev.if_pos (by omega) (Ev.if_pos (show (mkN m i).f0 = m + 4 * (i : Int) from rfl) (Ev.if_pos (show (mkN m i).f1 = m + 4 * (i : Int) + 1 from rfl) (Ev.if_pos (show (mkN m i).f2 = m + 4 * (i : Int) + 2 from rfl) (Ev.if_pos (show (mkN m i).f3 = m + 4 * (i : Int) + 3 from rfl) ih))))))
 unfold laws_heldNodeS.f; simpa using key 0 (by omega)
theorem lawPF : laws_FnExactParseFormula.Pure := by
 intro a ha; have main : Ev (fun k => laws_FnExactParseFormula.f k a) true := by
  unfold laws_FnExactParseFormula.f; obtain ⟨l, b, g1, g2, hl⟩ := parse_both a; obtain ⟨X, m1, hX, m2⟩ := markNodeS_ev l 1 (by omega) (by omega) (by omega); have hh := heldNodeS_ev X 1 (by omega) (by omega) (by omega) (fun j hj => m2 j (by omega)); rw [hX] at hh; have eq := eqNodeS_ev l (by omega); refine Ev.ite (fun _ => Ev.some _) (fun _ => Ev.bind g1 (Ev.bind g2 (Ev.bind eq (Ev.if_pos rfl ?_)))); rw [show (b != b) = false by cases b <;> rfl]; refine Ev.step (fun k => by simp only [laws_FnExactParseFormula.j0]; rfl) (Ev.if_neg (by simp) (Ev.bind m1 (Ev.bind hh (Ev.if_neg (show ¬ ((1 : Int) + 4 * (l.length : Int) < 0) by omega) (Ev.if_pos (rfl : (1 : Int) + 4 * (l.length : Int) = 1 + 4 * (l.length : Int)) (Ev.bind g2 (Ev.bind eq (Ev.if_pos rfl ?_)))))))); rw [show (b != b) = false by cases b <;> rfl]; exact Ev.step (fun k => by simp only [laws_FnExactParseFormula.j1]; rfl) (Ev.if_neg (by simp) (Ev.bind hh (Ev.if_neg (show ¬ ((1 : Int) + 4 * (l.length : Int) < 0) by omega) (Ev.if_pos (rfl : (1 : Int) + 4 * (l.length : Int) = 1 + 4 * (l.length : Int)) (Ev.some _)))))
 obtain ⟨k, hk⟩ := main.rounds; exact ⟨k, hk⟩
end Go.Proofs.YtdekenijnbhpfaaDoor.M
/- FnExactParseFormula: the plain law of the statement, out of what program and reference come to. No condition. -/
namespace Go.Proofs.YtdekenijnbhpfaaDoor.Pure
open Go.RowKit Go.Proofs.YtdekenijnbhpfaaDoor.M Go.Proofs.YtdekenijnbhpfaaDoorW.PrintWords Go.Proofs.YtdekenijnbhpfaaDoorW.PrintLast
theorem FnExactParseFormula : laws_FnExactParseFormula.Pure := lawPF
end Go.Proofs.YtdekenijnbhpfaaDoor.Pure
