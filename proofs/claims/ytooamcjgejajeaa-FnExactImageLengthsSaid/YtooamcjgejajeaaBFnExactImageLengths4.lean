/- Texts of the claim on FnExactImageLengths, joined (part 4 of 5): walks of the functions, what they come to, and in the last part the row. No condition of mine. -/
import Derived.Test.YtooamcjgejajeaaBFnExactImageLengths3
import Derived.Test.YtooamcjgejajeaaBFnExactImageLengths2
/- Lengths of images after some steps: adding up the letters of each image is applying the incidence to ones, modulo 2^64. No condition but lengths that fit. -/
namespace Go.Proofs.Ytooamcjgejajeaa.M
open Go.RowKit Go.Proofs.YtooamcjgejajeaaW.PrintWords Go.Proofs.Ytooamcjgejajeaa.K
set_option linter.unusedVariables false
/-- The same modulo 2^64. -/
def cg (a b : Int) : Prop := ∃ q : Int, a = b + q * 18446744073709551616
theorem cg_refl (a : Int) : cg a a := ⟨0, by omega⟩
theorem cg_symm {a b : Int} (h : cg a b) : cg b a := by obtain ⟨q, h⟩ := h; exact ⟨-q, by omega⟩
theorem cg_trans {a b c : Int} (h : cg a b) (k : cg b c) : cg a c := by obtain ⟨q, h⟩ := h; obtain ⟨p, k⟩ := k; exact ⟨q + p, by omega⟩
theorem cg_wrap (a : Int) : cg (wrap64 a) a := by
  unfold wrap64
  exact ⟨-((a + 9223372036854775808) / 18446744073709551616), by omega⟩
theorem cg_add {a b c d : Int} (h : cg a b) (k : cg c d) : cg (a + c) (b + d) := by obtain ⟨q, h⟩ := h; obtain ⟨p, k⟩ := k; exact ⟨q + p, by omega⟩
theorem cg_mul_left {a b : Int} (c : Int) (h : cg a b) : cg (c * a) (c * b) := by
  obtain ⟨q, rfl⟩ := h
  exact ⟨c * q, by rw [Int.mul_add, Int.mul_assoc]⟩
theorem cg_mul_right {a b : Int} (c : Int) (h : cg a b) : cg (a * c) (b * c) := by rw [Int.mul_comm a, Int.mul_comm b]; exact cg_mul_left c h
theorem cg_eq {a b : Int} (h : cg a b) (ha : -9223372036854775808 ≤ a ∧ a ≤ 9223372036854775807) (hb : -9223372036854775808 ≤ b ∧ b ≤ 9223372036854775807) : a = b := by
  obtain ⟨q, h⟩ := h; omega
theorem wrap_range (a : Int) : -9223372036854775808 ≤ wrap64 a ∧ wrap64 a ≤ 9223372036854775807 := by unfold wrap64; omega

def sm (f : Nat → Int) : Nat → Int
  | 0 => 0
  | n + 1 => sm f n + f n
theorem sm_cg (f g : Nat → Int) (n : Nat) (h : ∀ i, i < n → cg (f i) (g i)) : cg (sm f n) (sm g n) := by
  induction n with
  | zero => exact cg_refl _
  | succ n ih => exact cg_add (ih (fun i hi => h i (by omega))) (h n (by omega))
theorem sm_congr (f g : Nat → Int) (n : Nat) (h : ∀ i, i < n → f i = g i) : sm f n = sm g n := by
  induction n with
  | zero => rfl
  | succ n ih => simp only [sm]; rw [ih (fun i hi => h i (by omega)), h n (by omega)]
theorem sm_add (f g : Nat → Int) (n : Nat) : sm (fun i => f i + g i) n = sm f n + sm g n := by
  induction n with
  | zero => rfl
  | succ n ih => simp only [sm]; rw [ih]; omega
theorem sm_mul (c : Int) (f : Nat → Int) (n : Nat) : sm (fun i => c * f i) n = c * sm f n := by
  induction n with
  | zero => simp [sm]
  | succ n ih => simp only [sm]; rw [ih, Int.mul_add]
theorem sm_mul' (c : Int) (f : Nat → Int) (n : Nat) : sm (fun i => f i * c) n = sm f n * c := by
  rw [Int.mul_comm, ← sm_mul]; exact sm_congr _ _ _ (fun i _ => Int.mul_comm _ _)
theorem sm_zero (n : Nat) : sm (fun _ => 0) n = 0 := by
  induction n with
  | zero => rfl
  | succ n ih => simp only [sm]; rw [ih]; rfl
theorem sm_swap (f : Nat → Nat → Int) (m n : Nat) : sm (fun y => sm (fun x => f x y) m) n = sm (fun x => sm (fun y => f x y) n) m := by
  induction n with
  | zero => simp only [sm]; rw [sm_zero]
  | succ n ih => simp only [sm]; rw [ih, sm_add]

theorem acc_cg (t : List (List Int)) (r : List Int) (y : Nat) : ∀ x, cg (acc t r x y) (sm (fun x' => rd r (x' : Int) * rd (rd_L1 t (x' : Int)) (y : Int)) x)
  | 0 => cg_refl _
  | x + 1 => cg_trans (cg_wrap _) (cg_add (acc_cg t r y x) (cg_wrap _))
/-- What has been added up of the row i when k places are done. -/
def ac2 (t : List (List Int)) (v : List Int) (i : Nat) : Nat → Int
  | 0 => 0
  | k + 1 => wrap64 (ac2 t v i k + wrap64 (rd (rd_L1 t (i : Int)) (k : Int) * rd v (k : Int)))
theorem ac2_cg (t : List (List Int)) (v : List Int) (i : Nat) : ∀ k, cg (ac2 t v i k) (sm (fun k' => rd (rd_L1 t (i : Int)) (k' : Int) * rd v (k' : Int)) k)
  | 0 => cg_refl _
  | k + 1 => cg_trans (cg_wrap _) (cg_add (ac2_cg t v i k) (cg_wrap _))
theorem ac2_range (t : List (List Int)) (v : List Int) (i : Nat) : ∀ k, -9223372036854775808 ≤ ac2 t v i k ∧ ac2 t v i k ≤ 9223372036854775807
  | 0 => by simp [ac2]
  | k + 1 => wrap_range _
def mv (t : List (List Int)) (v : List Int) : List Int := row t.length fun i => ac2 t v i t.length
def pw (t : List (List Int)) : Nat → List Int → List Int
  | 0, v => v
  | n + 1, v => pw t n (mv t v)
theorem pw_mv (t : List (List Int)) : ∀ n v, pw t n (mv t v) = mv t (pw t n v)
  | 0, v => rfl
  | n + 1, v => by simp only [pw]; exact pw_mv t n _
theorem mv_len (t : List (List Int)) (v : List Int) : (mv t v).length = t.length := row_length _ _
theorem pw_len (t : List (List Int)) : ∀ n v, v.length = t.length → (pw t n v).length = t.length
  | 0, v, h => h
  | n + 1, v, h => pw_len t n _ (mv_len t v)
def dot (L : Nat) (r v : List Int) : Int := sm (fun k => rd r (k : Int) * rd v (k : Int)) L
theorem dot_step (t : List (List Int)) (r v : List Int) : cg (dot t.length (stp t r) v) (dot t.length r (mv t v)) := by
  unfold dot
  refine cg_trans (sm_cg _ (fun y => sm (fun x => rd r (x : Int) * rd (rd_L1 t (x : Int)) (y : Int)) t.length * rd v (y : Int)) _ (fun y hy => ?_)) ?_
  · unfold stp; rw [rd_row _ _ _ hy]; exact cg_mul_right _ (acc_cg t r y _)
  · refine cg_trans ?_ (sm_cg (fun x => rd r (x : Int) * sm (fun y => rd (rd_L1 t (x : Int)) (y : Int) * rd v (y : Int)) t.length) _ _ (fun x hx => ?_))
    · rw [sm_congr _ (fun y => sm (fun x => rd r (x : Int) * rd (rd_L1 t (x : Int)) (y : Int) * rd v (y : Int)) t.length) _ (fun y _ => (sm_mul' _ _ _).symm), sm_swap]
      rw [sm_congr _ (fun x => rd r (x : Int) * sm (fun y => rd (rd_L1 t (x : Int)) (y : Int) * rd v (y : Int)) t.length) _ (fun x _ => by rw [← sm_mul]; exact sm_congr _ _ _ (fun y _ => Int.mul_assoc _ _ _))]
      exact cg_refl _
    · unfold mv; rw [rd_row _ _ _ hx]; exact cg_mul_left _ (cg_symm (ac2_cg t v x _))
theorem dot_its (t : List (List Int)) (v : List Int) : ∀ n r, cg (dot t.length (its t n r) v) (dot t.length r (pw t n v))
  | 0, r => cg_refl _
  | n + 1, r => by
    simp only [its, pw]
    refine cg_trans (dot_its t v n (stp t r)) ?_
    rw [pw_mv]
    exact dot_step t r _
/-- The sum of a row as the reference adds it up. -/
def ws (r : List Int) : Nat → Int
  | 0 => 0
  | b + 1 => wrap64 (ws r b + rd r (b : Int))
theorem ws_cg (r : List Int) : ∀ b, cg (ws r b) (sm (fun k => rd r (k : Int)) b)
  | 0 => cg_refl _
  | b + 1 => cg_trans (cg_wrap _) (cg_add (ws_cg r b) (cg_refl _))
theorem ws_range (r : List Int) : ∀ b, -9223372036854775808 ≤ ws r b ∧ ws r b ≤ 9223372036854775807
  | 0 => by simp [ws]
  | b + 1 => wrap_range _
def ones (L : Nat) : List Int := row L fun _ => 1
theorem dot_unit (L a : Nat) (v : List Int) (ha : a < L) : dot L (unit1 L (a : Int)) v = rd v (a : Int) := by
  unfold dot unit1
  rw [Int.toNat_natCast, row_replicate, row_set]
  have : ∀ n, n ≤ L → sm (fun k => rd (row L fun m => if m = a then (1 : Int) else 0) (k : Int) * rd v (k : Int)) n = if a < n then rd v (a : Int) else 0 := by
    intro n
    induction n with
    | zero => intro _; simp [sm]
    | succ n ih =>
      intro hn
      simp only [sm]
      rw [ih (by omega), rd_row _ _ _ (by omega)]
      by_cases e : n = a
      · subst e; rw [_root_.if_neg (by omega), _root_.if_pos rfl, _root_.if_pos (by omega), Int.one_mul, Int.zero_add]
      · rw [_root_.if_neg e, Int.zero_mul, Int.add_zero]
        by_cases q : a < n
        · rw [_root_.if_pos q, _root_.if_pos (by omega)]
        · rw [_root_.if_neg q, _root_.if_neg (by omega)]
  rw [this L (Nat.le_refl _), _root_.if_pos ha]
theorem pw_range (t : List (List Int)) (n a : Nat) (ha : a < t.length) : -9223372036854775808 ≤ rd (pw t n (ones t.length)) (a : Int) ∧ rd (pw t n (ones t.length)) (a : Int) ≤ 9223372036854775807 := by
  cases n with
  | zero => simp only [pw, ones]; rw [rd_row _ _ _ ha]; omega
  | succ n =>
    simp only [pw]
    rw [pw_mv]
    unfold mv
    rw [rd_row _ _ _ ha]
    exact ac2_range _ _ _ _
/-- Adding up the letters of the image of a letter is the incidence applied to ones. -/
theorem sum_is (t : List (List Int)) (n a : Nat) (ha : a < t.length) : ws (its t n (unit1 t.length (a : Int))) t.length = rd (pw t n (ones t.length)) (a : Int) := by
  refine cg_eq ?_ (ws_range _ _) (pw_range t n a ha)
  refine cg_trans (ws_cg _ _) ?_
  have h1 := dot_its t (ones t.length) n (unit1 t.length (a : Int))
  rw [dot_unit _ _ _ ha] at h1
  unfold dot at h1
  rw [sm_congr _ (fun k => rd (its t n (unit1 t.length (a : Int))) (k : Int)) _ (fun k hk => by unfold ones; rw [rd_row _ _ _ hk, Int.mul_one])] at h1
  exact h1

def il (ms : List (List Int)) (n : Int) : List Int × Bool := if mo ms = true ∧ 0 ≤ n ∧ n ≤ 12 then (pw (inc ms) n.toNat (ones (inc ms).length), true) else ([], false)
theorem il_len (ms : List (List Int)) (n : Int) : (il ms n).1.length ≤ 16 := by
  unfold il
  split
  · have := (inc_len ms).1
    rw [pw_len _ _ _ (by unfold ones; rw [row_length])]; exact this
  · simp
theorem inc_length {ms : List (List Int)} (q : mo ms = true) : (inc ms).length = ms.length := by
  unfold inc; rw [_root_.if_pos q, List.length_map]
def ils (t : List (List Int)) (n i : Nat) : List Int := row i fun a => ws (its t n (unit1 t.length (a : Int))) t.length
theorem ils_full (t : List (List Int)) (n : Nat) : ils t n t.length = pw t n (ones t.length) := by
  unfold ils
  rw [row_congr _ _ (fun a => (pw t n (ones t.length)).getD a 0) (fun a ha => by rw [sum_is t n a ha, rd_at])]
  have h := pw_len t n (ones t.length) (by unfold ones; rw [row_length])
  have := row_of (pw t n (ones t.length))
  rw [h] at this
  exact this
theorem specIL_ev (ms : List (List Int)) (a1 : Int) (h : ms.length ≤ 1048576) (ht : total ms ≤ 1048576) : Ev (fun k => spec_ImageLengths.f k ms a1) (il ms a1) := by
  unfold spec_ImageLengths.f
  have hM := specIsMorphism_ev ms h ht
  by_cases q : mo ms = true ∧ 0 ≤ a1 ∧ a1 ≤ 12
  · have hl := inc_length q.1
    have h16 := (inc_len ms).1
    have e : il ms a1 = (ils (inc ms) a1.toNat ms.length, true) := by
      unfold il; rw [_root_.if_pos q, ← ils_full, hl]
    rw [e]
    rw [q.1] at hM
    have l1 : ∀ (x6 : List Int) (i : Int) (r : List Int) (R : List Int × Bool), x6.length ≤ 1048576 → r.length ≤ 1048576 → Ev (fun k => spec_ImageLengths.l0 k a1 (x6 ++ [ws r r.length]) (wrap64 (i + 1)) ms) R → ∀ b, b ≤ r.length → Ev (fun k => spec_ImageLengths.l1 k a1 x6 i r (ws r b) (b : Int) ms) R := by
      intro x6 i r R h6 hr h0
      refine down r.length ?_ ?_
      · refine Ev.step (fun k => by simp only [spec_ImageLengths.l1]; rw [_root_.if_neg (by omega), _root_.if_pos (by omega)]) h0
      · intro b hb ih
        refine Ev.step (fun k => by simp only [spec_ImageLengths.l1]; rw [_root_.if_pos (by omega), _root_.if_pos (by omega), wsucc (by omega)]; rfl) ih
    have key : ∀ i, i ≤ ms.length → Ev (fun k => spec_ImageLengths.l0 k a1 (ils (inc ms) a1.toNat i) (i : Int) ms) (ils (inc ms) a1.toNat ms.length, true) := by
      refine down ms.length ?_ ?_
      · refine Ev.step (fun k => by simp only [spec_ImageLengths.l0]; rw [_root_.if_neg (by omega)]) ?_
        refine Ev.bind hM (Ev.if_pos rfl (Ev.bind (Ev.val (l1In_val _ _ _)) ?_))
        rw [decide_eq_true (by omega)]; exact Ev.some _
      · intro i hi ih
        refine Ev.step (fun k => by simp only [spec_ImageLengths.l0]; rw [_root_.if_pos (by omega)]) ?_
        refine Ev.bind (specLA_ev ms (i : Int) a1 h ht) ?_
        have e : la ms (i : Int) a1 = (its (inc ms) a1.toNat (unit1 (inc ms).length (i : Int)), true) := by
          unfold la; rw [_root_.if_pos ⟨q.1, ⟨by omega, by omega⟩, q.2.1, q.2.2⟩]
        rw [e]
        have hlen : (its (inc ms) a1.toNat (unit1 (inc ms).length (i : Int))).length = (inc ms).length := its_len _ _ _ (by unfold unit1; rw [List.length_set, List.length_replicate])
        refine Ev.if_pos rfl ?_
        dsimp only
        refine l1 _ _ _ _ (by unfold ils; rw [row_length]; omega) (by omega) ?_ 0 (by omega)
        rw [wsucc (by omega), hlen]
        have : ils (inc ms) a1.toNat (i + 1) = ils (inc ms) a1.toNat i ++ [ws (its (inc ms) a1.toNat (unit1 (inc ms).length (i : Int))) (inc ms).length] := by unfold ils; rw [row_succ]
        rw [← this]; exact ih
    exact key 0 (by omega)
  · have e : il ms a1 = ([], false) := by unfold il; rw [_root_.if_neg q]
    rw [e]
    refine Ev.step (fun k => by simp only [spec_ImageLengths.l0]; rfl) ?_
    refine Ev.ite (fun q1 => ?_) (fun q1 => ?_)
    · refine Ev.bind (specLA_ev ms 0 a1 h ht) ?_
      have e : la ms 0 a1 = ([], false) := by
        unfold la; rw [_root_.if_neg (fun x => q ⟨x.1, x.2.2.1, x.2.2.2⟩)]
      rw [e]
      exact Ev.if_neg (by simp) (Ev.some _)
    · refine Ev.bind hM (Ev.if_neg ?_ (Ev.some _))
      intro x
      have : 1 ≤ ms.length := by unfold mo at x; rw [Bool.and_eq_true] at x; exact (of_decide_eq_true x.1).1
      omega

def fil (t : List (List Int)) (v : List Int) (i k : Nat) : List Int := row t.length fun j => if j < i then ac2 t v j t.length else if j = i then ac2 t v i k else 0
theorem fil_set (t : List (List Int)) (v : List Int) (i k : Nat) (hi : i < t.length) :
    (fil t v i k).set ((i : Int) : Int).toNat (wrap64 (rd (fil t v i k) (i : Int) + wrap64 (rd (rd_L1 t (i : Int)) (k : Int) * rd v (k : Int)))) = fil t v i (k + 1) := by
  unfold fil
  rw [Int.toNat_natCast, rd_row _ _ _ hi, row_set]
  refine row_congr _ _ _ (fun j hj => ?_)
  by_cases e : j = i
  · subst e; rw [_root_.if_pos rfl, _root_.if_neg (Nat.lt_irrefl j), _root_.if_pos rfl, _root_.if_neg (Nat.lt_irrefl j), _root_.if_pos rfl]; rfl
  · rw [_root_.if_neg e, _root_.if_neg e, _root_.if_neg e]
theorem fil_next (t : List (List Int)) (v : List Int) (i : Nat) (hi : i < t.length) : fil t v i t.length = fil t v (i + 1) 0 := by
  unfold fil
  refine row_congr _ _ _ (fun j hj => ?_)
  by_cases e : j = i
  · subst e; rw [_root_.if_neg (Nat.lt_irrefl j), _root_.if_pos rfl, _root_.if_pos (by omega)]
  · by_cases q : j < i
    · rw [_root_.if_pos q, _root_.if_pos (by omega)]
    · rw [_root_.if_neg q, _root_.if_neg e, _root_.if_neg (by omega)]
      split <;> rfl
theorem fil_last (t : List (List Int)) (v : List Int) : fil t v t.length 0 = mv t v := by
  unfold fil mv
  exact row_congr _ _ _ (fun j hj => by rw [_root_.if_pos hj])
theorem fil_first (t : List (List Int)) (v : List Int) : fil t v 0 0 = List.replicate t.length 0 := by
  rw [row_replicate]; unfold fil
  exact row_congr _ _ _ (fun j hj => by rw [_root_.if_neg (by omega)]; split <;> rfl)
theorem fil_length (t : List (List Int)) (v : List Int) (i k : Nat) : (fil t v i k).length = t.length := row_length _ _
theorem implIL_loop (t : List (List Int)) (n : Nat) (hn : n ≤ 1000) (hL : t.length ≤ 1000) (hT : ∀ i : Nat, i < t.length → (rd_L1 t (i : Int)).length = t.length) :
    ∀ i, i ≤ n → ∀ v : List Int, v.length = t.length → Ev (fun k => impl_ImageLengths.l1 k t v (n : Int) (i : Int)) (pw t (n - i) v, true) := by
  have l3 : ∀ (i j : Nat) (v : List Int) (R : List Int × Bool), j < t.length → v.length = t.length → Ev (fun k => impl_ImageLengths.l2 k t v (fil t v (j + 1) 0) (n : Int) (i : Int) t (t.length : Int) ((j + 1 : Nat) : Int)) R →
      ∀ y, y ≤ t.length → Ev (fun k => impl_ImageLengths.l3 k t v (fil t v j y) (j : Int) (n : Int) (i : Int) t (t.length : Int) (j : Int) (rd_L1 t (j : Int)) ((rd_L1 t (j : Int)).length : Int) (y : Int)) R := by
    intro i j v R hj hv h0
    refine down t.length ?_ ?_
    · rw [fil_next t v j hj]
      refine Ev.step (fun k => by simp only [impl_ImageLengths.l3]; rw [_root_.if_neg (by rw [hT j hj]; omega), wsucc (by omega)]) h0
    · intro y hy ih
      refine Ev.step (fun k => by
        simp only [impl_ImageLengths.l3]
        rw [_root_.if_pos (by rw [hT j hj]; omega), _root_.if_pos (by omega), _root_.if_pos (by rw [hT j hj]; omega), _root_.if_pos (by omega), _root_.if_pos (by rw [fil_length]; omega), _root_.if_pos (by omega), fil_set t v j y hj, wsucc (by omega)]) ih
  have l2 : ∀ (i : Nat) (v : List Int) (R : List Int × Bool), i < n → v.length = t.length → Ev (fun k => impl_ImageLengths.l1 k t (mv t v) (n : Int) ((i + 1 : Nat) : Int)) R →
      ∀ j, j ≤ t.length → Ev (fun k => impl_ImageLengths.l2 k t v (fil t v j 0) (n : Int) (i : Int) t (t.length : Int) (j : Int)) R := by
    intro i v R hi hv h0
    refine down t.length ?_ ?_
    · rw [fil_last]
      refine Ev.step (fun k => by simp only [impl_ImageLengths.l2]; rw [_root_.if_neg (by omega), wsucc (by omega)]) h0
    · intro j hj ih
      refine Ev.step (fun k => by simp only [impl_ImageLengths.l2]; rw [_root_.if_pos (by omega), _root_.if_pos (by omega), _root_.if_pos (by omega)]) ?_
      exact l3 i j v R hj hv ih 0 (by omega)
  refine down n ?_ ?_
  · intro v hv
    refine Ev.step (fun k => by simp only [impl_ImageLengths.l1]; rw [_root_.if_neg (by omega)]) ?_
    rw [Nat.sub_self]; exact Ev.some _
  · intro i hi ih v hv
    refine Ev.step (fun k => by simp only [impl_ImageLengths.l1]; rw [_root_.if_pos (by omega), _root_.if_pos (by omega), _root_.if_pos (by omega), Int.toNat_natCast, hv, ← fil_first t v]) ?_
    have := ih (mv t v) (mv_len t v)
    rw [show n - i = (n - (i + 1)) + 1 from by omega]
    exact l2 i v _ hi hv this 0 (by omega)
theorem implIL_ev (ms : List (List Int)) (a1 : Int) (h : ms.length ≤ 1048576) (ht : total ms ≤ 1048576) : Ev (fun k => impl_ImageLengths.f k ms a1) (il ms a1) := by
  have hi := implInc_ev ms h ht
  have hT := inc_rows ms
  have hl := (inc_len ms).1
  unfold impl_ImageLengths.f il
  refine Ev.bind hi ?_
  generalize inc ms = t at hT hl
  dsimp only
  have bad : ¬ (mo ms = true ∧ 0 ≤ a1 ∧ a1 ≤ 12) → Ev (fun k => impl_ImageLengths.j0 k a1 t true) (if mo ms = true ∧ 0 ≤ a1 ∧ a1 ≤ 12 then (pw t a1.toNat (ones t.length), true) else ([], false)) := fun q => by
    rw [_root_.if_neg q]
    refine Ev.step (fun k => by simp only [impl_ImageLengths.j0]; rw [_root_.if_pos trivial]) ?_
    exact Ev.some _
  refine Ev.ite (fun q1 => ?_) (fun q1 => bad (fun h => q1 h.1))
  refine Ev.ite (fun q2 => bad (fun h => by omega)) (fun q2 => ?_)
  by_cases q3 : a1 > 12
  · rw [decide_eq_true q3]; exact bad (fun h => by omega)
  · rw [decide_eq_false q3, _root_.if_pos ⟨q1, by omega, by omega⟩]
    obtain ⟨n, rfl⟩ : ∃ n : Nat, a1 = (n : Int) := ⟨a1.toNat, by omega⟩
    refine Ev.step (fun k => by simp only [impl_ImageLengths.j0]; rw [_root_.if_neg (by simp), _root_.if_pos (by omega), _root_.if_pos (by omega), Int.toNat_natCast]) ?_
    refine Ev.bind (Ev.some _) ?_
    rw [List.length_replicate, Int.toNat_natCast]
    have key : ∀ i, i ≤ t.length → Ev (fun k => impl_ImageLengths.l0 k (n : Int) t (row t.length fun j => if j < i then 1 else 0) (t.length : Int) (i : Int)) (pw t n (ones t.length), true) := by
      refine down t.length ?_ ?_
      · refine Ev.step (fun k => by simp only [impl_ImageLengths.l0]; rw [_root_.if_neg (by omega)]) ?_
        have e : (row t.length fun j => if j < t.length then (1 : Int) else 0) = ones t.length := row_congr _ _ _ (fun j hj => _root_.if_pos hj)
        rw [e]
        have := implIL_loop t n (by omega) (by omega) hT 0 (by omega) (ones t.length) (by unfold ones; rw [row_length])
        rw [Nat.sub_zero] at this; exact this
      · intro i hi ih
        have e : (row t.length fun j => if j < i then (1 : Int) else 0).set i 1 = row t.length fun j => if j < i + 1 then (1 : Int) else 0 := by
          rw [row_set]
          refine row_congr _ _ _ (fun j hj => ?_)
          by_cases e : j = i
          · rw [_root_.if_pos e, _root_.if_pos (by omega)]
          · rw [_root_.if_neg e]
            by_cases q : j < i
            · rw [_root_.if_pos q, _root_.if_pos (by omega)]
            · rw [_root_.if_neg q, _root_.if_neg (by omega)]
        refine Ev.step (fun k => by simp only [impl_ImageLengths.l0]; rw [_root_.if_pos (by omega), _root_.if_pos (by omega), _root_.if_pos (by rw [row_length]; omega), wsucc (by omega), Int.toNat_natCast, e]) ih
    have := key 0 (by omega)
    have e : (row t.length fun j => if j < 0 then (1 : Int) else 0) = List.replicate t.length 0 := by rw [row_replicate]; exact row_congr _ _ _ (fun j _ => by simp)
    rw [e] at this
    exact this
end Go.Proofs.Ytooamcjgejajeaa.M
/- The law of ImageLengths: program and reference tell the same lengths, and what is handed back is its own. No condition. -/

namespace Go.Proofs.Ytooamcjgejajeaa.M
open Go.RowKit Go.Proofs.YtooamcjgejajeaaW.PrintWords Go.Proofs.Ytooamcjgejajeaa.K
set_option linter.unusedVariables false
theorem lawIL (w : World) (A : Option Addr) (c : Nat) (l : List (List Int)) (hr : Kd.C (Kd.slice 3 (Kd.int .i64)) w A l.length l) (hc : l.length ≤ c) (hm : l.length ≤ maxLen) (hx : ∀ x ∈ l, x.length ≤ maxLen ∧ ∀ y ∈ x, (Lit.int .i64 y).wf = true) (a1 : Int) (_ : (Lit.int .i64 a1).wf = true) :
    Calls Try.prog 6 #[.agg #[.slice A l.length c], .int .i64 a1] w fun e w' => e = .returned (.bool true) ∧ Below w.heap.size w w' := by
  have hz := szMorphism_ev l hm (fun x hx' => (hx x hx').1)
  by_cases q : (1048576 : Int) < l.length + total l
  · rw [_root_.if_pos q] at hz
    exact FnExactImageLengths_big0 A c l a1 (-1) (by omega) w hr hc hz
  · rw [_root_.if_neg q] at hz
    have h1 : l.length ≤ 1048576 := by omega
    have h2 : total l ≤ 1048576 := by omega
    have hb := il_len l a1
    have he := eqIntS_ev (il l a1).1 (il l a1).1 (by omega)
    rw [decide_eq_true rfl] at he
    exact FnExactImageLengths_walk A c l a1 (il l a1).1 (il l a1).2 _ (by omega) w hr hc (by omega) (by omega) (by omega) hz (toMorphism_ev l h1 h2) (specIL_ev l a1 h1 h2) (implIL_ev l a1 h1 h2) he (eqMorphism_ev l h1 h2) (markIntS_ev _ 1 (by omega) (by omega)) (heldIntS_ev _ 1 (by omega) (by omega))
end Go.Proofs.Ytooamcjgejajeaa.M
