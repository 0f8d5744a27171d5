/- Sums of powers of the program and of the reference: both come to the same rows. No condition but lengths that fit. -/
import Derived.Test.YtpdgjciaihlhmaaK
import Derived.Test.YtpdgjciaihlhmaaM1
import Derived.Test.YtpdgjciaihlhmaaM20
import Derived.Test.YtpdgjciaihlhmaaM21
import Derived.Test.YtpdgjciaihlhmaaM23
import Derived.Test.YtpdgjciaihlhmaaM24
import Derived.Test.YtpdgjciaihlhmaaM25
namespace Go.Proofs.Ytpdgjciaihlhmaa.M
open Go.RowKit Go.Proofs.YtpdgjciaihlhmaaW.PrintWords Go.Proofs.Ytpdgjciaihlhmaa.K

def small (x : Int) : Bool := decide (-200 ≤ x) && decide (x ≤ 200)
def fine (l : List Int) : Bool := decide (l.length ≤ 81) && l.all small
def pw (x : Int) : Nat → Int
  | 0 => 1
  | n + 1 => wrap64 (pw x n * x)
def S (l : List Int) (k : Nat) : Int := l.foldl (fun s x => wrap64 (s + pw x k)) 0
def PS (l : List Int) (a : Int) : List Int × Bool := if fine l = true ∧ 0 ≤ a ∧ a ≤ 6 then (row (a.toNat + 1) (S l), true) else ([], false)

theorem S_take (l : List Int) (i k : Nat) (h : i < l.length) : S (l.take (i + 1)) k = wrap64 (S (l.take i) k + pw l[i] k) := by
  unfold S; rw [take_succ l i h, List.foldl_append]; rfl

theorem fine_ev (l : List Int) (h : l.length < 9223372036854775807) : Ev (fun k => spec_l32Fine.f k l) (fine l) := by
  have key : ∀ i, i ≤ l.length → Ev (fun k => spec_l32Fine.l0 k l (i : Int)) (decide (l.length ≤ 81) && (l.drop i).all small) := by
    refine down l.length ?_ ?_
    · refine Ev.step (fun k => by simp only [spec_l32Fine.l0]; rw [_root_.if_neg (by omega)]) ?_
      refine Ev.same (Ev.some _) ?_
      rw [List.drop_length]; simp only [List.all_nil, Bool.and_true]; exact decide_eq_decide.2 (by omega)
    · intro i hi ih
      refine Ev.step (fun k => by simp only [spec_l32Fine.l0]; rw [_root_.if_pos (by omega), _root_.if_pos (by omega), wsucc (by omega), rd_get l i hi]) ?_
      rw [drop_eq l i hi, List.all_cons]
      have e : spec_l1In.f l[i] (-200) 200 = some (small l[i]) := by
        unfold spec_l1In.f small
        by_cases q : l[i] ≥ -200
        · rw [_root_.if_pos q]; simp [q]
        · rw [_root_.if_neg q]; simp; try omega
      refine Ev.bind (Ev.val e) ?_
      refine Ev.ite (fun q => ?_) (fun q => ?_)
      · rw [q]; simpa using ih
      · refine Ev.same (Ev.some _) ?_
        have q' : small l[i] = false := by simpa using q
        rw [q']; simp
  have := key 0 (by omega)
  unfold spec_l32Fine.f
  exact this

theorem numbers_ev (l : List Int) (h : l.length < 9223372036854775807) : Ev (fun k => impl_areNumbers.f k l) (fine l) := by
  unfold impl_areNumbers.f
  refine Ev.ite (fun q => ?_) (fun q => ?_)
  · refine Ev.same (Ev.some _) ?_
    unfold fine; rw [decide_eq_false (by omega)]; rfl
  · have key : ∀ i, i ≤ l.length → Ev (fun k => impl_areNumbers.l0 k l (l.length : Int) (i : Int)) ((l.drop i).all small) := by
      refine down l.length ?_ ?_
      · refine Ev.step (fun k => by simp only [impl_areNumbers.l0]; rw [_root_.if_neg (by omega)]) ?_
        refine Ev.same (Ev.some _) ?_
        rw [List.drop_length]; rfl
      · intro i hi ih
        refine Ev.step (fun k => by simp only [impl_areNumbers.l0]; rw [_root_.if_pos (by omega), _root_.if_pos (by omega), _root_.if_pos (by omega), wsucc (by omega), rd_get l i hi]) ?_
        rw [drop_eq l i hi, List.all_cons]
        refine Ev.ite (fun q => ?_) (fun q => Ev.ite (fun q' => ?_) (fun q' => ?_))
        · refine Ev.same (Ev.some _) ?_; unfold small; rw [decide_eq_false (by omega)]; rfl
        · refine Ev.same (Ev.some _) ?_; unfold small; rw [decide_eq_false (by omega : ¬ l[i] ≤ 200)]; simp
        · refine Ev.same ih ?_; unfold small; rw [decide_eq_true (by omega), decide_eq_true (by omega)]; simp
    refine Ev.same (key 0 (by omega)) ?_
    unfold fine; rw [decide_eq_true (by omega)]; rfl

theorem power_ev (x : Int) (n : Nat) (h : n < 100) : Ev (fun k => impl_power.f k x (n : Int)) (pw x n) := by
  have key : ∀ i, i ≤ n → Ev (fun k => impl_power.l0 k x (pw x i) (n : Int) (i : Int)) (pw x n) := by
    refine down n ?_ ?_
    · exact Ev.step (fun k => by simp only [impl_power.l0]; rw [_root_.if_neg (by omega)]) (Ev.some _)
    · intro i hi ih
      exact Ev.step (fun k => by simp only [impl_power.l0]; rw [_root_.if_pos (by omega), wsucc (by omega), ← show pw x (i + 1) = wrap64 (pw x i * x) from rfl]) ih
  unfold impl_power.f
  exact key 0 (by omega)

theorem spec_ev (l : List Int) (a : Int) (h : l.length ≤ 1048576) : Ev (fun k => spec_PowerSums.f k l a) (PS l a) := by
  unfold spec_PowerSums.f
  refine Ev.congr (fun k => Option.bind_some _ _) ?_
  refine Ev.bind (fine_ev l (by omega)) ?_
  have no : ¬ (fine l = true ∧ 0 ≤ a ∧ a ≤ 6) → Ev (fun k => spec_PowerSums.j0 k l a [] true) (PS l a) := by
    intro q
    refine Ev.step (fun k => by simp only [spec_PowerSums.j0]; rw [_root_.if_pos trivial]) ?_
    refine Ev.same (Ev.some _) ?_
    unfold PS; rw [_root_.if_neg q]
  refine Ev.ite (fun hf => ?_) (fun hf => no (fun q => hf q.1))
  have e : spec_l1In.f a 0 6 = some (decide (0 ≤ a ∧ a ≤ 6)) := by
    unfold spec_l1In.f
    by_cases q : a ≥ 0
    · rw [_root_.if_pos q]; simp [q]
    · rw [_root_.if_neg q]; simp; try omega
  refine Ev.bind (Ev.val e) ?_
  by_cases hb : 0 ≤ a ∧ a ≤ 6
  · rw [decide_eq_true hb]
    obtain ⟨m, rfl⟩ : ∃ m : Nat, a = (m : Int) := ⟨a.toNat, by omega⟩
    refine Ev.step (fun k => by simp only [spec_PowerSums.j0]; rw [_root_.if_neg (by decide)]) ?_
    have inner : ∀ (out : List Int) (kk i : Nat) (s : Int) (r : List Int × Bool) (hi : i < l.length), kk ≤ 6 →
        Ev (fun k => spec_PowerSums.l1 k l (m : Int) out (kk : Int) (wrap64 (s + pw l[i] kk)) ((i + 1 : Nat) : Int)) r → ∀ n, n ≤ kk →
        Ev (fun k => spec_PowerSums.l2 k l (m : Int) out (kk : Int) s (i : Int) (pw l[i] n) (n : Int)) r := by
      intro out kk i s r hi hk hr
      refine down kk ?_ ?_
      · refine Ev.step (fun k => by simp only [spec_PowerSums.l2]; rw [_root_.if_neg (by omega), wsucc (by omega)]) hr
      · intro n hn ih
        refine Ev.step (fun k => by simp only [spec_PowerSums.l2]; rw [_root_.if_pos (by omega), _root_.if_pos (by omega), _root_.if_pos (by omega), wsucc (by omega), rd_get l i hi, ← show pw l[i] (n + 1) = wrap64 (pw l[i] n * l[i]) from rfl]) ih
    have mid : ∀ (out : List Int) (kk : Nat) (r : List Int × Bool), kk ≤ 6 → out.length ≤ 6 →
        Ev (fun k => spec_PowerSums.l0 k l (m : Int) (out ++ [S l kk]) ((kk + 1 : Nat) : Int)) r → ∀ i, i ≤ l.length →
        Ev (fun k => spec_PowerSums.l1 k l (m : Int) out (kk : Int) (S (l.take i) kk) (i : Int)) r := by
      intro out kk r hk ho hr
      refine down l.length ?_ ?_
      · refine Ev.step (fun k => by simp only [spec_PowerSums.l1]; rw [_root_.if_neg (by omega), _root_.if_pos (by omega), wsucc (by omega), List.take_length]) hr
      · intro i hi ih
        refine Ev.step (fun k => by simp only [spec_PowerSums.l1]; rw [_root_.if_pos (by omega)]) ?_
        refine inner out kk i _ r hi hk ?_ 0 (by omega)
        rw [← S_take l i kk hi]; exact ih
    have outer : ∀ kk, kk ≤ m + 1 → Ev (fun k => spec_PowerSums.l0 k l (m : Int) (row kk (S l)) (kk : Int)) (row (m + 1) (S l), true) := by
      refine down (m + 1) ?_ ?_
      · exact Ev.step (fun k => by simp only [spec_PowerSums.l0]; rw [_root_.if_neg (by omega)]) (Ev.some _)
      · intro kk hk ih
        refine Ev.step (fun k => by simp only [spec_PowerSums.l0]; rw [_root_.if_pos (by omega)]) ?_
        refine mid _ kk _ (by omega) (by rw [row_length]; omega) ?_ 0 (by omega)
        rw [← row_succ]; exact ih
    refine Ev.same (outer 0 (by omega)) ?_
    unfold PS; rw [_root_.if_pos ⟨hf, hb⟩]; rfl
  · rw [decide_eq_false hb]; exact no (fun q => hb q.2)

theorem impl_ev (l : List Int) (a : Int) (h : l.length ≤ 1048576) : Ev (fun k => impl_PowerSums.f k l a) (PS l a) := by
  unfold impl_PowerSums.f
  refine Ev.bind (numbers_ev l (by omega)) ?_
  have no : ¬ (fine l = true ∧ 0 ≤ a ∧ a ≤ 6) → Ev (fun k => impl_PowerSums.j0 k l a true) (PS l a) := by
    intro q
    refine Ev.step (fun k => by simp only [impl_PowerSums.j0]; rw [_root_.if_pos trivial]) ?_
    refine Ev.same (Ev.some _) ?_
    unfold PS; rw [_root_.if_neg q]
  refine Ev.ite (fun hf => Ev.ite (fun h0 => no (fun q => by omega)) (fun h0 => ?_)) (fun hf => no (fun q => hf q.1))
  by_cases h6 : a > 6
  · rw [decide_eq_true h6]; exact no (fun q => by omega)
  · rw [decide_eq_false h6]
    obtain ⟨m, rfl⟩ : ∃ m : Nat, a = (m : Int) := ⟨a.toNat, by omega⟩
    refine Ev.step (fun k => by simp only [impl_PowerSums.j0]; rw [_root_.if_neg (by decide), wsucc (by omega), _root_.if_pos (by omega), Int.toNat_natCast, _root_.if_pos (by omega), row_replicate]) ?_
    have inner : ∀ (i : Nat) (r : List Int × Bool) (hi : i < l.length) (j : Nat), j ≤ m + 1 → ∀ f : Nat → Int,
        Ev (fun k => impl_PowerSums.l0 k (row (m + 1) (fun q => if j ≤ q then wrap64 (f q + pw l[i] q) else f q)) l (l.length : Int) ((i + 1 : Nat) : Int)) r →
        Ev (fun k => impl_PowerSums.l1 k (row (m + 1) f) l[i] l (l.length : Int) (i : Int) ((m + 1 : Nat) : Int) (j : Int)) r := by
      intro i r hi
      refine down (m + 1) ?_ ?_
      · intro f hr
        refine Ev.step (fun k => by simp only [impl_PowerSums.l1]; rw [_root_.if_neg (by omega), wsucc (by omega)]) ?_
        have e : row (m + 1) f = row (m + 1) (fun q => if m + 1 ≤ q then wrap64 (f q + pw l[i] q) else f q) := row_congr _ _ _ (fun q hq => (_root_.if_neg (by omega)).symm)
        rw [e]; exact hr
      · intro j hj ih f hr
        refine Ev.step (fun k => by simp only [impl_PowerSums.l1]; rw [_root_.if_pos (by omega), _root_.if_pos (by omega), _root_.if_pos (by rw [row_length]; omega)]) ?_
        refine Ev.bind (power_ev l[i] j (by omega)) ?_
        refine Ev.congr (fun k => by rw [wsucc (by omega), Int.toNat_natCast, rd_row _ _ _ hj, row_set]) (ih _ ?_)
        rw [row_congr (m + 1) _ (fun q => if j ≤ q then wrap64 (f q + pw l[i] q) else f q) ?_]
        · exact hr
        · intro q hq
          by_cases e : q = j
          · subst e; rw [_root_.if_neg (by omega), _root_.if_pos rfl, _root_.if_pos (by omega)]
          · by_cases e2 : j + 1 ≤ q
            · rw [_root_.if_pos e2, _root_.if_neg e, _root_.if_pos (by omega)]
            · rw [_root_.if_neg e2, _root_.if_neg e, _root_.if_neg (by omega)]
    have outer : ∀ i, i ≤ l.length → Ev (fun k => impl_PowerSums.l0 k (row (m + 1) (S (l.take i))) l (l.length : Int) (i : Int)) (row (m + 1) (S l), true) := by
      refine down l.length ?_ ?_
      · refine Ev.step (fun k => by simp only [impl_PowerSums.l0]; rw [_root_.if_neg (by omega), List.take_length]) (Ev.some _)
      · intro i hi ih
        refine Ev.step (fun k => by simp only [impl_PowerSums.l0]; rw [_root_.if_pos (by omega), _root_.if_pos (by omega), _root_.if_pos (by omega), rd_get l i hi, row_length]) ?_
        refine inner i _ hi 0 (by omega) _ ?_
        rw [row_congr (m + 1) _ (S (l.take (i + 1))) (fun q hq => by rw [_root_.if_pos (by omega), S_take l i q hi])]; exact ih
    refine Ev.same (outer 0 (by omega)) ?_
    unfold PS; rw [_root_.if_pos ⟨hf, by omega, by omega⟩]; rfl
theorem PS_length (l : List Int) (a : Int) : (PS l a).1.length ≤ 7 := by
  unfold PS; split
  · rename_i q; rw [row_length]; omega
  · simp
end Go.Proofs.Ytpdgjciaihlhmaa.M
