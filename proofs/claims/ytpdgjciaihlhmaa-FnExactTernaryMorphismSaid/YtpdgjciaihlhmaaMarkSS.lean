/- markIntSS, walked: it lays the marks m, m + 1, .. into the places of rows that share no memory. Condition: the rows are the call's own, apart from each other, and the marks fit. -/
import Derived.Test.YtpdgjciaihlhmaaIntSS
import Derived.Lib.Hide
import Derived.Test.YtpdgjciaihlhmaaM10
namespace Go.Proofs.Ytpdgjciaihlhmaa.M
open Go.RowKit Go.Proofs.YtpdgjciaihlhmaaW.PrintWords Go.Proofs.YtpdgjciaihlhmaaW.PrintLast Go.Proofs.YtpdgjciaihlhmaaW.PrintMore Go.Proofs.Ytpdgjciaihlhmaa.K
set_option linter.unusedVariables false
set_option linter.unusedSimpArgs false

def marksS : List (List Int) → Int → List (List Int)
  | [], _ => []
  | x :: xs, m => marks x.length m :: marksS xs (m + x.length)
theorem marks_length (n : Nat) (m : Int) : (marks n m).length = n := by unfold marks; rw [row_length]
theorem marksS_append (xs ys : List (List Int)) (m : Int) : marksS (xs ++ ys) m = marksS xs m ++ marksS ys (m + total xs) := by
  induction xs generalizing m with
  | nil => simp [marksS, total]
  | cons x xs ih => simp only [List.cons_append, marksS, ih, total]; rw [show m + (x.length : Int) + (total xs : Int) = m + ((x.length + total xs : Nat) : Int) from by omega]
theorem marksS_length (xs : List (List Int)) (m : Int) : (marksS xs m).length = xs.length := by
  induction xs generalizing m with
  | nil => rfl
  | cons x xs ih => simp [marksS, ih]
/-- The rows when the first i are marked. -/
def half (xs : List (List Int)) (m : Int) (i : Nat) : List (List Int) := marksS (xs.take i) m ++ xs.drop i
theorem half_length (xs : List (List Int)) (m : Int) (i : Nat) (h : i ≤ xs.length) : (half xs m i).length = xs.length := by
  unfold half; rw [List.length_append, marksS_length, List.length_take, List.length_drop]; omega
theorem half_at (xs : List (List Int)) (m : Int) (i : Nat) (h : i < xs.length) : (half xs m i).getD i [] = xs[i] := by
  unfold half
  rw [List.getD_eq_getElem?_getD, List.getElem?_append_right (by rw [marksS_length, List.length_take]; omega), marksS_length, List.length_take, List.getElem?_drop,
    show i + (i - min i xs.length) = i from by omega, List.getElem?_eq_getElem h]
  rfl
theorem half_set (xs : List (List Int)) (m : Int) (i : Nat) (h : i < xs.length) : (half xs m i).set i (marks xs[i].length (m + total (xs.take i))) = half xs m (i + 1) := by
  unfold half
  rw [take_succ xs i h, marksS_append, drop_eq xs i h, List.set_append_right _ _ (by rw [marksS_length, List.length_take]; omega), marksS_length, List.length_take,
    show i - min i xs.length = 0 from by omega]
  simp only [marksS, List.set_cons_zero, List.append_assoc, List.cons_append, List.nil_append]
theorem half_zero (xs : List (List Int)) (m : Int) : half xs m 0 = xs := by simp [half, marksS]
theorem half_all (xs : List (List Int)) (m : Int) : half xs m xs.length = marksS xs m := by simp [half]

/-- The state of the loop. -/
def MarkRel (P0_ : Nat → Prop) (v : Value) (xs : List (List Int)) (m : Int) (w0 w wr : World) (k : Nat) : Prop :=
  Kd.S (Kd.slice 3 (Kd.int .i64)) 31 wr w0.heap.size P0_ v (half xs m k) ∧ Below w0.heap.size w0 wr ∧ Kept w wr P0_

/-- One round: row k lent, marked, and taken back. -/
theorem mark_round (P0_ : Nat → Prop) (A : Option Addr) (c : Nat) (xs : List (List Int)) (m : Int) (w0 w wr : World) (k : Nat) (hk : k < xs.length) (h : MarkRel P0_ (.slice A xs.length c) xs m w0 w wr k) :
    ∃ (ad : Addr) (A0 : Option Addr) (c0 : Nat) (oki : Nat → Prop), A = some ad ∧ wr.cell? (ad.add k) = some (.slice A0 xs[k].length c0) ∧ Kd.R (Kd.int .i64) 3 wr w0.heap.size oki (.slice A0 xs[k].length c0) xs[k] ∧ Below w0.heap.size w0 wr ∧
      ∀ w1, Kd.R (Kd.int .i64) 3 w1 w0.heap.size (fun j => oki j ∨ wr.heap.size ≤ j) (.slice A0 xs[k].length c0) (marks xs[k].length (m + total (xs.take k))) → Below w0.heap.size w0 w1 → Kept wr w1 (fun j => oki j) → MarkRel P0_ (.slice A xs.length c) xs m w0 w w1 (k + 1) := by
  obtain ⟨hS, hB, hK⟩ := h
  have hlen := half_length xs m k (by omega)
  have hpos : 0 < (half xs m k).length := by omega
  obtain ⟨g, cap, he, hbg, hgl, _⟩ := Kd.S_form hS hpos
  injection he with ha hn hc
  subst ha hc
  obtain ⟨oki, cs, hcl, hM, hcc, hfr, hoki, hH⟩ := Kd.S_elem hS [] (k : Int) (by omega) (by omega)
  obtain ⟨vi, rfl, hR⟩ := hM
  rw [Int.toNat_natCast, half_at xs m k hk] at hR
  obtain ⟨A0, c0, rfl⟩ := Kd.R_slice hR
  have h0 := hcc 0 _ rfl
  rw [Int.toNat_natCast] at h0
  have ha : (⟨g, 0, none⟩ : Addr).add k = ⟨g, k, none⟩ := by rw [add_at, Nat.zero_add]
  refine ⟨⟨g, 0, none⟩, A0, c0, oki, rfl, ?_, hR, hB, fun w1 hR1 hB1 hK1 => ⟨?_, hB1, ?_⟩⟩
  · rw [ha]
    simpa [Kd.slice] using h0
  · have hH1 := Kd.H_kept hH hK1 (fun j _ hj hs => hj hs)
    have hR2 : Kd.R (Kd.int .i64) 3 w1 w0.heap.size oki (.slice A0 xs[k].length c0) (marks xs[k].length (m + total (xs.take k))) := by
      exact Kd.R_reok rfl hR1 (fun j e => hR.1 j e)
    have := Kd.H_back hH1 (x' := marks xs[k].length (m + total (xs.take k))) (okp := oki) ⟨_, rfl, hR2⟩ (fun _ hj => hj)
    rw [Int.toNat_natCast, half_set xs m k hk] at this
    exact this
  · exact Kept.then_ hK hK1 (fun j hj => .inl (hoki j hj).1)

set_option maxHeartbeats 1000000 in
set_option maxRecDepth 100000 in
theorem markIntSS_calls (P0_ : Nat → Prop) (u : Value) (xs : List (List Int)) (m : Int) (w0 w : World) (hm : 0 ≤ m) (ht : m + total xs < 1000000000000000000) (hl : xs.length < 1000000000000000000)
    (hB : Below w0.heap.size w0 w) (ho0 : Kd.S (Kd.slice 3 (Kd.int .i64)) 31 w w0.heap.size P0_ u xs) :
    Calls Try.prog 39 #[u, .int .i64 m] w fun e w' => e = .returned (.int .i64 (m + total xs)) ∧ Kd.S (Kd.slice 3 (Kd.int .i64)) 31 w' w0.heap.size P0_ u (marksS xs m) ∧ Below w0.heap.size w0 w' ∧ Kept w w' P0_ := by
  obtain ⟨A, c, rfl⟩ := Kd.S_slice ho0
  have H0 : Aside0 (MarkRel P0_ (.slice A xs.length c) xs m w0 w w 0) := ⟨by rw [half_zero]; exact ho0, hB, Kept.refl _ _⟩
  clear ho0 hB
  go_enter Try.func39, Try.ntmps39
  go_wp2
  go_loopw [1, 5] (fun t i wr => ∃ k : Nat, k ≤ xs.length ∧ i = .int .i64 k ∧ t = .int .i64 (m + total (xs.take k)) ∧ Aside0 (MarkRel P0_ (.slice A xs.length c) xs m w0 w wr k))
    (fun _ i _ => xs.length - (intOf i).toNat)
  case atStart => exact ⟨0, Nat.zero_le _, rfl, by simp [total], H0⟩
  case round =>
    obtain ⟨k, hk, rfl, rfl, HS⟩ := hrel
    have htk := total_take_le xs k
    by_cases hlt : k < xs.length
    · obtain ⟨ad, A0, c0, oki, rfl, hcell, hR, hB, hback⟩ := mark_round P0_ A c xs m w0 w wr k hlt HS.out
      have htk1 := total_take xs k hlt
      have htk2 := total_take_le xs (k + 1)
      obtain ⟨r, hr⟩ := (markIntS_ev xs[k] (m + total (xs.take k)) (by omega) (by omega)).rounds
      have HR := Aside0.mk hR
      have HB := Aside0.mk hB
      have HF := Aside0.mk hr
      have HBK := Aside0.mk hback
      have HT := Aside0.mk htk1
      have hx : xs[k].length < 1000000000000000000 := by omega
      clear hR hB hr hback HS htk1 H0
      generalize xs[k] = x at *
      go_wp2_with (go_at_call 28; refine (laws_markIntS.calls r oki _ x _ _ _ w0 _ HB.out HR.out HF.out).mono ?_; rintro e w1 ⟨rfl, hb1, hb2, hb3⟩; have HH := Aside0.mk (HBK.out w1 hb1 hb2 hb3); clear hb1 hb2 hb3 HR HB HBK)
      go_roundw
      case rel => exact ⟨k + 1, by omega, by go_num, by rw [HT.out]; go_num, HH⟩
      case measure => simp [intOf]; omega
    · have e : k = xs.length := by omega
      subst e
      rw [List.take_length] at *
      go_wp2
      go_ret
      have h := HS.out
      exact ⟨rfl, by have := h.1; rwa [half_all] at this, h.2.1, h.2.2⟩
end Go.Proofs.Ytpdgjciaihlhmaa.M
