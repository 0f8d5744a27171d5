/- Texts of the claim on FnPatterns, joined (part 1 of 6): walks of the functions, what they come to, and in the last part the row. No condition of mine. -/
import Derived.Test.YthkkpdgadfhijaaBFnPatterns0
import Derived.Test.YthkkpdgadfhijaaProg
import Derived.Below
import Derived.Deep.Draws
import Derived.Deep.AppendLies
import Derived.Maps.AppendAt
import Derived.OwnWalk
import Derived.Laws.BytesArg
import Derived.Laws.MakeOwn
import Derived.Laws.OwnMore
import Derived.Deep.OwnRows
import Derived.Tactics
import Derived.Lib.ConvBytes
import Derived.Laws.Slices
import Derived.WalkKit
import Derived.KernelRfl
import Derived.RowKit3
import Derived.Deep.LoopGhost
import Derived.Deep.QuietTactic
import Derived.BigQuiet
import Derived.WideLaws
import Derived.Deep.DeepCutAuto
import Derived.Deep.CutBlock
import Derived.Deep.RegionHeld3
import Derived.Laws.Rows
import Derived.Lib.AppendStr
import Derived.ArgAppend
import Derived.Laws.IdiomCopy
import Derived.OrdersHeld
import Derived.Laws.BitsLemmas
import Derived.RowKit
/- Plain lemmas on rounds, lists and whole numbers, with no program in sight. No condition. -/
namespace Go.Proofs.Ythkkpdgadfhijaa.K
open Go.RowKit Go.Proofs.YthkkpdgadfhijaaW.PrintWords
/-- Induction downwards from n. -/
theorem down {P : Nat → Prop} (n : Nat) (h0 : P n) (hs : ∀ i, i < n → P (i + 1) → P i) : ∀ i, i ≤ n → P i := by
 intro i hi; obtain ⟨d, rfl⟩ : ∃ d, n = i + d := ⟨n - i, by omega⟩; clear hi
 induction d generalizing i with
 | zero => exact h0
 | succ d ih =>
  refine hs i (by omega) ?_; refine ih (i + 1) ?_ ?_
  ·rw [show i + 1 + d = i + (d + 1) from by omega]; exact h0
  ·intro j hj; exact hs j (by omega)
theorem wsucc {i : Nat} (h : i < 9223372036854775807) : wrap64 ((i : Int) + 1) = ((i + 1 : Nat) : Int) := by
 unfold wrap64; omega
theorem w_id {a : Int} (h1 : -9223372036854775808 ≤ a) (h2 : a ≤ 9223372036854775807) : wrap64 a = a := by
 unfold wrap64; omega
theorem rd_at (xs : List Int) (i : Nat) : rd xs (i : Int) = xs.getD i 0 := by simp [rd]
theorem rd_get (xs : List Int) (i : Nat) (h : i < xs.length) : rd xs (i : Int) = xs[i] := by
 rw [rd_at, List.getD_eq_getElem?_getD, List.getElem?_eq_getElem h]; rfl
theorem rdOf_get {α : Type} (d : α) (xs : List α) (i : Nat) (h : i < xs.length) : rdOf d xs (i : Int) = xs[i] := by
 unfold rdOf; rw [Int.toNat_natCast, List.getD_eq_getElem?_getD, List.getElem?_eq_getElem h]; rfl
theorem Ev.some {α : Type} (r : α) : Ev (fun _ => Option.some r) r := Ev.now r
theorem Ev.val {α : Type} {x : Option α} {r : α} (h : x = Option.some r) : Ev (fun _ => x) r := ⟨0, fun _ _ => h⟩
theorem Ev.if_pos {α : Type} {c : Prop} [Decidable c] {f g : Nat → Option α} {r : α} (h : c) (k : Ev f r) : Ev (fun n => if c then f n else g n) r :=
 Ev.congr (fun _ => _root_.if_pos h) k
theorem Ev.if_neg {α : Type} {c : Prop} [Decidable c] {f g : Nat → Option α} {r : α} (h : ¬ c) (k : Ev g r) : Ev (fun n => if c then f n else g n) r :=
 Ev.congr (fun _ => _root_.if_neg h) k
theorem Ev.ite {α : Type} {c : Prop} [Decidable c] {f g : Nat → Option α} {r : α} (h1 : c → Ev f r) (h2 : ¬ c → Ev g r) : Ev (fun n => if c then f n else g n) r := by
 by_cases h : c
 ·exact Ev.if_pos h (h1 h)
 ·exact Ev.if_neg h (h2 h)
theorem Ev.same {α : Type} {g : Nat → Option α} {r q : α} (h : Ev g r) (e : r = q) : Ev g q := e ▸ h
/-- A row told by its places. -/
def row (n : Nat) (f : Nat → Int) : List Int := (List.range n).map f
theorem drop_eq {α : Type} (xs : List α) (i : Nat) (h : i < xs.length) : xs.drop i = xs[i] :: xs.drop (i + 1) := List.drop_eq_getElem_cons h
theorem take_succ {α : Type} (xs : List α) (i : Nat) (h : i < xs.length) : xs.take (i + 1) = xs.take i ++ [xs[i]] := by
 rw [List.take_add_one, List.getElem?_eq_getElem h]; rfl
theorem cons_dec {α : Type} [DecidableEq α] (x y : α) (xs ys : List α) : decide (x :: xs = y :: ys) = (decide (x = y) && decide (xs = ys)) := by
 by_cases h : x = y <;> by_cases k : xs = ys <;> simp [h, k]
def total : List (List Int) → Nat
 | [] => 0
 | x :: xs => x.length + total xs
theorem total_mem (xs : List (List Int)) (x : List Int) (h : x ∈ xs) : x.length ≤ total xs := by
 induction xs with
 | nil => cases h
 | cons y ys ih => 
  rcases List.mem_cons.1 h with rfl | h
  ·simp only [total]; omega
  ·have := ih h; simp only [total]; omega
theorem total_at (xs : List (List Int)) (i : Nat) (h : i < xs.length) : xs[i].length ≤ total xs := total_mem xs _ (List.getElem_mem h)
end Go.Proofs.Ythkkpdgadfhijaa.K
namespace Go.Proofs.Ythkkpdgadfhijaa.M
open Go.RowKit Go.Proofs.YthkkpdgadfhijaaW.PrintWords Go.Proofs.YthkkpdgadfhijaaW.PrintLast Go.Proofs.YthkkpdgadfhijaaW.PrintMore
attribute [local go_sem] max2_int min2_int max_two min_two max_three min_three max_four min_four
set_option linter.unusedVariables false
set_option linter.unusedSimpArgs false
def errW : Option Int → Value
 | none => .nilIface
 | some c => .iface 0 (.int .i64 c)
theorem errW_none : errW none = .nilIface := rfl
theorem errW_some (c : Int) : errW (some c) = .iface 0 (.int .i64 c) := rfl
theorem info3 : (Try.prog.info? 3).map (fun i => (i.zero, i.size, i.bytes)) = some (some (.int .i64 0), 1, 8) := by kernel_rfl
theorem info4 : (Try.prog.info? 4).map (fun i => (i.zero, i.size, i.bytes)) = some (some (.bool false), 1, 1) := by kernel_rfl
theorem info9 : (Try.prog.info? 9).map (fun i => (i.zero, i.size, i.bytes)) = some (some (.string ⟨#[]⟩), 1, 16) := by kernel_rfl
theorem info22 : (Try.prog.info? 22).map (fun i => (i.zero, i.size, i.bytes)) = some (some (.slice none 0 0), 1, 24) := by kernel_rfl
theorem info105 : (Try.prog.info? 105).map (fun i => (i.zero, i.size, i.bytes)) = some (some (.agg #[(.int .i64 0), (.int .i64 0), (.int .i64 0), (.int .i64 0)]), 4, 32) := by kernel_rfl
-- the values' own types
def rd_L2 (xs : List (List Int)) (i : Int) : (List Int) := xs.getD i.toNat ([] : List Int)
theorem at_L2 {w : World} {A : Option Addr} {n : Nat} {xs : List (List Int)} (h : Kd.C (Kd.slice 3 (Kd.int .i64)) w A n xs) (i : Int) (h0 : 0 ≤ i) (h1 : i < n) : ∃ ad A0 c0, A = some ad ∧ w.cell? (ad.add i.toNat) = some (.slice A0 (rd_L2 xs i).length c0) ∧ (rd_L2 xs i).length ≤ c0 ∧ (Kd.int .i64).C w A0 (rd_L2 xs i).length (rd_L2 xs i) := by
 obtain ⟨ad, c, e, _, hK, hc0⟩ := Kd.C_get h ([] : List Int) i h0 h1; have hc : ∀ j u, c[j]? = some u → w.cell? (ad.add (i.toNat * 1 + j)) = some u := hc0; obtain ⟨A0, c0, rfl, l0, g0⟩ := hK; exact ⟨ad, A0, c0, e, by have hq := hc 0 _ rfl; rwa [Nat.mul_one, Nat.add_zero] at hq, l0, g0⟩
/-! #### struct type 128 -/
structure S128 where
 f0 : Int
 f1 : Int
 f2 : Int
 f3 : Int
def z128 : S128 := ⟨(0 : Int), (0 : Int), (0 : Int), (0 : Int)⟩
def k128 : Kd S128 := Kd.iso (Kd.pair (Kd.int .i64) (Kd.pair (Kd.int .i64) (Kd.pair (Kd.int .i64) (Kd.int .i64)))) (fun x : S128 => (x.f0, x.f1, x.f2, x.f3))
theorem k128_heap : Kd.Heap k128 := Kd.heap_iso _ (Kd.heap_pair (Kd.heap_int .i64) (Kd.heap_pair (Kd.heap_int .i64) (Kd.heap_pair (Kd.heap_int .i64) (Kd.heap_int .i64))))
theorem k128_open {w : World} {x : S128} {cs : List Value} (h : k128.K w x cs) : cs = [.int .i64 x.f0, .int .i64 x.f1, .int .i64 x.f2, .int .i64 x.f3] := by
 obtain ⟨_, _, rfl, rfl, ⟨_, _, rfl, rfl, ⟨_, _, rfl, rfl, rfl⟩⟩⟩ := h; exact rfl
theorem k128_openM {w : World} {base : Nat} {ok : Nat → Prop} {x : S128} {cs : List Value} (h : k128.M w base ok x cs) : cs = [.int .i64 x.f0, .int .i64 x.f1, .int .i64 x.f2, .int .i64 x.f3] := by
 obtain ⟨_, _, rfl, rfl, ⟨_, _, rfl, rfl, ⟨_, _, rfl, rfl, rfl⟩⟩⟩ := h; exact rfl
theorem k128_mk (w : World) (x : S128)  : k128.K w x [.int .i64 x.f0, .int .i64 x.f1, .int .i64 x.f2, .int .i64 x.f3] := ⟨[.int .i64 x.f0], [.int .i64 x.f1, .int .i64 x.f2, .int .i64 x.f3], rfl, rfl, ⟨[.int .i64 x.f1], [.int .i64 x.f2, .int .i64 x.f3], rfl, rfl, ⟨[.int .i64 x.f2], [.int .i64 x.f3], rfl, rfl, rfl⟩⟩⟩
theorem k128_mkM (w : World) (base : Nat) (ok : Nat → Prop) (x : S128)  : k128.M w base ok x [.int .i64 x.f0, .int .i64 x.f1, .int .i64 x.f2, .int .i64 x.f3] := ⟨[.int .i64 x.f0], [.int .i64 x.f1, .int .i64 x.f2, .int .i64 x.f3], rfl, rfl, ⟨[.int .i64 x.f1], [.int .i64 x.f2, .int .i64 x.f3], rfl, rfl, ⟨[.int .i64 x.f2], [.int .i64 x.f3], rfl, rfl, rfl⟩⟩⟩
theorem k128_mkF (W : World) (ok : Nat → Prop) (x : S128) : Kd.FK k128 W ok x [.int .i64 x.f0, .int .i64 x.f1, .int .i64 x.f2, .int .i64 x.f3] := fun W2 _ => k128_mk W2 x
def rd_T128 (xs : List S128) (i : Int) : S128 := xs.getD i.toNat z128
theorem at_T128 {w : World} {A : Option Addr} {n : Nat} {xs : List S128} (h : Kd.C k128 w A n xs) (i : Int) (h0 : 0 ≤ i) (h1 : i < n) : ∃ ad , A = some ad ∧ w.cell? (ad.add (i.toNat * 4)) = some (.int .i64 (rd_T128 xs i).f0) ∧ w.cell? ⟨(ad.add (i.toNat * 4)).block, (ad.add (i.toNat * 4)).off + 1, none⟩ = some (.int .i64 (rd_T128 xs i).f1) ∧ w.cell? ⟨(ad.add (i.toNat * 4)).block, (ad.add (i.toNat * 4)).off + 2, none⟩ = some (.int .i64 (rd_T128 xs i).f2) ∧ w.cell? ⟨(ad.add (i.toNat * 4)).block, (ad.add (i.toNat * 4)).off + 3, none⟩ = some (.int .i64 (rd_T128 xs i).f3) := by
 obtain ⟨ad, c, e, _, hK, hc0⟩ := Kd.C_get h z128 i h0 h1; have hc : ∀ j u, c[j]? = some u → w.cell? (ad.add (i.toNat * 4 + j)) = some u := hc0; obtain rfl := k128_open hK; exact ⟨ad, e, hc 0 _ rfl, by rw [← add_field _ _ 1 (by omega)]; exact hc 1 _ rfl, by rw [← add_field _ _ 2 (by omega)]; exact hc 2 _ rfl, by rw [← add_field _ _ 3 (by omega)]; exact hc 3 _ rfl⟩
/-! #### struct type 105 -/
structure S105 where
 f0 : Int
 f1 : Int
 f2 : Int
 f3 : Int
def z105 : S105 := ⟨(0 : Int), (0 : Int), (0 : Int), (0 : Int)⟩
def k105 : Kd S105 := Kd.iso (Kd.pair (Kd.int .i64) (Kd.pair (Kd.int .i64) (Kd.pair (Kd.int .i64) (Kd.int .i64)))) (fun x : S105 => (x.f0, x.f1, x.f2, x.f3))
theorem k105_heap : Kd.Heap k105 := Kd.heap_iso _ (Kd.heap_pair (Kd.heap_int .i64) (Kd.heap_pair (Kd.heap_int .i64) (Kd.heap_pair (Kd.heap_int .i64) (Kd.heap_int .i64))))
theorem k105_open {w : World} {x : S105} {cs : List Value} (h : k105.K w x cs) : cs = [.int .i64 x.f0, .int .i64 x.f1, .int .i64 x.f2, .int .i64 x.f3] := by
 obtain ⟨_, _, rfl, rfl, ⟨_, _, rfl, rfl, ⟨_, _, rfl, rfl, rfl⟩⟩⟩ := h; exact rfl
theorem k105_openM {w : World} {base : Nat} {ok : Nat → Prop} {x : S105} {cs : List Value} (h : k105.M w base ok x cs) : cs = [.int .i64 x.f0, .int .i64 x.f1, .int .i64 x.f2, .int .i64 x.f3] := by
 obtain ⟨_, _, rfl, rfl, ⟨_, _, rfl, rfl, ⟨_, _, rfl, rfl, rfl⟩⟩⟩ := h; exact rfl
theorem k105_mk (w : World) (x : S105)  : k105.K w x [.int .i64 x.f0, .int .i64 x.f1, .int .i64 x.f2, .int .i64 x.f3] := ⟨[.int .i64 x.f0], [.int .i64 x.f1, .int .i64 x.f2, .int .i64 x.f3], rfl, rfl, ⟨[.int .i64 x.f1], [.int .i64 x.f2, .int .i64 x.f3], rfl, rfl, ⟨[.int .i64 x.f2], [.int .i64 x.f3], rfl, rfl, rfl⟩⟩⟩
theorem k105_mkM (w : World) (base : Nat) (ok : Nat → Prop) (x : S105)  : k105.M w base ok x [.int .i64 x.f0, .int .i64 x.f1, .int .i64 x.f2, .int .i64 x.f3] := ⟨[.int .i64 x.f0], [.int .i64 x.f1, .int .i64 x.f2, .int .i64 x.f3], rfl, rfl, ⟨[.int .i64 x.f1], [.int .i64 x.f2, .int .i64 x.f3], rfl, rfl, ⟨[.int .i64 x.f2], [.int .i64 x.f3], rfl, rfl, rfl⟩⟩⟩
theorem k105_mkF (W : World) (ok : Nat → Prop) (x : S105) : Kd.FK k105 W ok x [.int .i64 x.f0, .int .i64 x.f1, .int .i64 x.f2, .int .i64 x.f3] := fun W2 _ => k105_mk W2 x
def rd_T105 (xs : List S105) (i : Int) : S105 := xs.getD i.toNat z105
theorem at_T105 {w : World} {A : Option Addr} {n : Nat} {xs : List S105} (h : Kd.C k105 w A n xs) (i : Int) (h0 : 0 ≤ i) (h1 : i < n) : ∃ ad , A = some ad ∧ w.cell? (ad.add (i.toNat * 4)) = some (.int .i64 (rd_T105 xs i).f0) ∧ w.cell? ⟨(ad.add (i.toNat * 4)).block, (ad.add (i.toNat * 4)).off + 1, none⟩ = some (.int .i64 (rd_T105 xs i).f1) ∧ w.cell? ⟨(ad.add (i.toNat * 4)).block, (ad.add (i.toNat * 4)).off + 2, none⟩ = some (.int .i64 (rd_T105 xs i).f2) ∧ w.cell? ⟨(ad.add (i.toNat * 4)).block, (ad.add (i.toNat * 4)).off + 3, none⟩ = some (.int .i64 (rd_T105 xs i).f3) := by
 obtain ⟨ad, c, e, _, hK, hc0⟩ := Kd.C_get h z105 i h0 h1; have hc : ∀ j u, c[j]? = some u → w.cell? (ad.add (i.toNat * 4 + j)) = some u := hc0; obtain rfl := k105_open hK; exact ⟨ad, e, hc 0 _ rfl, by rw [← add_field _ _ 1 (by omega)]; exact hc 1 _ rfl, by rw [← add_field _ _ 2 (by omega)]; exact hc 2 _ rfl, by rw [← add_field _ _ 3 (by omega)]; exact hc 3 _ rfl⟩
end Go.Proofs.Ythkkpdgadfhijaa.M
/- Short words for facts that events leave alone. No condition. -/
namespace Go.Proofs.Ythkkpdgadfhijaa.KW
open Go.RowKit Go.Proofs.YthkkpdgadfhijaaW.PrintWords Go.Proofs.YthkkpdgadfhijaaW.PrintLast
class Ge (b g : Nat) : Prop where
 le : b ≤ g
class Nq (a b : Nat) : Prop where
 ne : a ≠ b
class Re (w w' : World) : Prop where
 r : Below w.heap.size w w'
class Rw (b : Nat) (w w' : World) : Prop where
 r : b ≤ w.heap.size → Below b w w'
class Rk (b g : Nat) (w w' : World) : Prop where
 r : w.heap.size ≤ w'.heap.size ∧ ∀ i, i < b → i < w.heap.size → i ≠ g → w'.heap[i]? = w.heap[i]?
class Rq (g : Nat) (w w' : World) : Prop where
 r : w.heap.size ≤ w'.heap.size ∧ (g < w.heap.size → w'.heap[g]? = w.heap[g]?)
variable {w w' w0 : World} {b g h j n : Nat} {o : Obj} {v : Value}
instance : Re w w := ⟨Below.refl _ _⟩
instance [q : Re w w'] : Re w (w'.alloc o) := ⟨below_alloc q.r o⟩
instance [q : Re w w'] : Re w (w'.drewN n) := ⟨pw_below_drewN q.r n⟩
instance [q : Re w w'] : Re w w'.drew := ⟨below_drew1 q.r⟩
instance : Rw b w w := ⟨fun _ => Below.refl _ _⟩
instance [q : Rw b w w'] : Rw b w (w'.alloc o) := ⟨fun hb => (q.r hb).alloc (Nat.le_trans hb (q.r hb).size) o⟩
instance [q : Rw b w w'] : Rw b w (w'.drewN n) := ⟨fun hb => pw_below_drewN (q.r hb) n⟩
instance [q : Rw b w w'] : Rw b w w'.drew := ⟨fun hb => (q.r hb).drew⟩
instance [q : Rw b w w'] [k : Ge b h] : Rw b w (w'.setCell ⟨h, j, none⟩ v) := ⟨fun hb => (q.r hb).setCell k.le _⟩
theorem heap_alloc_lt (w : World) (o : Obj) (i : Nat) (h : i < w.heap.size) : (w.alloc o).heap[i]? = w.heap[i]? := (below_alloc (Below.refl w.heap.size w) o).block i h
theorem size_alloc (w : World) (o : Obj) : w.heap.size ≤ (w.alloc o).heap.size := (below_alloc (Below.refl w.heap.size w) o).size
theorem size_set (w : World) (p : Addr) (v : Value) : w.heap.size ≤ (w.setCell p v).heap.size := by simp [World.setCell]
instance : Rk b g w w := ⟨Nat.le_refl _, fun _ _ _ _ => rfl⟩
instance [q : Rk b g w w'] : Rk b g w (w'.alloc o) := ⟨Nat.le_trans q.r.1 (size_alloc _ _), fun i h1 h2 h3 => (heap_alloc_lt _ _ _ (Nat.lt_of_lt_of_le h2 q.r.1)).trans (q.r.2 i h1 h2 h3)⟩
instance [q : Rk b g w w'] : Rk b g w (w'.drewN n) := ⟨q.r.1, fun i h1 h2 h3 => q.r.2 i h1 h2 h3⟩
instance [q : Rk b g w w'] : Rk b g w w'.drew := ⟨q.r.1, fun i h1 h2 h3 => q.r.2 i h1 h2 h3⟩
instance rkFar [q : Rk b g w w'] [k : Ge b h] : Rk b g w (w'.setCell ⟨h, j, none⟩ v) := ⟨Nat.le_trans q.r.1 (size_set _ _ _), fun i h1 h2 h3 => (Below.heap_setCell w' ⟨h, j, none⟩ v i (fun e => Nat.lt_irrefl _ (Nat.lt_of_lt_of_le h1 (e ▸ k.le)))).trans (q.r.2 i h1 h2 h3)⟩
instance rkOwn [q : Rk b g w w'] : Rk b g w (w'.setCell ⟨g, j, none⟩ v) := ⟨Nat.le_trans q.r.1 (size_set _ _ _), fun i h1 h2 h3 => (Below.heap_setCell w' ⟨g, j, none⟩ v i h3).trans (q.r.2 i h1 h2 h3)⟩
instance : Rq g w w := ⟨Nat.le_refl _, fun _ => rfl⟩
instance [q : Rq g w w'] : Rq g w (w'.alloc o) := ⟨Nat.le_trans q.r.1 (size_alloc _ _), fun h1 => (heap_alloc_lt _ _ _ (Nat.lt_of_lt_of_le h1 q.r.1)).trans (q.r.2 h1)⟩
instance [q : Rq g w w'] : Rq g w (w'.drewN n) := ⟨q.r.1, q.r.2⟩
instance [q : Rq g w w'] : Rq g w w'.drew := ⟨q.r.1, q.r.2⟩
instance [q : Rq g w w'] [k : Nq g h] : Rq g w (w'.setCell ⟨h, j, none⟩ v) := ⟨Nat.le_trans q.r.1 (size_set _ _ _), fun h1 => (Below.heap_setCell w' ⟨h, j, none⟩ v g k.ne).trans (q.r.2 h1)⟩
theorem mT {α β : Type} (f : α → β) (l : List α) : l.toArray.map f = (l.map f).toArray := by simp
theorem mC {α β : Type} (f : α → β) (x : α) (l : List α) : (x :: l).map f = f x :: l.map f := rfl
theorem mN {α β : Type} (f : α → β) : ([] : List α).map f = [] := rfl
def bL : Nat → Nat → List Bool
 | 0, _ => []
 | n + 1, k => (k % 2 == 1) :: bL n (k / 2)
def bA (n k : Nat) : Array Bool := (bL n k).toArray
theorem qa {α : Type} (l : List α) (i : Nat) (a : α) : l.toArray.setIfInBounds i a = (l.set i a).toArray := List.setIfInBounds_toArray ..
theorem qz {α : Type} {x a : α} {l : List α} : (x :: l).set 0 a = a :: l := rfl
theorem qs {α : Type} {x a : α} {l : List α} {n : Nat} : (x :: l).set (n + 1) a = x :: l.set n a := rfl
theorem am {p : Prop} (h : p) : Aside0 p := ⟨h⟩
theorem rB (h : Aside0 (Below w0.heap.size w0 w)) [q : Rw w0.heap.size w w'] : Below w0.heap.size w0 w' := h.out.trans (q.r h.out.size)
theorem rK (h : Aside0 (KeepBut w0 w g none)) [q : Rk w0.heap.size g w w'] : KeepBut w0 w' g none := ⟨Nat.le_trans h.out.1 q.r.1, fun i h1 h2 h3 => (q.r.2 i h1 (Nat.lt_of_lt_of_le h1 h.out.1) h2).trans (h.out.2 i h1 h2 h3)⟩
theorem xX (h : w.heap[g]? = some o) [q : Rq g w w'] : w'.heap[g]? = some o := (q.r.2 (blk_lt h)).trans h
theorem rX (h : Aside0 (w.heap[g]? = some o)) [q : Rq g w w'] : w'.heap[g]? = some o := xX h.out
theorem oD {p : Prop} [Decidable p] (h : decide p = true := by first | (with_reducible assumption) | assumption) : p := of_decide_eq_true h
theorem bE {α β : Type} {x : Option α} {f : α → Option β} {b : β} (h : x.bind f = some b) : ∃ a, x = some a ∧ f a = some b := Option.bind_eq_some_iff.mp h
theorem bK (h : Aside0 (w.heap[g]? = some o)) {w2 : World} (hb : Below w'.heap.size w' w2) [q : Rq g w w'] : Aside0 (w2.heap[g]? = some o) := ⟨blk_below (rX h) hb⟩
theorem bS (h : Aside0 (Below w0.heap.size w0 w)) {w2 : World} (hb : Below w'.heap.size w' w2) [q : Rw w0.heap.size w w'] : Aside0 (Below w0.heap.size w0 w2) := ⟨below_step (rB h) hb⟩
theorem bZ (h : Aside0 (Below w0.heap.size w0 w)) [q : Rw w0.heap.size w w'] : w0.heap.size ≤ w'.heap.size := below_size (rB h)
theorem kU (h : Aside0 (KeepBut w0 w g none)) {w2 : World} (hb : Below w'.heap.size w' w2) [q : Rk w0.heap.size g w w'] : Aside0 (KeepBut w0 w2 g none) := ⟨KeepBut.trans (rK h) (KeepBut.of_below hb g none) (.inl rfl)⟩
theorem kV (h : Aside0 (KeepBut w0 w g none)) {w2 : World} (hk : KeepBut w' w2 g none) [q : Rk w0.heap.size g w w'] : Aside0 (KeepBut w0 w2 g none) := ⟨KeepBut.trans (rK h) hk (.inl rfl)⟩
variable {a1 a2 a3 : Value} {t : TypeId}
theorem z10 (h : Aside0 (w.heap[g]? = some (.cells #[a1] t (0, 0)))) : w.cell? ⟨g, 0, none⟩ = some a1 := (blk_cell h.out 0).trans rfl
theorem z20 (h : Aside0 (w.heap[g]? = some (.cells #[a1, a2] t (0, 0)))) : w.cell? ⟨g, 0, none⟩ = some a1 := (blk_cell h.out 0).trans rfl
theorem z21 (h : Aside0 (w.heap[g]? = some (.cells #[a1, a2] t (0, 0)))) : w.cell? ⟨g, 1, none⟩ = some a2 := (blk_cell h.out 1).trans rfl
theorem z30 (h : Aside0 (w.heap[g]? = some (.cells #[a1, a2, a3] t (0, 0)))) : w.cell? ⟨g, 0, none⟩ = some a1 := (blk_cell h.out 0).trans rfl
theorem z31 (h : Aside0 (w.heap[g]? = some (.cells #[a1, a2, a3] t (0, 0)))) : w.cell? ⟨g, 1, none⟩ = some a2 := (blk_cell h.out 1).trans rfl
theorem z32 (h : Aside0 (w.heap[g]? = some (.cells #[a1, a2, a3] t (0, 0)))) : w.cell? ⟨g, 2, none⟩ = some a3 := (blk_cell h.out 2).trans rfl
variable {α : Type} {d : Kd α} {e base : Nat} {ok : Nat → Prop} {u : Value} {xs : List α} {A : Option Addr}
theorem xR (h : d.R e w base ok u xs) [q : Re w w'] : d.R e w' base ok u xs := Kd.R_below h q.r
theorem rR (h : Aside0 (d.R e w base ok u xs)) [q : Re w w'] : d.R e w' base ok u xs := xR h.out
theorem xS (h : Kd.S d e w base ok u xs) [q : Re w w'] : Kd.S d e w' base ok u xs := Kd.S_below h q.r
theorem rS (h : Aside0 (Kd.S d e w base ok u xs)) [q : Re w w'] : Kd.S d e w' base ok u xs := xS h.out
theorem xN (h : Kd.N d e w base ok u xs) [q : Re w w'] : Kd.N d e w' base ok u xs := Kd.N_below h q.r
theorem rN (h : Aside0 (Kd.N d e w base ok u xs)) [q : Re w w'] : Kd.N d e w' base ok u xs := xN h.out
theorem xV (h : Kd.V d e w base ok u xs) [q : Re w w'] : Kd.V d e w' base ok u xs := Kd.V_below h q.r
theorem rV (h : Aside0 (Kd.V d e w base ok u xs)) [q : Re w w'] : Kd.V d e w' base ok u xs := xV h.out
theorem xC (h : d.C w A n xs) [q : Re w w'] : d.C w' A n xs := Kd.C_below h q.r
end Go.Proofs.Ythkkpdgadfhijaa.KW
namespace Go.Proofs.Ythkkpdgadfhijaa.M
open Go.RowKit Go.Proofs.Ythkkpdgadfhijaa.KW Go.Proofs.YthkkpdgadfhijaaW.PrintWords Go.Proofs.YthkkpdgadfhijaaW.PrintLast Go.Proofs.YthkkpdgadfhijaaW.PrintMore
attribute [local go_sem] max2_int min2_int max_two min_two max_three min_three max_four min_four
set_option linter.unusedVariables false
set_option linter.unusedSimpArgs false
/-- A state of type 125 at block g of W; what its slices lead to came in by w0. -/
def IsS125 (w0 W : World) (g : Nat) (f0 : List Int) (f1 : Int) (f2 : Int) : Prop := ∃ A0 c0, W.heap[g]? = some (.cells #[.slice A0 f0.length c0, .int .i64 f1, .int .i64 f2] 125 (0, 0)) ∧ w0.heap.size ≤ g ∧ Kd.C (Kd.int .u8) w0 A0 f0.length f0
theorem IsS125.grown {w0 W : World} {g : Nat} {f0 : List Int} {f1 : Int} {f2 : Int} {W1 : World} {row : Option Nat} (h : IsS125 w0 W g f0 f1 f2) (hw : W.grownBy W1 row) (hne : some g ≠ row) : IsS125 w0 W1 g f0 f1 f2 := by
 obtain ⟨A0, c0, hb, hg, hr0⟩ := h; exact ⟨A0, c0, blk_grown hb hw hne, hg, hr0⟩
theorem IsS125.own_neN {w0 W : World} {g : Nat} {f0 : List Int} {f1 : Int} {f2 : Int} {α : Type} {d : Kd α} {e : Nat} {base : Nat} {ok : Nat → Prop} {v : Value} {xs : List α} (h : IsS125 w0 W g f0 f1 f2) (ho : Kd.N d e W base ok v xs) (ht : e ≠ 125) : some g ≠ v.ownBlock := by
 obtain ⟨A0, c0, hb, hg, hr0⟩ := h; exact Kd.N_ne ho hb ht
theorem IsS125.fresh {w0 W : World} {g : Nat} {f0 : List Int} {f1 : Int} {f2 : Int} (h : IsS125 w0 W g f0 f1 f2) : ∀ k, W.heap.size ≤ k → k ≠ g := by
 obtain ⟨A0, c0, hb, hg, hr0⟩ := h; exact Kd.freshB hb
theorem IsS125.kept {w0 W : World} {g : Nat} {f0 : List Int} {f1 : Int} {f2 : Int} {W1 : World} {S : Nat → Prop} (h : IsS125 w0 W g f0 f1 f2) (hk : Kept W W1 S) (hne : ¬ S g) : IsS125 w0 W1 g f0 f1 f2 := by
 obtain ⟨A0, c0, hb, hg, hr0⟩ := h; exact ⟨A0, c0, blk_kept hb hk hne, hg, hr0⟩
theorem IsS125.below {w0 W : World} {g : Nat} {f0 : List Int} {f1 : Int} {f2 : Int} {W1 : World} (h : IsS125 w0 W g f0 f1 f2) (hw : Below W.heap.size W W1) : IsS125 w0 W1 g f0 f1 f2 := h.grown (grown_of_below hw none) (by simp)
theorem IsS125.alloc {w0 W : World} {g : Nat} {f0 : List Int} {f1 : Int} {f2 : Int} (h : IsS125 w0 W g f0 f1 f2) (o : Obj) : IsS125 w0 (W.alloc o) g f0 f1 f2 := h.below (below_alloc (Below.refl _ _) o)
theorem IsS125.drewN {w0 W : World} {g : Nat} {f0 : List Int} {f1 : Int} {f2 : Int} (h : IsS125 w0 W g f0 f1 f2) (m : Nat) : IsS125 w0 (W.drewN m) g f0 f1 f2 := h
theorem IsS125.drew {w0 W : World} {g : Nat} {f0 : List Int} {f1 : Int} {f2 : Int} (h : IsS125 w0 W g f0 f1 f2) : IsS125 w0 W.drew g f0 f1 f2 := h
theorem IsS125.at_ {w0 W : World} {g : Nat} {f0 : List Int} {f1 : Int} {f2 : Int} {w' : World} {m : Nat} (hq : W.drewN m = w') (h : IsS125 w0 W g f0 f1 f2) : IsS125 w0 w' g f0 f1 f2 := by subst hq; exact IsS125.drewN h m
theorem IsS125.apart {w0 W : World} {g : Nat} {f0 : List Int} {f1 : Int} {f2 : Int} {α : Type} {d : Kd α} {e : Nat} {base : Nat} {ok : Nat → Prop} {v : Value} {xs : List α} (h : IsS125 w0 W g f0 f1 f2) (ho : d.R e W base ok v xs) (ht : ∀ q, q ∈ e :: d.E → q ≠ 125) : d.R e W base (fun k => ok k ∧ k ≠ g) v xs := by
 obtain ⟨A0, c0, hb, hg, hr0⟩ := h; exact Kd.R_types ho hb ht
theorem IsS125.own_ne {w0 W : World} {g : Nat} {f0 : List Int} {f1 : Int} {f2 : Int} {α : Type} {d : Kd α} {e : Nat} {base : Nat} {ok : Nat → Prop} {v : Value} {xs : List α} (h : IsS125 w0 W g f0 f1 f2) (ho : d.R e W base ok v xs) (ht : e ≠ 125) : some g ≠ v.ownBlock := by
 obtain ⟨A0, c0, hb, hg, hr0⟩ := h; exact Kd.R_ne ho hb ht
theorem IsS125.apartQ {w0 W : World} {g : Nat} {f0 : List Int} {f1 : Int} {f2 : Int} {α : Type} {d : Kd α} {e : Nat} {base : Nat} {ok : Nat → Prop} {v : Value} {xs : List α} (h : IsS125 w0 W g f0 f1 f2) (ho : d.Q e W base ok v xs) (ht : ∀ q, q ∈ e :: d.E → q ≠ 125) : d.Q e W base (fun k => ok k ∧ k ≠ g) v xs := by
 obtain ⟨A0, c0, hb, hg, hr0⟩ := h; exact Kd.Q_types ho hb ht
theorem IsS125.own_neQ {w0 W : World} {g : Nat} {f0 : List Int} {f1 : Int} {f2 : Int} {α : Type} {d : Kd α} {e : Nat} {base : Nat} {ok : Nat → Prop} {v : Value} {xs : List α} (h : IsS125 w0 W g f0 f1 f2) (ho : d.Q e W base ok v xs) (ht : e ≠ 125) : some g ≠ v.ownBlock := by
 obtain ⟨A0, c0, hb, hg, hr0⟩ := h; exact Kd.Q_ne ho hb ht
theorem IsS125.apartS {w0 W : World} {g : Nat} {f0 : List Int} {f1 : Int} {f2 : Int} {α : Type} {d : Kd α} {e : Nat} {base : Nat} {ok : Nat → Prop} {v : Value} {xs : List α} (h : IsS125 w0 W g f0 f1 f2) (ho : d.S e W base ok v xs) (ht : ∀ q, q ∈ e :: d.E → q ≠ 125) : d.S e W base (fun k => ok k ∧ k ≠ g) v xs := by
 obtain ⟨A0, c0, hb, hg, hr0⟩ := h; exact Kd.S_types ho hb ht
theorem IsS125.own_neS {w0 W : World} {g : Nat} {f0 : List Int} {f1 : Int} {f2 : Int} {α : Type} {d : Kd α} {e : Nat} {base : Nat} {ok : Nat → Prop} {v : Value} {xs : List α} (h : IsS125 w0 W g f0 f1 f2) (ho : d.S e W base ok v xs) (ht : e ≠ 125) : some g ≠ v.ownBlock := by
 obtain ⟨A0, c0, hb, hg, hr0⟩ := h; exact Kd.S_ne ho hb ht
theorem IsS125.lt {w0 W : World} {g : Nat} {f0 : List Int} {f1 : Int} {f2 : Int} (h : IsS125 w0 W g f0 f1 f2) : g < W.heap.size := by
 obtain ⟨A0, c0, hb, hg, hr0⟩ := h; exact blk_lt hb
theorem IsS125.ge {w0 W : World} {g : Nat} {f0 : List Int} {f1 : Int} {f2 : Int} (h : IsS125 w0 W g f0 f1 f2) : w0.heap.size ≤ g := by
 obtain ⟨A0, c0, hb, hg, hr0⟩ := h; exact hg
theorem IsS125.ne_blk {w0 W : World} {g : Nat} {f0 : List Int} {f1 : Int} {f2 : Int} {a : Nat} {cs : Array Value} {t : TypeId} {fr : Nat × Nat} (h : IsS125 w0 W g f0 f1 f2) (hb2 : W.heap[a]? = some (.cells cs t fr)) (ht : t ≠ 125) : g ≠ a := by
 obtain ⟨A0, c0, hb, hg, hr0⟩ := h; rintro rfl; rw [hb] at hb2; injection hb2 with hb2; injection hb2 with _ ht2; exact ht ht2.symm
theorem IsS125.far {w0 W : World} {g : Nat} {f0 : List Int} {f1 : Int} {f2 : Int} {p : Addr} (h : IsS125 w0 W g f0 f1 f2) (hne : g ≠ p.block) (u : Value) : IsS125 w0 (W.setCell p u) g f0 f1 f2 := by
 obtain ⟨A0, c0, hb, hg, hr0⟩ := h; exact ⟨A0, c0, blk_far hb hne u, hg, hr0⟩
theorem cellS125_0 {W : World} {g : Nat} {A0 : Option Addr} {c0 : Nat} {f0 : List Int} {f1 : Int} {f2 : Int} (h : W.heap[g]? = some (.cells #[.slice A0 f0.length c0, .int .i64 f1, .int .i64 f2] 125 (0, 0))) : W.cell? ⟨g, 0, none⟩ = some (.slice A0 f0.length c0) := (blk_cell h 0).trans rfl
theorem cellS125_1 {W : World} {g : Nat} {A0 : Option Addr} {c0 : Nat} {f0 : List Int} {f1 : Int} {f2 : Int} (h : W.heap[g]? = some (.cells #[.slice A0 f0.length c0, .int .i64 f1, .int .i64 f2] 125 (0, 0))) : W.cell? ⟨g, 1, none⟩ = some (.int .i64 f1) := (blk_cell h 1).trans rfl
theorem IsS125.set_1 {w0 W : World} {g : Nat} {f0 : List Int} {f1 : Int} {f2 : Int} (h : IsS125 w0 W g f0 f1 f2) (x : Int) : IsS125 w0 (W.setCell ⟨g, 1, none⟩ (.int .i64 x)) g f0 x f2 := by
 obtain ⟨A0, c0, hb, hg, hr0⟩ := h; exact ⟨A0, c0, by simpa using blk_set hb 1 (.int .i64 x), hg, hr0⟩
theorem cellS125_2 {W : World} {g : Nat} {A0 : Option Addr} {c0 : Nat} {f0 : List Int} {f1 : Int} {f2 : Int} (h : W.heap[g]? = some (.cells #[.slice A0 f0.length c0, .int .i64 f1, .int .i64 f2] 125 (0, 0))) : W.cell? ⟨g, 2, none⟩ = some (.int .i64 f2) := (blk_cell h 2).trans rfl
theorem IsS125.set_2 {w0 W : World} {g : Nat} {f0 : List Int} {f1 : Int} {f2 : Int} (h : IsS125 w0 W g f0 f1 f2) (x : Int) : IsS125 w0 (W.setCell ⟨g, 2, none⟩ (.int .i64 x)) g f0 f1 x := by
 obtain ⟨A0, c0, hb, hg, hr0⟩ := h; exact ⟨A0, c0, by simpa using blk_set hb 2 (.int .i64 x), hg, hr0⟩
theorem IsS125.new (w0 W : World) (A0 : Option Addr) (c0 : Nat) (f0 : List Int) (f1 : Int) (f2 : Int) (hB : Below w0.heap.size w0 W) (hr0 : Kd.C (Kd.int .u8) w0 A0 f0.length f0) : IsS125 w0 (W.alloc (.cells #[.slice A0 f0.length c0, .int .i64 f1, .int .i64 f2] 125)) W.heap.size f0 f1 f2 := ⟨A0, c0, by simpa using heap_alloc_new W _, hB.size, hr0⟩
def spec_l1New.l0 : Nat → List Int → Int → Int → Option (List Int × Int × Int)
 | 0, _, _, _ => none
 | k + 1, x0, x3, x4 => if x4 < (x0.length : Int) then (if x4 < 4000 then (if 0 ≤ x4 then (spec_l1New.l0 k x0 (Go.bits .and .i64 (wrap64 ((wrap64 ((wrap64 (x3 * 131)) + (wrap64 (rd x0 x4)))) + 7)) 1073741823) (wrap64 (x4 + 1))) else (none)) else (some (x0, 0, x3))) else (some (x0, 0, x3))
def spec_l1New.f (k : Nat) (l0 : List Int) : Option (List Int × Int × Int) := spec_l1New.l0 k l0 (wrap64 (10101 + (l0.length : Int))) 0
set_option maxHeartbeats 8000000 in
set_option maxRecDepth 100000 in
theorem spec_l1New.calls (k : Nat) (A0 : Option Addr) (c0 : Nat) (l0 : List Int) (r1 : List Int) (r2 : Int) (r3 : Int) (w0 w : World) (hB : Below w0.heap.size w0 w) (hr0 : Kd.C (Kd.int .u8) w0 A0 l0.length l0) (hc0 : l0.length ≤ c0) (h : spec_l1New.f k l0 = some (r1, r2, r3)) :
  Calls Try.prog 87 #[.slice A0 l0.length c0] w fun e w' => ∃ g_ : Nat, e = .returned (.pointer (some ⟨g_, 0, none⟩)) ∧ IsS125 w0 w' g_ r1 r2 r3 ∧ Below w0.heap.size w0 w' ∧ Below w.heap.size w w' := by
 have hu125 := Try.underlying125; have HR0 := Aside0.mk hr0; have HC0 := Aside0.mk hc0; clear hr0 hc0; have HBW := Aside0.mk (Below.refl w.heap.size w); have HW0 := Aside0.mk hB.size; have HB := Aside0.mk hB; clear hB; have H : (spec_l1New.l0 k l0 (wrap64 (10101 + (l0.length : Int))) 0) = some (r1, r2, r3) := h; clear h; have H' := Aside0.mk H; clear H; go_enter Try.func87, Try.ntmps87; go_wp2; go_loopg [3, 4] k (fun kq v3 v4 w' => ∃ (x3_1 : Int) (x4_1 : Int), v3 = .int .i64 x3_1 ∧ v4 = .int .i64 x4_1 ∧ Aside0 (spec_l1New.l0 kq l0 x3_1 x4_1 = some (r1, r2, r3)) ∧ Aside0 (kq ≤ k) ∧ Aside0 (Below w0.heap.size w0 w') ∧ Aside0 (Below w.heap.size w w'))
 case atStart => exact ⟨(wrap64 (10101 + (l0.length : Int))), (0), (by first | rfl | (simp; done) | (simp [*]; done)), (by first | rfl | (simp; done) | (simp [*]; done)), H', ⟨Nat.le_refl _⟩, ⟨by repeat (first | (with_reducible first | exact HB.out | apply below_alloc | apply pw_below_drewN | apply below_drew1) | exact HB.out)⟩, ⟨by repeat (first | (with_reducible first | exact HBW.out | apply below_alloc | apply pw_below_drewN | apply below_drew1) | exact HBW.out)⟩⟩
 case round =>
  clear H'; obtain ⟨x3_1, x4_1, rfl, rfl, HA, HK1, HB, HBW⟩ := hrel; cases gk with
  | zero => exact absurd HA.out (by simp [spec_l1New.l0])
  | succ k1 =>
   have H := HA.out; clear HA; simp only [spec_l1New.l0] at H; by_cases c2 : x4_1 < (l0.length : Int)
   ·rw [if_pos c2] at H; have c2b0 : decide (x4_1 < (l0.length : Int)) = true := decide_eq_true c2; clear c2; by_cases c3 : x4_1 < 4000
    ·rw [if_pos c3] at H; have c3b0 : decide (x4_1 < 4000) = true := decide_eq_true c3; clear c3; by_cases c4 : 0 ≤ x4_1
     ·rw [if_pos c4] at H; have c4b0 : decide (0 ≤ x4_1) = true := decide_eq_true c4; clear c4; have H' := Aside0.mk H; clear H; have p182 : 0 ≤ (x4_1 : Int) := of_decide_eq_true (by first | (with_reducible assumption) | assumption); have q182 : x4_1 < (l0.length : Int) := of_decide_eq_true (by first | (with_reducible assumption) | assumption); obtain ⟨ad182, e182, hx182_0⟩ := Kd.at_int HR0.out x4_1 p182 q182; cases e182; replace hx182_0 := pw_cell_below HB.out hx182_0; replace p182 := eq_true p182; replace q182 := eq_true q182; go_wp2; go_roundg k1
      case measure => have := HK1.out; omega
      case rel => exact ⟨(Go.bits .and .i64 (wrap64 ((wrap64 ((wrap64 (x3_1 * 131)) + (wrap64 (rd l0 x4_1)))) + 7)) 1073741823), (wrap64 (x4_1 + 1)), (by first | rfl | (simp; done) | (simp [*]; done)), (by first | rfl | (simp; done) | (simp [*]; done)), H', ⟨by have := HK1.out; omega⟩, ⟨by repeat (first | (with_reducible first | exact HB.out | apply below_alloc | apply pw_below_drewN | apply below_drew1) | exact HB.out)⟩, ⟨by repeat (first | (with_reducible first | exact HBW.out | apply below_alloc | apply pw_below_drewN | apply below_drew1) | exact HBW.out)⟩⟩
     ·rw [if_neg c4] at H; exact absurd H (by simp)
    ·rw [if_neg c3] at H; have c3b0 : decide (x4_1 < 4000) = false := decide_eq_false c3; clear c3; simp only [Option.some.injEq, Prod.mk.injEq] at H; obtain ⟨rfl, rfl, rfl⟩ := H; go_wp2_with (first | ((with_reducible refine gate_dst (N := 31) rfl ?_); refine box_event ?hg (N := 31) ?hd (cs := #[.slice A0 l0.length c0, .int .i64 0, .int .i64 x3_1]) (t := 125) ?hr ?_; (case hd => rfl); (case hg => rfl); (case hr => first | (go_simp; done) | (go_simp; rfl)); intro gb183 hg w5 hbox hb; have n0_ := Aside0.mk (below_step HBW.out hb); have n1_ := Aside0.mk (below_step (by repeat (first | (with_reducible first | exact HB.out | apply below_alloc | apply pw_below_drewN | apply below_drew1) | exact HB.out)) hb); have n2_ := Aside0.mk (hbox); have n3_ := Aside0.mk ((by rw [hg]; exact (below_size (by repeat (first | (with_reducible first | exact HBW.out | apply below_alloc | apply pw_below_drewN | apply below_drew1) | exact HBW.out))) : w.heap.size ≤ gb183)); have n4_ := Aside0.mk ((Nat.le_trans HW0.out (by rw [hg]; exact (below_size (by repeat (first | (with_reducible first | exact HBW.out | apply below_alloc | apply pw_below_drewN | apply below_drew1) | exact HBW.out))) : w.heap.size ≤ gb183) : w0.heap.size ≤ gb183)); clear HBW; clear HB; have HBW := n0_; have HB := n1_; have BK183 := n2_; have GW183 := n3_; have GE183 := n4_; clear n0_ n1_ n2_ n3_ n4_; clear hb hbox hg)); go_ret; exact ⟨_, rfl, (show IsS125 w0 _ gb183 l0 0 x3_1 from ⟨_, _, by (with_reducible repeat (first | refine blk_drewN ?_ _ | refine blk_drew ?_ | refine blk_alloc ?_ _)); exact BK183.out, GE183.out, HR0.out⟩), by repeat (first | (with_reducible first | exact HB.out | apply below_alloc | apply pw_below_drewN | apply below_drew1 | refine below_set ?_ GE183.out) | exact HB.out), by repeat (first | (with_reducible first | exact HBW.out | apply below_alloc | apply pw_below_drewN | apply below_drew1 | refine below_set ?_ GW183.out) | exact HBW.out)⟩
   ·rw [if_neg c2] at H; have c2b0 : decide (x4_1 < (l0.length : Int)) = false := decide_eq_false c2; clear c2; simp only [Option.some.injEq, Prod.mk.injEq] at H; obtain ⟨rfl, rfl, rfl⟩ := H; go_wp2_with (first | ((with_reducible refine gate_dst (N := 31) rfl ?_); refine box_event ?hg (N := 31) ?hd (cs := #[.slice A0 l0.length c0, .int .i64 0, .int .i64 x3_1]) (t := 125) ?hr ?_; (case hd => rfl); (case hg => rfl); (case hr => first | (go_simp; done) | (go_simp; rfl)); intro gb184 hg w6 hbox hb; have n0_ := Aside0.mk (below_step HBW.out hb); have n1_ := Aside0.mk (below_step (by repeat (first | (with_reducible first | exact HB.out | apply below_alloc | apply pw_below_drewN | apply below_drew1) | exact HB.out)) hb); have n2_ := Aside0.mk (hbox); have n3_ := Aside0.mk ((by rw [hg]; exact (below_size (by repeat (first | (with_reducible first | exact HBW.out | apply below_alloc | apply pw_below_drewN | apply below_drew1) | exact HBW.out))) : w.heap.size ≤ gb184)); have n4_ := Aside0.mk ((Nat.le_trans HW0.out (by rw [hg]; exact (below_size (by repeat (first | (with_reducible first | exact HBW.out | apply below_alloc | apply pw_below_drewN | apply below_drew1) | exact HBW.out))) : w.heap.size ≤ gb184) : w0.heap.size ≤ gb184)); clear HBW; clear HB; have HBW := n0_; have HB := n1_; have BK184 := n2_; have GW184 := n3_; have GE184 := n4_; clear n0_ n1_ n2_ n3_ n4_; clear hb hbox hg)); go_ret; exact ⟨_, rfl, (show IsS125 w0 _ gb184 l0 0 x3_1 from ⟨_, _, by (with_reducible repeat (first | refine blk_drewN ?_ _ | refine blk_drew ?_ | refine blk_alloc ?_ _)); exact BK184.out, GE184.out, HR0.out⟩), by repeat (first | (with_reducible first | exact HB.out | apply below_alloc | apply pw_below_drewN | apply below_drew1 | refine below_set ?_ GE184.out) | exact HB.out), by repeat (first | (with_reducible first | exact HBW.out | apply below_alloc | apply pw_below_drewN | apply below_drew1 | refine below_set ?_ GW184.out) | exact HBW.out)⟩
end Go.Proofs.Ythkkpdgadfhijaa.M
/- Short words for states that events leave alone. No condition. -/
namespace Go.Proofs.Ythkkpdgadfhijaa.M
open Go.RowKit Go.Proofs.Ythkkpdgadfhijaa.KW Go.Proofs.YthkkpdgadfhijaaW.PrintWords Go.Proofs.YthkkpdgadfhijaaW.PrintLast
theorem IsS125.m {w0 W : World} {g : Nat} {f0 : List Int} {f1 : Int} {f2 : Int} {W' : World} (h : Aside0 (IsS125 w0 W g f0 f1 f2)) [q : Rq g W W'] : IsS125 w0 W' g f0 f1 f2 := by
 obtain ⟨A0, c0, hb, hg, hr0⟩ := h.out; exact ⟨A0, c0, xX hb, hg, hr0⟩
end Go.Proofs.Ythkkpdgadfhijaa.M
namespace Go.Proofs.Ythkkpdgadfhijaa.M
open Go.RowKit Go.Proofs.Ythkkpdgadfhijaa.KW Go.Proofs.YthkkpdgadfhijaaW.PrintWords Go.Proofs.YthkkpdgadfhijaaW.PrintLast Go.Proofs.YthkkpdgadfhijaaW.PrintMore
attribute [local go_sem] max2_int min2_int max_two min_two max_three min_three max_four min_four
set_option linter.unusedVariables false
set_option linter.unusedSimpArgs false
def laws_big.f (l0 : List Int) : Option (Bool) := some (decide ((l0.length : Int) > 1048576))
set_option maxHeartbeats 8000000 in
set_option maxRecDepth 100000 in
theorem laws_big.calls (A0 : Option Addr) (c0 : Nat) (l0 : List Int) (r : Bool) (w : World) (hr0 : Kd.C (Kd.int .u8) w A0 l0.length l0) (hc0 : l0.length ≤ c0) (h : laws_big.f l0 = some r) :
  Calls Try.prog 19 #[.slice A0 l0.length c0] w fun e w' => e = .returned (.bool r) ∧ Drawn0 w w' := by
 have HR0 := am hr0; have HC0 := am hc0; clear hr0 hc0; have H : (some (decide ((l0.length : Int) > 1048576))) = some r := h; clear h; obtain rfl := Option.some.inj H; go_enter Try.func19, Try.ntmps19; go_wp2; go_ret; exact ⟨by first | rfl | (simp; done) | (simp [*]; done), by repeat (first | exact Drawn0.refl _ | apply Drawn0.step)⟩
def laws_sameInts.l0 : Nat → List Int → List Int → Int → Option (Bool)
 | 0, _, _, _ => none
 | k + 1, x0, x1, x5 => if x5 < (x0.length : Int) then (if 0 ≤ x5 then (if x5 < (x1.length : Int) then (if (rd x0 x5) = (rd x1 x5) then (laws_sameInts.l0 k x0 x1 (wrap64 (x5 + 1))) else (some false)) else (none)) else (none)) else (some true)
def laws_sameInts.f (k : Nat) (l0 : List Int) (l1 : List Int) : Option (Bool) := if (l0.length : Int) = (l1.length : Int) then (laws_sameInts.l0 k l0 l1 0) else (some false)
set_option maxHeartbeats 8000000 in
set_option maxRecDepth 100000 in
theorem laws_sameInts.calls (k : Nat) (A0 : Option Addr) (c0 : Nat) (l0 : List Int) (A1 : Option Addr) (c1 : Nat) (l1 : List Int) (r : Bool) (w : World) (hr0 : Kd.C (Kd.int .i64) w A0 l0.length l0) (hc0 : l0.length ≤ c0) (hr1 : Kd.C (Kd.int .i64) w A1 l1.length l1) (hc1 : l1.length ≤ c1) (h : laws_sameInts.f k l0 l1 = some r) :
  Calls Try.prog 36 #[.slice A0 l0.length c0, .slice A1 l1.length c1] w fun e w' => e = .returned (.bool r) ∧ Drawn0 w w' := by
 have HR0 := am hr0; have HC0 := am hc0; clear hr0 hc0; have HR1 := am hr1; have HC1 := am hc1; clear hr1 hc1; have H : (if (l0.length : Int) = (l1.length : Int) then (laws_sameInts.l0 k l0 l1 0) else (some false)) = some r := h; clear h; by_cases c3 : (l0.length : Int) = (l1.length : Int)
 ·rw [if_pos c3] at H; have c3b0 : ((l0.length : Int) == (l1.length : Int)) = true := beq_iff_eq.mpr c3; have c3b1 : ((l0.length : Int) != (l1.length : Int)) = false := bne_eq_false_iff_eq.mpr c3; have c3b2 : (l0.length == l1.length) = true := by first | simpa using c3 | (simp at c3 ⊢; omega)
  clear c3; have H' := am H; clear H; go_enter Try.func36, Try.ntmps36; go_wp2
  repeat (go_quiet (fail); try go_wp2)
  go_loopg [5] k (fun kq v5 w' => ∃ (x5_1 : Int), v5 = .int .i64 x5_1 ∧ Aside0 (laws_sameInts.l0 kq l0 l1 x5_1 = some r) ∧ Aside0 (kq ≤ k) ∧ Drawn0 w w')
  case atStart => exact ⟨(0), (by first | rfl | (simp; done) | (simp [*]; done)), H', ⟨Nat.le_refl _⟩, by repeat (first | exact Drawn0.refl _ | apply Drawn0.step)⟩
  case round =>
   clear H'
   try clear c1
   try clear p2
   try clear c3
   try clear c3b0
   try clear c3b1
   try clear c3b2
   obtain ⟨x5_1, rfl, HA, HK1, ⟨m1, rfl⟩⟩ := hrel; cases gk with
   | zero => exact absurd HA.out (by simp [laws_sameInts.l0])
   | succ k1 =>
    have H := HA.out; clear HA; simp only [laws_sameInts.l0] at H; by_cases c4 : x5_1 < (l0.length : Int)
    ·rw [if_pos c4] at H; have c4b0 : decide (x5_1 < (l0.length : Int)) = true := decide_eq_true c4; clear c4; by_cases c5 : 0 ≤ x5_1
     ·rw [if_pos c5] at H; have c5b0 : decide (0 ≤ x5_1) = true := decide_eq_true c5; clear c5; by_cases c6 : x5_1 < (l1.length : Int)
      ·rw [if_pos c6] at H; have c6b0 : decide (x5_1 < (l1.length : Int)) = true := decide_eq_true c6; clear c6; by_cases c7 : (rd l0 x5_1) = (rd l1 x5_1)
       ·rw [if_pos c7] at H; have c7b0 : ((rd l0 x5_1) == (rd l1 x5_1)) = true := beq_iff_eq.mpr c7; have c7b1 : ((rd l0 x5_1) != (rd l1 x5_1)) = false := bne_eq_false_iff_eq.mpr c7; clear c7; have H' := am H; clear H; have p248 : 0 ≤ (x5_1 : Int) := oD; have q248 : x5_1 < (l0.length : Int) := oD; obtain ⟨ad248, e248, hx248_0⟩ := Kd.at_int HR0.out x5_1 p248 q248; cases e248; replace p248 := eq_true p248; replace q248 := eq_true q248; have p249 : 0 ≤ (x5_1 : Int) := oD; have q249 : x5_1 < (l1.length : Int) := oD; obtain ⟨ad249, e249, hx249_0⟩ := Kd.at_int HR1.out x5_1 p249 q249; cases e249; replace p249 := eq_true p249; replace q249 := eq_true q249; go_wp2
        repeat (go_quiet (fail); try go_wp2)
        go_roundg k1
        case measure => have := HK1.out; omega
        case rel => exact ⟨(wrap64 (x5_1 + 1)), (by first | rfl | (simp; done) | (simp [*]; done)), H', ⟨by have := HK1.out; omega⟩, by repeat (first | exact Drawn0.refl _ | apply Drawn0.step)⟩
       ·rw [if_neg c7] at H; have c7b0 : ((rd l0 x5_1) == (rd l1 x5_1)) = false := beq_eq_false_iff_ne.mpr c7; have c7b1 : ((rd l0 x5_1) != (rd l1 x5_1)) = true := bne_iff_ne.mpr c7; obtain rfl := Option.some.inj H; have p248 : 0 ≤ (x5_1 : Int) := oD; have q248 : x5_1 < (l0.length : Int) := oD; obtain ⟨ad248, e248, hx248_0⟩ := Kd.at_int HR0.out x5_1 p248 q248; cases e248; replace p248 := eq_true p248; replace q248 := eq_true q248; have p249 : 0 ≤ (x5_1 : Int) := oD; have q249 : x5_1 < (l1.length : Int) := oD; obtain ⟨ad249, e249, hx249_0⟩ := Kd.at_int HR1.out x5_1 p249 q249; cases e249; replace p249 := eq_true p249; replace q249 := eq_true q249; go_wp2
        repeat (go_quiet (fail); try go_wp2)
        go_ret; exact ⟨by first | rfl | (simp; done) | (simp [*]; done), by repeat (first | exact Drawn0.refl _ | apply Drawn0.step)⟩
      ·rw [if_neg c6] at H; exact absurd H (by simp)
     ·rw [if_neg c5] at H; exact absurd H (by simp)
    ·rw [if_neg c4] at H; have c4b0 : decide (x5_1 < (l0.length : Int)) = false := decide_eq_false c4; clear c4; obtain rfl := Option.some.inj H; go_wp2
     repeat (go_quiet (fail); try go_wp2)
     go_ret; exact ⟨by first | rfl | (simp; done) | (simp [*]; done), by repeat (first | exact Drawn0.refl _ | apply Drawn0.step)⟩
 ·rw [if_neg c3] at H; have c3b0 : ((l0.length : Int) == (l1.length : Int)) = false := beq_eq_false_iff_ne.mpr c3; have c3b1 : ((l0.length : Int) != (l1.length : Int)) = true := bne_iff_ne.mpr c3; have c3b2 : (l0.length == l1.length) = false := by first | simpa using c3 | (simp at c3 ⊢; omega)
  obtain rfl := Option.some.inj H; go_enter Try.func36, Try.ntmps36; go_wp2
  repeat (go_quiet (fail); try go_wp2)
  go_ret; exact ⟨by first | rfl | (simp; done) | (simp [*]; done), by repeat (first | exact Drawn0.refl _ | apply Drawn0.step)⟩
def spec_l1In.f (a0 : Int) (a1 : Int) (a2 : Int) : Option (Bool) := if a0 ≥ a1 then (some (decide (a0 ≤ a2))) else (some false)
set_option maxHeartbeats 8000000 in
set_option maxRecDepth 100000 in
theorem spec_l1In.calls (a0 : Int) (a1 : Int) (a2 : Int) (r : Bool) (w : World) (h : spec_l1In.f a0 a1 a2 = some r) :
  Calls Try.prog 82 #[.int .i64 a0, .int .i64 a1, .int .i64 a2] w fun e w' => e = .returned (.bool r) ∧ Drawn0 w w' := by
 have H : (if a0 ≥ a1 then (some (decide (a0 ≤ a2))) else (some false)) = some r := h; clear h; by_cases c4 : a0 ≥ a1
 ·rw [if_pos c4] at H; have c4b0 : decide (a1 ≤ a0) = true := decide_eq_true c4; clear c4; obtain rfl := Option.some.inj H; go_enter Try.func82, Try.ntmps82; go_wp2; go_ret; exact ⟨by first | rfl | (simp; done) | (simp [*]; done), by repeat (first | exact Drawn0.refl _ | apply Drawn0.step)⟩
 ·rw [if_neg c4] at H; have c4b0 : decide (a1 ≤ a0) = false := decide_eq_false c4; clear c4; obtain rfl := Option.some.inj H; go_enter Try.func82, Try.ntmps82; go_wp2; go_ret; exact ⟨by first | rfl | (simp; done) | (simp [*]; done), by repeat (first | exact Drawn0.refl _ | apply Drawn0.step)⟩
mutual
def spec_IsPattern.l0 : Nat → List Int → Int → Int → Option (Bool)
 | 0, _, _, _ => none
 | k + 1, x0, x3, x4 => if x4 < (x0.length : Int) then (if 0 ≤ x4 then (if (rd x0 x4) < 0 then (spec_IsPattern.j1 k x0 x3 x4 true) else (if (rd x0 x4) > x3 then (spec_IsPattern.j1 k x0 x3 x4 true) else (spec_IsPattern.j1 k x0 x3 x4 (decide ((rd x0 x4) > 2))))) else (none)) else ((spec_l1In.f (x0.length : Int) 1 6).bind fun t807 => (some t807))
def spec_IsPattern.j1 : Nat → List Int → Int → Int → Bool → Option (Bool)
 | 0, _, _, _, _ => none
 | k + 1, x0, x3, x4, x30 => if x30 = true then (some false) else (if 0 ≤ x4 then (if x4 < (x0.length : Int) then (if (rd x0 x4) = x3 then (spec_IsPattern.l0 k x0 (wrap64 (x3 + 1)) (wrap64 (x4 + 1))) else (spec_IsPattern.l0 k x0 x3 (wrap64 (x4 + 1)))) else (none)) else (none))
end
def spec_IsPattern.f (k : Nat) (l0 : List Int) : Option (Bool) := spec_IsPattern.l0 k l0 0 0
theorem spec_IsPattern.mono_l : ∀ k, (∀ y0 y1 y2, LeO (spec_IsPattern.l0 k y0 y1 y2) (spec_IsPattern.l0 (k + 1) y0 y1 y2)) ∧ (∀ y0 y1 y2 y3, LeO (spec_IsPattern.j1 k y0 y1 y2 y3) (spec_IsPattern.j1 (k + 1) y0 y1 y2 y3))
 | 0 => ⟨fun _ _ _ r h => by simp [spec_IsPattern.l0] at h, fun _ _ _ _ r h => by simp [spec_IsPattern.j1] at h⟩
 | k + 1 => by
  obtain ⟨ih0, ih1⟩ := spec_IsPattern.mono_l k; refine ⟨?_, ?_⟩
  ·intro y0 y1 y2; unfold spec_IsPattern.l0
   repeat' first
   | (with_reducible exact ih0 _ _ _)
   | (with_reducible exact ih1 _ _ _ _)
   | (with_reducible exact LeO.refl _)
   | (with_reducible exact LeO.none _)
   | (with_reducible refine LeO.ite ?_ ?_)
   | (with_reducible refine LeO.bind ?_ (fun _ => ?_))
  ·intro y0 y1 y2 y3; unfold spec_IsPattern.j1
   repeat' first
   | (with_reducible exact ih0 _ _ _)
   | (with_reducible exact ih1 _ _ _ _)
   | (with_reducible exact LeO.refl _)
   | (with_reducible exact LeO.none _)
   | (with_reducible refine LeO.ite ?_ ?_)
   | (with_reducible refine LeO.bind ?_ (fun _ => ?_))
theorem spec_IsPattern.mono : ∀ a0 k, LeO (spec_IsPattern.f k a0) (spec_IsPattern.f (k + 1) a0) := by
 intro a0 k; obtain ⟨ih0, ih1⟩ := spec_IsPattern.mono_l k; unfold spec_IsPattern.f
 repeat' first
   | (with_reducible exact ih0 _ _ _)
   | (with_reducible exact ih1 _ _ _ _)
   | (with_reducible exact LeO.refl _)
   | (with_reducible exact LeO.none _)
   | (with_reducible refine LeO.ite ?_ ?_)
   | (with_reducible refine LeO.bind ?_ (fun _ => ?_))
set_option maxHeartbeats 8000000 in
set_option maxRecDepth 100000 in
theorem spec_IsPattern.calls (k : Nat) (A0 : Option Addr) (c0 : Nat) (l0 : List Int) (r : Bool) (w : World) (hr0 : Kd.C (Kd.int .i64) w A0 l0.length l0) (hc0 : l0.length ≤ c0) (h : spec_IsPattern.f k l0 = some r) :
  Calls Try.prog 63 #[.slice A0 l0.length c0] w fun e w' => e = .returned (.bool r) ∧ Drawn0 w w' := by
 have HR0 := am hr0; have HC0 := am hc0; clear hr0 hc0; have H : (spec_IsPattern.l0 k l0 0 0) = some r := h; clear h; have H' := am H; clear H; go_enter Try.func63, Try.ntmps63; go_wp2; go_loopg [3, 4] k (fun kq v3 v4 w' => ∃ (x3_1 : Int) (x4_1 : Int), v3 = .int .i64 x3_1 ∧ v4 = .int .i64 x4_1 ∧ Aside0 (spec_IsPattern.l0 kq l0 x3_1 x4_1 = some r) ∧ Aside0 (kq ≤ k) ∧ Drawn0 w w')
 case atStart => exact ⟨(0), (0), (by first | rfl | (simp; done) | (simp [*]; done)), (by first | rfl | (simp; done) | (simp [*]; done)), H', ⟨Nat.le_refl _⟩, by repeat (first | exact Drawn0.refl _ | apply Drawn0.step)⟩
 case round =>
  clear H'; obtain ⟨x3_1, x4_1, rfl, rfl, HA, HK1, ⟨m1, rfl⟩⟩ := hrel; cases gk with
  | zero => exact absurd HA.out (by simp [spec_IsPattern.l0])
  | succ k1 =>
   have H := HA.out; clear HA; simp only [spec_IsPattern.l0] at H; by_cases c2 : x4_1 < (l0.length : Int)
   ·rw [if_pos c2] at H; have c2b0 : decide (x4_1 < (l0.length : Int)) = true := decide_eq_true c2; clear c2; have HC3 := am H; clear H; go_upto_region 5 with (fail); go_cut [30] (fun v30 wc => ∃ (kq : Nat) (x30_2 : Bool), v30 = .bool x30_2 ∧ Aside0 (spec_IsPattern.j1 kq l0 x3_1 x4_1 x30_2 = some r) ∧ Aside0 (kq ≤ k1) ∧ Drawn0 w wc)
    case first =>
     have H := HC3.out; clear HC3; by_cases c4 : 0 ≤ x4_1
     ·rw [if_pos c4] at H; have c4b0 : decide (0 ≤ x4_1) = true := decide_eq_true c4; clear c4
      (first | rw [c4b0] | (simp only [i64_w, i32_w]; rw [c4b0]) | skip)
      by_cases c5 : (rd l0 x4_1) < 0
      ·rw [if_pos c5] at H; have c5b0 : decide ((rd l0 x4_1) < 0) = true := decide_eq_true c5; clear c5; have H' := am H; clear H; have p808 : 0 ≤ (x4_1 : Int) := oD; have q808 : x4_1 < (l0.length : Int) := oD; obtain ⟨ad808, e808, hx808_0⟩ := Kd.at_int HR0.out x4_1 p808 q808; cases e808; replace p808 := eq_true p808; replace q808 := eq_true q808; go_wp2; go_meet
       case rel => exact ⟨_, (true), (by first | rfl | (simp; done) | (simp [*]; done)), H', ⟨by have := HK1.out; first | omega | exact Nat.le_refl _⟩, by repeat (first | exact Drawn0.refl _ | apply Drawn0.step)⟩
      ·rw [if_neg c5] at H; have c5b0 : decide ((rd l0 x4_1) < 0) = false := decide_eq_false c5; clear c5; by_cases c6 : (rd l0 x4_1) > x3_1
       ·rw [if_pos c6] at H; have c6b0 : decide (x3_1 < (rd l0 x4_1)) = true := decide_eq_true c6; clear c6; have H' := am H; clear H; have p808 : 0 ≤ (x4_1 : Int) := oD; have q808 : x4_1 < (l0.length : Int) := oD; obtain ⟨ad808, e808, hx808_0⟩ := Kd.at_int HR0.out x4_1 p808 q808; cases e808; replace p808 := eq_true p808; replace q808 := eq_true q808; have p809 : 0 ≤ (x4_1 : Int) := oD; have q809 : x4_1 < (l0.length : Int) := oD; obtain ⟨ad809, e809, hx809_0⟩ := Kd.at_int HR0.out x4_1 p809 q809; obtain rfl : ad808 = ad809 := (by injection e809); replace p809 := eq_true p809; replace q809 := eq_true q809; go_wp2; go_meet
        case rel => exact ⟨_, (true), (by first | rfl | (simp; done) | (simp [*]; done)), H', ⟨by have := HK1.out; first | omega | exact Nat.le_refl _⟩, by repeat (first | exact Drawn0.refl _ | apply Drawn0.step)⟩
       ·rw [if_neg c6] at H; have c6b0 : decide (x3_1 < (rd l0 x4_1)) = false := decide_eq_false c6; clear c6; have H' := am H; clear H; have p808 : 0 ≤ (x4_1 : Int) := oD; have q808 : x4_1 < (l0.length : Int) := oD; obtain ⟨ad808, e808, hx808_0⟩ := Kd.at_int HR0.out x4_1 p808 q808; cases e808; replace p808 := eq_true p808; replace q808 := eq_true q808; have p809 : 0 ≤ (x4_1 : Int) := oD; have q809 : x4_1 < (l0.length : Int) := oD; obtain ⟨ad809, e809, hx809_0⟩ := Kd.at_int HR0.out x4_1 p809 q809; obtain rfl : ad808 = ad809 := (by injection e809); replace p809 := eq_true p809; replace q809 := eq_true q809; have p810 : 0 ≤ (x4_1 : Int) := oD; have q810 : x4_1 < (l0.length : Int) := oD; obtain ⟨ad810, e810, hx810_0⟩ := Kd.at_int HR0.out x4_1 p810 q810; obtain rfl : ad808 = ad810 := (by injection e810); replace p810 := eq_true p810; replace q810 := eq_true q810; go_wp2; go_meet
        case rel => exact ⟨_, (decide ((rd l0 x4_1) > 2)), (by first | rfl | (simp; done) | (simp [*]; done)), H', ⟨by have := HK1.out; first | omega | exact Nat.le_refl _⟩, by repeat (first | exact Drawn0.refl _ | apply Drawn0.step)⟩
     ·rw [if_neg c4] at H; exact absurd H (by simp)
    case rest =>
     clear HC3
     try clear c2
     try clear c2b0
     try clear p2
     try clear c4
     try clear c4b0
     try clear c5
     try clear c5b0
     try clear c6
     try clear c6b0
     try clear hx808_0
     try clear hx809_0
     try clear hx810_0
     try clear p808
     try clear p809
     try clear p810
     try clear q808
     try clear q809
     try clear q810
     obtain ⟨kq, x30_2, rfl, HA, HJ2, ⟨mc2, rfl⟩⟩ := hcut; cases kq with
     | zero => exact absurd HA.out (by simp [spec_IsPattern.j1])
     | succ kj2 =>
      have H := HA.out; clear HA; simp only [spec_IsPattern.j1] at H; by_cases c7 : x30_2 = true
      ·subst c7; have H1 : (some false) = some r := by rw [if_pos rfl] at H; exact H
       clear H; have H := H1; clear H1; obtain rfl := Option.some.inj H; go_wp2; go_ret; exact ⟨by first | rfl | (simp; done) | (simp [*]; done), by repeat (first | exact Drawn0.refl _ | apply Drawn0.step)⟩
      ·replace c7 := Bool.eq_false_iff.mpr c7; subst c7; have H1 : (if 0 ≤ x4_1 then (if x4_1 < (l0.length : Int) then (if (rd l0 x4_1) = x3_1 then (spec_IsPattern.l0 kj2 l0 (wrap64 (x3_1 + 1)) (wrap64 (x4_1 + 1))) else (spec_IsPattern.l0 kj2 l0 x3_1 (wrap64 (x4_1 + 1)))) else (none)) else (none)) = some r := by rw [if_neg (show ¬ (false = true) by decide)] at H; exact H
       clear H; have H := H1; clear H1; by_cases c8 : 0 ≤ x4_1
       ·rw [if_pos c8] at H; have c8b0 : decide (0 ≤ x4_1) = true := decide_eq_true c8; clear c8; by_cases c9 : x4_1 < (l0.length : Int)
        ·rw [if_pos c9] at H; have c9b0 : decide (x4_1 < (l0.length : Int)) = true := decide_eq_true c9; clear c9; by_cases c10 : (rd l0 x4_1) = x3_1
         ·rw [if_pos c10] at H; have c10b0 : ((rd l0 x4_1) == x3_1) = true := beq_iff_eq.mpr c10; have c10b1 : ((rd l0 x4_1) != x3_1) = false := bne_eq_false_iff_eq.mpr c10; clear c10; have H' := am H; clear H; have p811 : 0 ≤ (x4_1 : Int) := oD; have q811 : x4_1 < (l0.length : Int) := oD; obtain ⟨ad811, e811, hx811_0⟩ := Kd.at_int HR0.out x4_1 p811 q811; cases e811; replace p811 := eq_true p811; replace q811 := eq_true q811; go_wp2; go_roundg kj2
          case measure => have := HK1.out; have := HJ2.out; omega
          case rel => exact ⟨(wrap64 (x3_1 + 1)), (wrap64 (x4_1 + 1)), (by first | rfl | (simp; done) | (simp [*]; done)), (by first | rfl | (simp; done) | (simp [*]; done)), H', ⟨by have := HK1.out; have := HJ2.out; omega⟩, by repeat (first | exact Drawn0.refl _ | apply Drawn0.step)⟩
         ·rw [if_neg c10] at H; have c10b0 : ((rd l0 x4_1) == x3_1) = false := beq_eq_false_iff_ne.mpr c10; have c10b1 : ((rd l0 x4_1) != x3_1) = true := bne_iff_ne.mpr c10; have H' := am H; clear H; have p811 : 0 ≤ (x4_1 : Int) := oD; have q811 : x4_1 < (l0.length : Int) := oD; obtain ⟨ad811, e811, hx811_0⟩ := Kd.at_int HR0.out x4_1 p811 q811; cases e811; replace p811 := eq_true p811; replace q811 := eq_true q811; go_wp2; go_roundg kj2
          case measure => have := HK1.out; have := HJ2.out; omega
          case rel => exact ⟨(x3_1), (wrap64 (x4_1 + 1)), (by first | rfl | (simp; done) | (simp [*]; done)), (by first | rfl | (simp; done) | (simp [*]; done)), H', ⟨by have := HK1.out; have := HJ2.out; omega⟩, by repeat (first | exact Drawn0.refl _ | apply Drawn0.step)⟩
        ·rw [if_neg c9] at H; exact absurd H (by simp)
       ·rw [if_neg c8] at H; exact absurd H (by simp)
   ·rw [if_neg c2] at H; have c2b0 : decide (x4_1 < (l0.length : Int)) = false := decide_eq_false c2; clear c2; replace H := bE H; obtain ⟨t807, A110, H⟩ := H; replace H : (some t807) = some r := H; have A11 := am A110; clear A110; obtain rfl := Option.some.inj H; go_wp2_with (first | ((with_reducible refine gate_callee (f := 82) rfl ?_); refine goesL_ (some 41) rfl rfl Try.func82 (by kernel_rfl) rfl #[.int .i64 (l0.length : Int), .int .i64 1, .int .i64 6] rfl (by (try simp only [mT, mC, mN]); first | done | rfl) ?_; (with_reducible refine (spec_l1In.calls (l0.length : Int) 1 6 t807 _ A11.out).mono ?_); rintro e w' ⟨rfl, ⟨nd, rfl⟩⟩; refine ⟨_, rfl, ?_⟩)); go_ret; exact ⟨by first | rfl | (simp; done) | (simp [*]; done), by repeat (first | exact Drawn0.refl _ | apply Drawn0.step)⟩
def spec_l28Letters.l0 : Nat → List Int → Int → Int → Option (Int)
 | 0, _, _, _ => none
 | k + 1, x0, x3, x4 => if x4 < (x0.length : Int) then (if 0 ≤ x4 then (spec_l28Letters.l0 k x0 (mx x3 (wrap64 ((rd x0 x4) + 1))) (wrap64 (x4 + 1))) else (none)) else (some x3)
def spec_l28Letters.f (k : Nat) (l0 : List Int) : Option (Int) := spec_l28Letters.l0 k l0 0 0
theorem spec_l28Letters.mono_l : ∀ k, (∀ y0 y1 y2, LeO (spec_l28Letters.l0 k y0 y1 y2) (spec_l28Letters.l0 (k + 1) y0 y1 y2))
 | 0 => fun _ _ _ r h => by simp [spec_l28Letters.l0] at h
 | k + 1 => by
  have ih0 := spec_l28Letters.mono_l k
  ·intro y0 y1 y2; unfold spec_l28Letters.l0
   repeat' first
   | (with_reducible exact ih0 _ _ _)
   | (with_reducible exact LeO.refl _)
   | (with_reducible exact LeO.none _)
   | (with_reducible refine LeO.ite ?_ ?_)
   | (with_reducible refine LeO.bind ?_ (fun _ => ?_))
theorem spec_l28Letters.mono : ∀ a0 k, LeO (spec_l28Letters.f k a0) (spec_l28Letters.f (k + 1) a0) := by
 intro a0 k; have ih0 := spec_l28Letters.mono_l k; unfold spec_l28Letters.f
 repeat' first
   | (with_reducible exact ih0 _ _ _)
   | (with_reducible exact LeO.refl _)
   | (with_reducible exact LeO.none _)
   | (with_reducible refine LeO.ite ?_ ?_)
   | (with_reducible refine LeO.bind ?_ (fun _ => ?_))
set_option maxHeartbeats 8000000 in
set_option maxRecDepth 100000 in
theorem spec_l28Letters.calls (k : Nat) (A0 : Option Addr) (c0 : Nat) (l0 : List Int) (r : Int) (w : World) (hr0 : Kd.C (Kd.int .i64) w A0 l0.length l0) (hc0 : l0.length ≤ c0) (h : spec_l28Letters.f k l0 = some r) :
  Calls Try.prog 120 #[.slice A0 l0.length c0] w fun e w' => e = .returned (.int .i64 r) ∧ Below w.heap.size w w' := by
 have HR0 := am hr0; have HC0 := am hc0; clear hr0 hc0; have HB := am (Below.refl w.heap.size w); have H : (spec_l28Letters.l0 k l0 0 0) = some r := h; clear h; have H' := am H; clear H; go_enter Try.func120, Try.ntmps120; go_wp2; go_loopg [3, 4] k (fun kq v3 v4 w' => ∃ (x3_1 : Int) (x4_1 : Int), v3 = .int .i64 x3_1 ∧ v4 = .int .i64 x4_1 ∧ Aside0 (spec_l28Letters.l0 kq l0 x3_1 x4_1 = some r) ∧ Aside0 (kq ≤ k) ∧ Aside0 (Below w.heap.size w w'))
 case atStart => exact ⟨(0), (0), (by first | rfl | (simp; done) | (simp [*]; done)), (by first | rfl | (simp; done) | (simp [*]; done)), H', ⟨Nat.le_refl _⟩, ⟨by exact rB HB⟩⟩
 case round =>
  clear H'
  try clear c1
  obtain ⟨x3_1, x4_1, rfl, rfl, HA, HK1, HB⟩ := hrel; cases gk with
  | zero => exact absurd HA.out (by simp [spec_l28Letters.l0])
  | succ k1 =>
   have H := HA.out; clear HA; simp only [spec_l28Letters.l0] at H; by_cases c2 : x4_1 < (l0.length : Int)
   ·rw [if_pos c2] at H; have c2b0 : decide (x4_1 < (l0.length : Int)) = true := decide_eq_true c2; clear c2; by_cases c3 : 0 ≤ x4_1
    ·rw [if_pos c3] at H; have c3b0 : decide (0 ≤ x4_1) = true := decide_eq_true c3; clear c3; obtain ⟨ji4, hji4⟩ : ∃ j_ : Int, (mx x3_1 (wrap64 ((rd l0 x4_1) + 1))) = j_ := ⟨_, rfl⟩; replace H : (spec_l28Letters.l0 k1 l0 ji4 (wrap64 (x4_1 + 1))) = some r := by first | (rw [hji4] at H; exact H) | (simp only [hji4] at H ⊢; exact H)
     have hji4_ : (if x3_1 < (wrap64 ((rd l0 x4_1) + 1)) then (wrap64 ((rd l0 x4_1) + 1)) else x3_1) = ji4 := hji4; have H' := am H; clear H; have p814 : 0 ≤ (x4_1 : Int) := oD; have q814 : x4_1 < (l0.length : Int) := oD; obtain ⟨ad814, e814, hx814_0⟩ := Kd.at_int HR0.out x4_1 p814 q814; cases e814; replace hx814_0 := (HB.out.cell (World.block_lt_of_cell? w _ hx814_0)).trans hx814_0; replace p814 := eq_true p814; replace q814 := eq_true q814; go_wp2; go_roundg k1
     case measure => have := HK1.out; omega
     case rel => exact ⟨(ji4), (wrap64 (x4_1 + 1)), (by first | rfl | (simp; done) | (simp only [← hji4] <;> (first | rfl | simp)) | (simp [*]; done)), (by first | rfl | (simp; done) | (simp [*]; done)), H', ⟨by have := HK1.out; omega⟩, ⟨by exact rB HB⟩⟩
    ·rw [if_neg c3] at H; exact absurd H (by simp)
   ·rw [if_neg c2] at H; have c2b0 : decide (x4_1 < (l0.length : Int)) = false := decide_eq_false c2; clear c2; obtain rfl := Option.some.inj H; go_wp2; go_ret; exact ⟨by first | rfl | (simp [errW_none, errW_some] <;> rfl) | (simp [*, errW_none, errW_some] <;> rfl), by exact rB HB⟩
def spec_l28Lengths.l0 : Nat → List Int → List Int → Int → Option (Bool)
 | 0, _, _, _ => none
 | k + 1, x0, x1, x5 => if x5 < (x1.length : Int) then (if 0 ≤ x5 then ((spec_l1In.f (rd x1 x5) 1 40).bind fun t816 => (if t816 = true then (spec_l28Lengths.l0 k x0 x1 (wrap64 (x5 + 1))) else (some false))) else (none)) else ((spec_IsPattern.f k x0).bind fun t817 => (if t817 = true then ((spec_l28Letters.f k x0).bind fun t818 => (some ((x1.length : Int) == t818))) else (some false)))
def spec_l28Lengths.f (k : Nat) (l0 : List Int) (l1 : List Int) : Option (Bool) := spec_l28Lengths.l0 k l0 l1 0
set_option maxHeartbeats 8000000 in
set_option maxRecDepth 100000 in
theorem spec_l28Lengths.calls (k : Nat) (A0 : Option Addr) (c0 : Nat) (l0 : List Int) (A1 : Option Addr) (c1 : Nat) (l1 : List Int) (r : Bool) (w : World) (hr0 : Kd.C (Kd.int .i64) w A0 l0.length l0) (hc0 : l0.length ≤ c0) (hr1 : Kd.C (Kd.int .i64) w A1 l1.length l1) (hc1 : l1.length ≤ c1) (h : spec_l28Lengths.f k l0 l1 = some r) :
  Calls Try.prog 129 #[.slice A0 l0.length c0, .slice A1 l1.length c1] w fun e w' => e = .returned (.bool r) ∧ Below w.heap.size w w' := by
 have HR0 := am hr0; have HC0 := am hc0; clear hr0 hc0; have HR1 := am hr1; have HC1 := am hc1; clear hr1 hc1; have HB := am (Below.refl w.heap.size w); have H : (spec_l28Lengths.l0 k l0 l1 0) = some r := h; clear h; have H' := am H; clear H; go_enter Try.func129, Try.ntmps129; go_wp2; go_loopg [5] k (fun kq v5 w' => ∃ (x5_1 : Int), v5 = .int .i64 x5_1 ∧ Aside0 (spec_l28Lengths.l0 kq l0 l1 x5_1 = some r) ∧ Aside0 (kq ≤ k) ∧ Aside0 (Below w.heap.size w w'))
 case atStart => exact ⟨(0), (by first | rfl | (simp; done) | (simp [*]; done)), H', ⟨Nat.le_refl _⟩, ⟨by exact rB HB⟩⟩
 case round =>
  clear H'
  try clear c1
  try clear p2
  obtain ⟨x5_1, rfl, HA, HK1, HB⟩ := hrel; cases gk with
  | zero => exact absurd HA.out (by simp [spec_l28Lengths.l0])
  | succ k1 =>
   have H := HA.out; clear HA; simp only [spec_l28Lengths.l0] at H; by_cases c3 : x5_1 < (l1.length : Int)
   ·rw [if_pos c3] at H; have c3b0 : decide (x5_1 < (l1.length : Int)) = true := decide_eq_true c3; clear c3; by_cases c4 : 0 ≤ x5_1
    ·rw [if_pos c4] at H; have c4b0 : decide (0 ≤ x5_1) = true := decide_eq_true c4; clear c4; replace H := bE H; obtain ⟨t816, A50, H⟩ := H; replace H : (if t816 = true then (spec_l28Lengths.l0 k1 l0 l1 (wrap64 (x5_1 + 1))) else (some false)) = some r := H; have A5 := am A50; clear A50; by_cases c6 : t816 = true
     ·subst c6; have H1 : (spec_l28Lengths.l0 k1 l0 l1 (wrap64 (x5_1 + 1))) = some r := by rw [if_pos rfl] at H; exact H
      clear H; have H := H1; clear H1; have H' := am H; clear H; have p815 : 0 ≤ (x5_1 : Int) := oD; have q815 : x5_1 < (l1.length : Int) := oD; obtain ⟨ad815, e815, hx815_0⟩ := Kd.at_int HR1.out x5_1 p815 q815; cases e815; replace hx815_0 := (HB.out.cell (World.block_lt_of_cell? w _ hx815_0)).trans hx815_0; replace p815 := eq_true p815; replace q815 := eq_true q815; go_wp2_with (first | ((with_reducible refine gate_callee (f := 82) rfl ?_); refine goesL_ (some 16) rfl rfl Try.func82 (by kernel_rfl) rfl #[.int .i64 (rd l1 x5_1), .int .i64 1, .int .i64 40] rfl (by (try simp only [mT, mC, mN]); first | done | rfl) ?_; (with_reducible refine (spec_l1In.calls (rd l1 x5_1) 1 40 true _ A5.out).mono ?_); rintro e w' ⟨rfl, ⟨nd, rfl⟩⟩; refine ⟨_, rfl, ?_⟩)); go_roundg k1
      case measure => have := HK1.out; omega
      case rel => exact ⟨(wrap64 (x5_1 + 1)), (by first | rfl | (simp; done) | (simp [*]; done)), H', ⟨by have := HK1.out; omega⟩, ⟨by exact rB HB⟩⟩
     ·replace c6 := Bool.eq_false_iff.mpr c6; subst c6; have H1 : (some false) = some r := by rw [if_neg (show ¬ (false = true) by decide)] at H; exact H
      clear H; have H := H1; clear H1; obtain rfl := Option.some.inj H; have p815 : 0 ≤ (x5_1 : Int) := oD; have q815 : x5_1 < (l1.length : Int) := oD; obtain ⟨ad815, e815, hx815_0⟩ := Kd.at_int HR1.out x5_1 p815 q815; cases e815; replace hx815_0 := (HB.out.cell (World.block_lt_of_cell? w _ hx815_0)).trans hx815_0; replace p815 := eq_true p815; replace q815 := eq_true q815; go_wp2_with (first | ((with_reducible refine gate_callee (f := 82) rfl ?_); refine goesL_ (some 16) rfl rfl Try.func82 (by kernel_rfl) rfl #[.int .i64 (rd l1 x5_1), .int .i64 1, .int .i64 40] rfl (by (try simp only [mT, mC, mN]); first | done | rfl) ?_; (with_reducible refine (spec_l1In.calls (rd l1 x5_1) 1 40 false _ A5.out).mono ?_); rintro e w' ⟨rfl, ⟨nd, rfl⟩⟩; refine ⟨_, rfl, ?_⟩)); go_ret; exact ⟨by first | rfl | (simp [errW_none, errW_some] <;> rfl) | (simp [*, errW_none, errW_some] <;> rfl), by exact rB HB⟩
    ·rw [if_neg c4] at H; exact absurd H (by simp)
   ·rw [if_neg c3] at H; have c3b0 : decide (x5_1 < (l1.length : Int)) = false := decide_eq_false c3; clear c3; replace H := bE H; obtain ⟨t817, A70, H⟩ := H; replace H : (if t817 = true then ((spec_l28Letters.f k1 l0).bind fun t818 => (some ((l1.length : Int) == t818))) else (some false)) = some r := H; have A7 := am A70; clear A70; by_cases c8 : t817 = true
    ·subst c8; have H1 : ((spec_l28Letters.f k1 l0).bind fun t818 => (some ((l1.length : Int) == t818))) = some r := by rw [if_pos rfl] at H; exact H
     clear H; have H := H1; clear H1; replace H := bE H; obtain ⟨t818, A90, H⟩ := H; replace H : (some ((l1.length : Int) == t818)) = some r := H; have A9 := am A90; clear A90; obtain rfl := Option.some.inj H; go_wp2_with (first | ((with_reducible refine gate_callee (f := 63) rfl ?_); refine goesL_ (some 19) rfl rfl Try.func63 (by kernel_rfl) rfl #[.slice A0 l0.length c0] rfl (by (try simp only [List.map_toArray, List.map_cons, List.map_nil]); first | done | rfl | (simp only [List.length_drop, List.length_take]; rfl)) ?_; (with_reducible refine (spec_IsPattern.calls k1 _ _ l0 true _ ?side1 ?side2 A7.out).mono ?_); (case side1 => repeat (first | exact (Kd.C_below HR0.out HB.out) | (with_reducible refine Kd.C_alloc ?_ _) | (with_reducible refine Kd.C_drewN ?_ _) | (with_reducible refine Kd.C_drew ?_))); (case side2 => exact HC0.out); rintro e w' ⟨rfl, ⟨nd, rfl⟩⟩; refine ⟨_, rfl, ?_⟩) | (go_at_call 120; (with_reducible refine (spec_l28Letters.calls k1 _ _ l0 t818 _ ?side1 ?side2 A9.out).mono ?_); (case side1 => repeat (first | exact (Kd.C_below HR0.out (by repeat (first | (with_reducible first | exact HB.out | apply below_alloc | apply pw_below_drewN | apply below_drew1) | exact HB.out))) | (with_reducible refine Kd.C_alloc ?_ _) | (with_reducible refine Kd.C_drewN ?_ _) | (with_reducible refine Kd.C_drew ?_))); (case side2 => exact HC0.out); rintro e w10 ⟨rfl, hb⟩; have n0_ := Aside0.mk (below_step (by repeat (first | (with_reducible first | exact HB.out | apply below_alloc | apply pw_below_drewN | apply below_drew1) | exact HB.out)) hb); clear HB; have HB := n0_; clear n0_; (try clear hb); (try clear hb2); (try clear hk); (try clear hi))); go_ret; exact ⟨by first | rfl | (simp [errW_none, errW_some] <;> rfl) | (simp [*, errW_none, errW_some] <;> rfl), by exact rB HB⟩
    ·replace c8 := Bool.eq_false_iff.mpr c8; subst c8; have H1 : (some false) = some r := by rw [if_neg (show ¬ (false = true) by decide)] at H; exact H
     clear H; have H := H1; clear H1; obtain rfl := Option.some.inj H; go_wp2_with (first | ((with_reducible refine gate_callee (f := 63) rfl ?_); refine goesL_ (some 19) rfl rfl Try.func63 (by kernel_rfl) rfl #[.slice A0 l0.length c0] rfl (by (try simp only [mT, mC, mN]); first | done | rfl) ?_; (with_reducible refine (spec_IsPattern.calls k1 _ _ l0 false _ ?side1 ?side2 A7.out).mono ?_); (case side1 => exact xC ((Kd.C_below HR0.out HB.out))); (case side2 => exact HC0.out); rintro e w' ⟨rfl, ⟨nd, rfl⟩⟩; refine ⟨_, rfl, ?_⟩)); go_ret; exact ⟨by first | rfl | (simp [errW_none, errW_some] <;> rfl) | (simp [*, errW_none, errW_some] <;> rfl), by exact rB HB⟩
def spec_MatchLength.l0 : Nat → List Int → List Int → Int → Int → Option (Int)
 | 0, _, _, _, _ => none
 | k + 1, x0, x1, x5, x6 => if x6 < (x0.length : Int) then (if 0 ≤ x6 then (if 0 ≤ (rd x0 x6) then (if (rd x0 x6) < (x1.length : Int) then (spec_MatchLength.l0 k x0 x1 (wrap64 (x5 + (rd x1 (rd x0 x6)))) (wrap64 (x6 + 1))) else (none)) else (none)) else (none)) else (some x5)
def spec_MatchLength.f (k : Nat) (l0 : List Int) (l1 : List Int) : Option (Int) := (spec_l28Lengths.f k l0 l1).bind fun t819 => (if t819 = true then (spec_MatchLength.l0 k l0 l1 0 0) else (some (-1)))
set_option maxHeartbeats 8000000 in
set_option maxRecDepth 100000 in
theorem spec_MatchLength.calls (k : Nat) (A0 : Option Addr) (c0 : Nat) (l0 : List Int) (A1 : Option Addr) (c1 : Nat) (l1 : List Int) (r : Int) (w : World) (hr0 : Kd.C (Kd.int .i64) w A0 l0.length l0) (hc0 : l0.length ≤ c0) (hr1 : Kd.C (Kd.int .i64) w A1 l1.length l1) (hc1 : l1.length ≤ c1) (h : spec_MatchLength.f k l0 l1 = some r) :
  Calls Try.prog 73 #[.slice A0 l0.length c0, .slice A1 l1.length c1] w fun e w' => e = .returned (.int .i64 r) ∧ Below w.heap.size w w' := by
 have HR0 := am hr0; have HC0 := am hc0; clear hr0 hc0; have HR1 := am hr1; have HC1 := am hc1; clear hr1 hc1; have HB := am (Below.refl w.heap.size w); have H : ((spec_l28Lengths.f k l0 l1).bind fun t819 => (if t819 = true then (spec_MatchLength.l0 k l0 l1 0 0) else (some (-1)))) = some r := h; clear h; replace H := bE H; obtain ⟨t819, A30, H⟩ := H; replace H : (if t819 = true then (spec_MatchLength.l0 k l0 l1 0 0) else (some (-1))) = some r := H; have A3 := am A30; clear A30; by_cases c4 : t819 = true
 ·subst c4; have H1 : (spec_MatchLength.l0 k l0 l1 0 0) = some r := by rw [if_pos rfl] at H; exact H
  clear H; have H := H1; clear H1; have H' := am H; clear H; go_enter Try.func73, Try.ntmps73; go_wp2_with (first | ((with_reducible refine gate_callee (f := 129) rfl ?_); refine goesL_ (some 9) rfl rfl Try.func129 (by kernel_rfl) rfl #[.slice A0 l0.length c0, .slice A1 l1.length c1] rfl (by (try simp only [mT, mC, mN]); first | done | rfl) ?_; (with_reducible refine (spec_l28Lengths.calls k _ _ l0 _ _ l1 true _ ?side1 ?side2 ?side3 ?side4 A3.out).mono ?_); (case side1 => exact xC (HR0.out)); (case side2 => exact HC0.out); (case side3 => exact xC (HR1.out)); (case side4 => exact HC1.out); rintro e w5 ⟨rfl, hb⟩; refine ⟨_, rfl, ?_⟩; replace HB := bS HB hb; clear hb)); go_loopg [5, 6] k (fun kq v5 v6 w' => ∃ (x5_1 : Int) (x6_1 : Int), v5 = .int .i64 x5_1 ∧ v6 = .int .i64 x6_1 ∧ Aside0 (spec_MatchLength.l0 kq l0 l1 x5_1 x6_1 = some r) ∧ Aside0 (kq ≤ k) ∧ Aside0 (Below w.heap.size w w'))
  case atStart => exact ⟨(0), (0), (by first | rfl | (simp; done) | (simp [*]; done)), (by first | rfl | (simp; done) | (simp [*]; done)), H', ⟨Nat.le_refl _⟩, ⟨by exact rB HB⟩⟩
  case round =>
   clear H'
   try clear c1
   try clear p2
   try clear c4
   obtain ⟨x5_1, x6_1, rfl, rfl, HA, HK1, HB⟩ := hrel; cases gk with
   | zero => exact absurd HA.out (by simp [spec_MatchLength.l0])
   | succ k1 =>
    have H := HA.out; clear HA; simp only [spec_MatchLength.l0] at H; by_cases c6 : x6_1 < (l0.length : Int)
    ·rw [if_pos c6] at H; have c6b0 : decide (x6_1 < (l0.length : Int)) = true := decide_eq_true c6; clear c6; by_cases c7 : 0 ≤ x6_1
     ·rw [if_pos c7] at H; have c7b0 : decide (0 ≤ x6_1) = true := decide_eq_true c7; clear c7; by_cases c8 : 0 ≤ (rd l0 x6_1)
      ·rw [if_pos c8] at H; have c8b0 : decide (0 ≤ (rd l0 x6_1)) = true := decide_eq_true c8; clear c8; by_cases c9 : (rd l0 x6_1) < (l1.length : Int)
       ·rw [if_pos c9] at H; have c9b0 : decide ((rd l0 x6_1) < (l1.length : Int)) = true := decide_eq_true c9; clear c9; have H' := am H; clear H; have p820 : 0 ≤ (x6_1 : Int) := oD; have q820 : x6_1 < (l0.length : Int) := oD; obtain ⟨ad820, e820, hx820_0⟩ := Kd.at_int HR0.out x6_1 p820 q820; cases e820; replace hx820_0 := (HB.out.cell (World.block_lt_of_cell? w _ hx820_0)).trans hx820_0; replace p820 := eq_true p820; replace q820 := eq_true q820; have p821 : 0 ≤ ((rd l0 x6_1) : Int) := oD; have q821 : (rd l0 x6_1) < (l1.length : Int) := oD; obtain ⟨ad821, e821, hx821_0⟩ := Kd.at_int HR1.out (rd l0 x6_1) p821 q821; cases e821; replace hx821_0 := (HB.out.cell (World.block_lt_of_cell? w _ hx821_0)).trans hx821_0; replace p821 := eq_true p821; replace q821 := eq_true q821; go_wp2; go_roundg k1
        case measure => have := HK1.out; omega
        case rel => exact ⟨(wrap64 (x5_1 + (rd l1 (rd l0 x6_1)))), (wrap64 (x6_1 + 1)), (by first | rfl | (simp; done) | (simp [*]; done)), (by first | rfl | (simp; done) | (simp [*]; done)), H', ⟨by have := HK1.out; omega⟩, ⟨by exact rB HB⟩⟩
       ·rw [if_neg c9] at H; exact absurd H (by simp)
      ·rw [if_neg c8] at H; exact absurd H (by simp)
     ·rw [if_neg c7] at H; exact absurd H (by simp)
    ·rw [if_neg c6] at H; have c6b0 : decide (x6_1 < (l0.length : Int)) = false := decide_eq_false c6; clear c6; obtain rfl := Option.some.inj H; go_wp2; go_ret; exact ⟨by first | rfl | (simp [errW_none, errW_some] <;> rfl) | (simp [*, errW_none, errW_some] <;> rfl), by exact rB HB⟩
 ·replace c4 := Bool.eq_false_iff.mpr c4; subst c4; have H1 : (some (-1)) = some r := by rw [if_neg (show ¬ (false = true) by decide)] at H; exact H
  clear H; have H := H1; clear H1; obtain rfl := Option.some.inj H; go_enter Try.func73, Try.ntmps73; go_wp2_with (first | ((with_reducible refine gate_callee (f := 129) rfl ?_); refine goesL_ (some 9) rfl rfl Try.func129 (by kernel_rfl) rfl #[.slice A0 l0.length c0, .slice A1 l1.length c1] rfl (by (try simp only [mT, mC, mN]); first | done | rfl) ?_; (with_reducible refine (spec_l28Lengths.calls k _ _ l0 _ _ l1 false _ ?side1 ?side2 ?side3 ?side4 A3.out).mono ?_); (case side1 => exact xC (HR0.out)); (case side2 => exact HC0.out); (case side3 => exact xC (HR1.out)); (case side4 => exact HC1.out); rintro e w10 ⟨rfl, hb⟩; refine ⟨_, rfl, ?_⟩; replace HB := bS HB hb; clear hb)); go_ret; exact ⟨by first | rfl | (simp [errW_none, errW_some] <;> rfl) | (simp [*, errW_none, errW_some] <;> rfl), by exact rB HB⟩
def spec_l3Same.l0 : Nat → List Int → List Int → Int → Option (Bool)
 | 0, _, _, _ => none
 | k + 1, x0, x1, x5 => if x5 < (x0.length : Int) then (if 0 ≤ x5 then (if x5 < (x1.length : Int) then (if (rd x0 x5) = (rd x1 x5) then (spec_l3Same.l0 k x0 x1 (wrap64 (x5 + 1))) else (some false)) else (none)) else (none)) else (some true)
def spec_l3Same.f (k : Nat) (l0 : List Int) (l1 : List Int) : Option (Bool) := if (l0.length : Int) = (l1.length : Int) then (spec_l3Same.l0 k l0 l1 0) else (some false)
set_option maxHeartbeats 8000000 in
set_option maxRecDepth 100000 in
theorem spec_l3Same.calls (k : Nat) (A0 : Option Addr) (c0 : Nat) (l0 : List Int) (A1 : Option Addr) (c1 : Nat) (l1 : List Int) (r : Bool) (w : World) (hr0 : Kd.C (Kd.int .i64) w A0 l0.length l0) (hc0 : l0.length ≤ c0) (hr1 : Kd.C (Kd.int .i64) w A1 l1.length l1) (hc1 : l1.length ≤ c1) (h : spec_l3Same.f k l0 l1 = some r) :
  Calls Try.prog 97 #[.slice A0 l0.length c0, .slice A1 l1.length c1] w fun e w' => e = .returned (.bool r) ∧ Drawn0 w w' := by
 have HR0 := am hr0; have HC0 := am hc0; clear hr0 hc0; have HR1 := am hr1; have HC1 := am hc1; clear hr1 hc1; have H : (if (l0.length : Int) = (l1.length : Int) then (spec_l3Same.l0 k l0 l1 0) else (some false)) = some r := h; clear h; by_cases c3 : (l0.length : Int) = (l1.length : Int)
 ·rw [if_pos c3] at H; have c3b0 : ((l0.length : Int) == (l1.length : Int)) = true := beq_iff_eq.mpr c3; have c3b1 : ((l0.length : Int) != (l1.length : Int)) = false := bne_eq_false_iff_eq.mpr c3; have c3b2 : (l0.length == l1.length) = true := by first | simpa using c3 | (simp at c3 ⊢; omega)
  clear c3; have H' := am H; clear H; go_enter Try.func97, Try.ntmps97; go_wp2
  repeat (go_quiet (fail); try go_wp2)
  go_loopg [5] k (fun kq v5 w' => ∃ (x5_1 : Int), v5 = .int .i64 x5_1 ∧ Aside0 (spec_l3Same.l0 kq l0 l1 x5_1 = some r) ∧ Aside0 (kq ≤ k) ∧ Drawn0 w w')
  case atStart => exact ⟨(0), (by first | rfl | (simp; done) | (simp [*]; done)), H', ⟨Nat.le_refl _⟩, by repeat (first | exact Drawn0.refl _ | apply Drawn0.step)⟩
  case round =>
   clear H'
   try clear c1
   try clear p2
   try clear c3
   try clear c3b0
   try clear c3b1
   try clear c3b2
   obtain ⟨x5_1, rfl, HA, HK1, ⟨m1, rfl⟩⟩ := hrel; cases gk with
   | zero => exact absurd HA.out (by simp [spec_l3Same.l0])
   | succ k1 =>
    have H := HA.out; clear HA; simp only [spec_l3Same.l0] at H; by_cases c4 : x5_1 < (l0.length : Int)
    ·rw [if_pos c4] at H; have c4b0 : decide (x5_1 < (l0.length : Int)) = true := decide_eq_true c4; clear c4; by_cases c5 : 0 ≤ x5_1
     ·rw [if_pos c5] at H; have c5b0 : decide (0 ≤ x5_1) = true := decide_eq_true c5; clear c5; by_cases c6 : x5_1 < (l1.length : Int)
      ·rw [if_pos c6] at H; have c6b0 : decide (x5_1 < (l1.length : Int)) = true := decide_eq_true c6; clear c6; by_cases c7 : (rd l0 x5_1) = (rd l1 x5_1)
       ·rw [if_pos c7] at H; have c7b0 : ((rd l0 x5_1) == (rd l1 x5_1)) = true := beq_iff_eq.mpr c7; have c7b1 : ((rd l0 x5_1) != (rd l1 x5_1)) = false := bne_eq_false_iff_eq.mpr c7; clear c7; have H' := am H; clear H; have p409 : 0 ≤ (x5_1 : Int) := oD; have q409 : x5_1 < (l0.length : Int) := oD; obtain ⟨ad409, e409, hx409_0⟩ := Kd.at_int HR0.out x5_1 p409 q409; cases e409; replace p409 := eq_true p409; replace q409 := eq_true q409; have p410 : 0 ≤ (x5_1 : Int) := oD; have q410 : x5_1 < (l1.length : Int) := oD; obtain ⟨ad410, e410, hx410_0⟩ := Kd.at_int HR1.out x5_1 p410 q410; cases e410; replace p410 := eq_true p410; replace q410 := eq_true q410; go_wp2
        repeat (go_quiet (fail); try go_wp2)
        go_roundg k1
        case measure => have := HK1.out; omega
        case rel => exact ⟨(wrap64 (x5_1 + 1)), (by first | rfl | (simp; done) | (simp [*]; done)), H', ⟨by have := HK1.out; omega⟩, by repeat (first | exact Drawn0.refl _ | apply Drawn0.step)⟩
       ·rw [if_neg c7] at H; have c7b0 : ((rd l0 x5_1) == (rd l1 x5_1)) = false := beq_eq_false_iff_ne.mpr c7; have c7b1 : ((rd l0 x5_1) != (rd l1 x5_1)) = true := bne_iff_ne.mpr c7; obtain rfl := Option.some.inj H; have p409 : 0 ≤ (x5_1 : Int) := oD; have q409 : x5_1 < (l0.length : Int) := oD; obtain ⟨ad409, e409, hx409_0⟩ := Kd.at_int HR0.out x5_1 p409 q409; cases e409; replace p409 := eq_true p409; replace q409 := eq_true q409; have p410 : 0 ≤ (x5_1 : Int) := oD; have q410 : x5_1 < (l1.length : Int) := oD; obtain ⟨ad410, e410, hx410_0⟩ := Kd.at_int HR1.out x5_1 p410 q410; cases e410; replace p410 := eq_true p410; replace q410 := eq_true q410; go_wp2
        repeat (go_quiet (fail); try go_wp2)
        go_ret; exact ⟨by first | rfl | (simp; done) | (simp [*]; done), by repeat (first | exact Drawn0.refl _ | apply Drawn0.step)⟩
      ·rw [if_neg c6] at H; exact absurd H (by simp)
     ·rw [if_neg c5] at H; exact absurd H (by simp)
    ·rw [if_neg c4] at H; have c4b0 : decide (x5_1 < (l0.length : Int)) = false := decide_eq_false c4; clear c4; obtain rfl := Option.some.inj H; go_wp2
     repeat (go_quiet (fail); try go_wp2)
     go_ret; exact ⟨by first | rfl | (simp; done) | (simp [*]; done), by repeat (first | exact Drawn0.refl _ | apply Drawn0.step)⟩
 ·rw [if_neg c3] at H; have c3b0 : ((l0.length : Int) == (l1.length : Int)) = false := beq_eq_false_iff_ne.mpr c3; have c3b1 : ((l0.length : Int) != (l1.length : Int)) = true := bne_iff_ne.mpr c3; have c3b2 : (l0.length == l1.length) = false := by first | simpa using c3 | (simp at c3 ⊢; omega)
  obtain rfl := Option.some.inj H; go_enter Try.func97, Try.ntmps97; go_wp2
  repeat (go_quiet (fail); try go_wp2)
  go_ret; exact ⟨by first | rfl | (simp; done) | (simp [*]; done), by repeat (first | exact Drawn0.refl _ | apply Drawn0.step)⟩
theorem l3Same_val (u v : List Int) (hu : u.length < 9223372036854775807) : ∃ k : Nat, spec_l3Same.f k u v = some (decide (u = v)) := by
 have main : Ev (fun k => spec_l3Same.f k u v) (decide (u = v)) := by
  unfold spec_l3Same.f; refine K.Ev.ite (fun e => ?_) (fun e => ?_)
  ·have e' : u.length = v.length := by omega
   have key : ∀ i, i ≤ u.length → Ev (fun k => spec_l3Same.l0 k u v (i : Int)) (decide (u.drop i = v.drop i)) := by
    refine K.down u.length ?_ ?_
    ·refine Ev.step (fun k => by simp only [spec_l3Same.l0]; rw [if_neg (by omega)]) ?_; rw [List.drop_length, e', List.drop_length]; exact K.Ev.some _
    ·intro i hi ih; refine Ev.step (fun k => by simp only [spec_l3Same.l0]; rw [if_pos (by omega), if_pos (by omega), if_pos (by omega), K.wsucc (by omega), K.rd_get u i hi, K.rd_get v i (by omega)]) ?_; rw [K.drop_eq u i hi, K.drop_eq v i (by omega), K.cons_dec]; refine K.Ev.ite (fun q => ?_) (fun q => ?_)
     ·rw [decide_eq_true q]; simpa using ih
     ·rw [decide_eq_false q]; exact K.Ev.some _
   exact key 0 (by omega)
  ·refine K.Ev.same (K.Ev.some _) ?_; symm; rw [decide_eq_false_iff_not]; intro q; rw [q] at e; exact e rfl
 exact main.rounds
/-- The reference's way: fs: where each letter was met first, or -1. none: a place outside the word. -/
def sgo (w L : List Int) : List Int → Nat → List Int → Option Bool
 | [], _, _ => some true
 | x :: p, i, fs =>
  let n := (L.getD x.toNat 0).toNat
  if w.length < i + n then none
  else if fs.getD x.toNat 0 < 0 then sgo w L p (i + n) (fs.set x.toNat (i : Int))
  else if w.length < (fs.getD x.toNat 0).toNat + n then none
  else if (w.take ((fs.getD x.toNat 0).toNat + n)).drop (fs.getD x.toNat 0).toNat = (w.take (i + n)).drop i then sgo w L p (i + n) fs else some false
theorem sgo_cons (w L p : List Int) (x n i : Nat) (fs : List Int) (hn : L.getD x 0 = (n : Int)) : sgo w L ((x : Int) :: p) i fs = if w.length < i + n then none
  else if fs.getD x 0 < 0 then sgo w L p (i + n) (fs.set x (i : Int))
  else if w.length < (fs.getD x 0).toNat + n then none
  else if (w.take ((fs.getD x 0).toNat + n)).drop (fs.getD x 0).toNat = (w.take (i + n)).drop i then sgo w L p (i + n) fs else some false := by
 simp only [sgo, Int.toNat_natCast, hn]
def smatOk (w p : List Int) (L : List Int) : Prop := (∀ x ∈ p, 0 ≤ x ∧ x < (L.length : Int) ∧ x < 3) ∧ (∀ y ∈ L, 1 ≤ y ∧ y ≤ 40) ∧ w.length ≤ 1000000 ∧ p.length ≤ 1000000 ∧ L.length ≤ 1000000
instance (w p L : List Int) : Decidable (smatOk w p L) := by unfold smatOk; exact inferInstance
def spec_MatchAt.f (k : Nat) (l0 l1 : List Int) (a2 : Int) (l3 : List Int) : Option Bool := (spec_MatchLength.f k l1 l3).bind fun t => if t < 0 ∨ a2 < 0 ∨ (l0.length : Int) < a2 then some false else if ¬ (l0.length ≤ 1000000 ∧ t ≤ 1000000) then none else if (l0.length : Int) < a2 + t then some false else if smatOk l0 l1 l3 then sgo l0 l3 l1 a2.toNat [-1, -1, -1] else none
set_option maxHeartbeats 4000000 in
set_option maxRecDepth 100000 in
theorem spec_MatchAt.calls (k : Nat) (A0 : Option Addr) (c0 : Nat) (l0 : List Int) (A1 : Option Addr) (c1 : Nat) (l1 : List Int) (a2 : Int) (A3 : Option Addr) (c3 : Nat) (l3 : List Int) (r : Bool) (w : World) (hr0 : Kd.C (Kd.int .i64) w A0 l0.length l0) (hc0 : l0.length ≤ c0) (hr1 : Kd.C (Kd.int .i64) w A1 l1.length l1) (hc1 : l1.length ≤ c1) (hr3 : Kd.C (Kd.int .i64) w A3 l3.length l3) (hc3 : l3.length ≤ c3) (h : spec_MatchAt.f k l0 l1 a2 l3 = some r) :
  Calls Try.prog 71 #[.slice A0 l0.length c0, .slice A1 l1.length c1, .int .i64 a2, .slice A3 l3.length c3] w fun e w' => e = .returned (.bool r) ∧ Below w.heap.size w w' := by
 have HR0 := am hr0; have HC0 := am hc0; have HR1 := am hr1; have HC1 := am hc1; have HR3 := am hr3; have HC3 := am hc3; clear hr0 hc0 hr1 hc1 hr3 hc3; unfold spec_MatchAt.f at h; have h_ := Option.bind_eq_some_iff.mp h; clear h; obtain ⟨t, ht, h⟩ := h_; have HT := am ht; clear ht; by_cases hok : t < 0 ∨ a2 < 0 ∨ (l0.length : Int) < a2
 ·rw [if_pos hok] at h; obtain rfl := Option.some.inj h; clear h; by_cases h0 : t < 0
  ·have hd0 : decide (t < 0) = true := decide_eq_true h0; clear hok h0; go_enter Try.func71, Try.ntmps71; go_wp2_with fail; refine (spec_MatchLength.calls k A1 c1 l1 A3 c3 l3 t w HR1.out HC1.out HR3.out HC3.out HT.out).mono ?_; rintro e_ w1 ⟨rfl, hb1⟩; have HB1 := am hb1; clear hb1; go_wp2_with fail; go_ret; exact ⟨rfl, HB1.out⟩
  ·have hd0 : decide (t < 0) = false := decide_eq_false h0; by_cases h1 : a2 < 0
   ·have hd1 : decide (a2 < 0) = true := decide_eq_true h1; clear hok h0 h1; go_enter Try.func71, Try.ntmps71; go_wp2_with fail; refine (spec_MatchLength.calls k A1 c1 l1 A3 c3 l3 t w HR1.out HC1.out HR3.out HC3.out HT.out).mono ?_; rintro e_ w1 ⟨rfl, hb1⟩; have HB1 := am hb1; clear hb1; go_wp2_with fail; go_ret; exact ⟨rfl, HB1.out⟩
   ·have hd1 : decide (a2 < 0) = false := decide_eq_false h1; have hd2 : decide ((l0.length : Int) < a2) = true := decide_eq_true (by omega); clear hok h0 h1; go_enter Try.func71, Try.ntmps71; go_wp2_with fail; refine (spec_MatchLength.calls k A1 c1 l1 A3 c3 l3 t w HR1.out HC1.out HR3.out HC3.out HT.out).mono ?_; rintro e_ w1 ⟨rfl, hb1⟩; have HB1 := am hb1; clear hb1; go_wp2_with fail; go_ret; exact ⟨rfl, HB1.out⟩
 ·rw [if_neg hok] at h; by_cases hbd : ¬ (l0.length ≤ 1000000 ∧ t ≤ 1000000)
  ·rw [if_pos hbd] at h; cases h
  ·rw [if_neg hbd] at h; obtain ⟨b0, rfl⟩ : ∃ n : Nat, a2 = (n : Int) := ⟨a2.toNat, by omega⟩; obtain ⟨tn, rfl⟩ : ∃ n : Nat, t = (n : Int) := ⟨t.toNat, by omega⟩; have hd0 : decide ((tn : Int) < 0) = false := by simp
   have hd1 : decide ((b0 : Int) < 0) = false := by simp
   have hd2 : decide ((l0.length : Int) < (b0 : Int)) = false := decide_eq_false (by omega); have hb0 : b0 ≤ l0.length := by omega
   have hbt : tn ≤ 1000000 := by omega
   have hbl : l0.length ≤ 1000000 := by omega
   clear hok hbd; by_cases h3 : (l0.length : Int) < (b0 : Int) + (tn : Int)
   ·rw [if_pos h3] at h; obtain rfl := Option.some.inj h; have hd3 : decide ((l0.length : Int) < (b0 : Int) + (tn : Int)) = true := decide_eq_true h3; clear h3 h; go_enter Try.func71, Try.ntmps71; go_wp2_with fail; refine (spec_MatchLength.calls k A1 c1 l1 A3 c3 l3 (tn : Int) w HR1.out HC1.out HR3.out HC3.out HT.out).mono ?_; rintro e_ w1 ⟨rfl, hb1⟩; have HB1 := am hb1; clear hb1; go_wp2_with fail; go_ret; exact ⟨rfl, HB1.out⟩
   ·rw [if_neg h3] at h; have hd3 : decide ((l0.length : Int) < (b0 : Int) + (tn : Int)) = false := decide_eq_false h3; clear h3; by_cases hm : smatOk l0 l1 l3
    ·rw [if_pos hm, Int.toNat_natCast] at h; obtain ⟨hm1, hm2, _, hm4, hm5⟩ := hm; have HM1 := am hm1; have HM2 := am hm2; have HG := am h; clear hm1 hm2 h; go_enter Try.func71, Try.ntmps71; go_wp2_with fail; refine (spec_MatchLength.calls k A1 c1 l1 A3 c3 l3 (tn : Int) w HR1.out HC1.out HR3.out HC3.out HT.out).mono ?_; rintro e_ w1 ⟨rfl, hb1⟩; have HB1 := am hb1; clear hb1; go_wp2_with ((with_reducible refine gate_dst (N := 37) rfl ?_); refine Aside0.out ?_); refine am ?_; refine Kd.R_lit (Kd.int .i64) (w0 := w) w.heap.size 3 ?hg (N := 37) ?hd (xs := ([-1, -1, -1] : List Int)) (inner := [.int .i64 (-1), .int .i64 (-1), .int .i64 (-1)]) (ok := fun _ => True) (okp := fun _ => True) ?hr ?hp (fun _ hk => hk) trivial HB1.out HB1.out.size (by simp) ?_
     case hd => rfl
     case hg => rfl
     case hr => first | (go_simp; done) | (go_simp; rfl)
     case hp => exact (((Reps.none _ _).snoc (p := -1) (c := [.int .i64 (-1)]) rfl rfl).snoc (p := -1) (c := [.int .i64 (-1)]) rfl rfl).snoc (p := -1) (c := [.int .i64 (-1)]) rfl rfl
     intro v37 w2 ho2 hb2 _ _; obtain ⟨A37, c37, rfl⟩ := Kd.R_slice ho2; have HO2 := am ho2; have HB2 := am hb2; clear ho2 hb2; go_wp2_with fail; go_loopw [11, 12] (fun v11 v12 wr => ∃ (i b : Nat) (fs : List Int), i ≤ l1.length ∧ v12 = .int .i64 i ∧ v11 = .int .i64 b ∧ Aside0 (sgo l0 l3 (l1.drop i) b fs = some r) ∧ b ≤ l0.length ∧ Aside0 (fs.length = 3) ∧ Aside0 (Kd.R (Kd.int .i64) 3 wr w.heap.size (fun _ => True) (.slice A37 3 c37) fs) ∧ Aside0 (Below w.heap.size w wr)) (fun _ v12 _ => l1.length - (intOf v12).toNat)
     case atStart => exact ⟨0, b0, [-1, -1, -1], Nat.zero_le _, rfl, rfl, HG, hb0, ⟨rfl⟩, HO2, HB2⟩
     case round =>
      clear HO2 HB2 HB1 HG; obtain ⟨i, b, fs, hi, rfl, rfl, HG, hb, HL, HO, HB⟩ := hrel; by_cases hlt : i < l1.length
      ·obtain ⟨x, hx, hxl, hx3⟩ : ∃ x : Nat, l1[i] = (x : Int) ∧ x < l3.length ∧ x < 3 := by
        have := HM1.out l1[i] (List.getElem_mem hlt); exact ⟨l1[i].toNat, by omega, by omega, by omega⟩
       obtain ⟨n, hn, hn1, hn2⟩ : ∃ n : Nat, l3[x] = (n : Int) ∧ 1 ≤ n ∧ n ≤ 40 := by
        have := HM2.out l3[x] (List.getElem_mem hxl); exact ⟨l3[x].toNat, by omega, by omega, by omega⟩
       obtain ⟨ad1, e1, hx1⟩ := Kd.at_int HR1.out (i : Int) (by omega) (by omega); subst e1; rw [Int.toNat_natCast, K.rd_get l1 i hlt, hx] at hx1; replace hx1 := pw_cell_below HB.out hx1; obtain ⟨ad3, e3, hy3⟩ := Kd.at_int HR3.out (x : Int) (by omega) (by omega); subst e3; rw [Int.toNat_natCast, K.rd_get l3 x hxl, hn] at hy3; replace hy3 := pw_cell_below HB.out hy3; have hg := HG.out; rw [K.drop_eq l1 i hlt, hx, sgo_cons _ _ _ x n _ _ (by rw [List.getD_eq_getElem?_getD, List.getElem?_eq_getElem hxl]; exact hn)] at hg; clear hx hn; by_cases hle : l0.length < b + n
       ·rw [if_pos hle] at hg; cases hg
       ·rw [if_neg hle] at hg; obtain ⟨g, cap, e30, hbg, hgl, _⟩ := Kd.R_form HO.out (by rw [HL.out]; omega); injection e30 with ea en ec; subst ea ec; clear en hgl; have HBG := am hbg; clear hbg; obtain ⟨hxw, hfw⟩ := Kd.R_celln (0 : Int) HO.out (x : Int) (by omega) (by omega); have hrd : rdOf (0 : Int) fs (x : Int) = fs.getD x 0 := by unfold rdOf; rw [Int.toNat_natCast]
        rw [Int.toNat_natCast, hrd] at hxw; rw [Int.toNat_natCast] at hfw; clear hrd; generalize fs.getD x 0 = y at hg hxw; by_cases hy : y < 0
        ·rw [if_pos hy] at hg; have HG1 := am hg; have hdy : decide (y < 0) = true := decide_eq_true hy; clear hg hy; have HP := am (Kd.R_putg HO.out (x : Int) (b : Int)); go_wp2_with ((with_reducible refine gate_store (t := 3) (p := 66) rfl ?_); refine Aside0.out ?_); refine am ?_; refine store_event (t := 3) (p := 66) (v := ?vo) (w1 := (wr.setCell ⟨g, x, none⟩ (.int .i64 (b : Int)))) ?hg ?ho ?hn ?hr ?_
         case ho => rfl
         case hg => rfl
         case hn => rfl
         case hr => first | (go_simp; done) | (go_simp; rfl)
         intro w3 hw3; have HP2 := HP.out; rw [Int.toNat_natCast] at HP2; have HO3 := am (show Kd.R (Kd.int .i64) 3 w3 w.heap.size (fun _ => True) (.slice (some ⟨g, 0, none⟩) 3 c37) (fs.set x (b : Int)) from by rw [hw3]; exact HP2.1); have HB3 := am (show Below w.heap.size w w3 from by rw [hw3]; exact below_set HB.out HBG.out); clear HP2 HP hw3 HO HB hx1 hy3 hxw hfw; go_wp2_with fail; go_roundw
         case rel => exact ⟨i + 1, b + n, fs.set x (b : Int), by omega, by go_num, by go_num, HG1, by omega, ⟨by rw [List.length_set]; exact HL.out⟩, HO3, HB3⟩
         case measure => simp [intOf]; omega
        ·rw [if_neg hy] at hg; obtain ⟨q, rfl⟩ : ∃ q : Nat, y = (q : Int) := ⟨y.toNat, by omega⟩; rw [Int.toNat_natCast] at hg; have hdy : decide ((q : Int) < 0) = false := by simp
         clear hy; by_cases hlq : l0.length < q + n
         ·rw [if_pos hlq] at hg; cases hg
         ·rw [if_neg hlq] at hg; obtain ⟨i0, hi0, _, hsz, _⟩ := info_parts info3; obtain ⟨A', hcut, hA', hC'⟩ := print_mid_of (P := Try.prog) (Value.int .i64) 0 22 3 .i64 .i64 Try.underlying22 hi0 hsz A0 c0 l0 (q : Int) ((q : Int) + (n : Int)) (by omega) (by omega) (by omega) HC0.out; obtain ⟨B', hcut2, hB', hD'⟩ := print_mid_of (P := Try.prog) (Value.int .i64) 0 22 3 .i64 .i64 Try.underlying22 hi0 hsz A0 c0 l0 (b : Int) ((b : Int) + (n : Int)) (by omega) (by omega) (by omega) HC0.out; have hrp := Kd.C_of_reads (h1 := fun _ => rfl) (hA' _ (Kd.reads_of_C HR0.out)); have hrq := Kd.C_of_reads (h1 := fun _ => rfl) (hB' _ (Kd.reads_of_C HR0.out)); clear hi0 hsz hA' hB'; rw [show ((q : Int) + (n : Int)).toNat = q + n from by omega, Int.toNat_natCast] at hcut hC' hrp; rw [show ((b : Int) + (n : Int)).toNat = b + n from by omega, Int.toNat_natCast] at hcut2 hD' hrq; have hp1 : ((l0.take (q + n)).drop q).length ≤ 1000000 := by rw [List.length_drop, List.length_take]; omega
          generalize (l0.take (q + n)).drop q = part at *; generalize (l0.take (b + n)).drop b = piece at *; obtain ⟨kc, hcc⟩ := l3Same_val part piece (by omega); have HCC := am hcc; have HRP := am (Kd.C_below hrp HB.out); have HRQ := am (Kd.C_below hrq HB.out); have HCP := am hC'; have HCQ := am hD'; clear hcc hrp hrq hC' hD' hp1; have hw1 : IntKind.i64.wrap ((q : Int) + (n : Int)) = (q : Int) + (n : Int) := IntWalk.i64_in _ (by omega); have hw2 : IntKind.i64.wrap ((b : Int) + (n : Int)) = (b : Int) + (n : Int) := IntWalk.i64_in _ (by omega); by_cases he : part = piece
          ·rw [if_pos he] at hg; have HG1 := am hg; rw [decide_eq_true he] at HCC; clear hg he; go_wp2_with fail
           (go_quiet ((go_at_call 97; (with_reducible refine (spec_l3Same.calls kc _ _ part _ _ piece true _ ?s1 ?s2 ?s3 ?s4 HCC.out).mono ?_); (case s1 => repeat (first | exact HRP.out | (with_reducible refine Kd.C_drewN ?_ _) | (with_reducible refine Kd.C_drew ?_))); (case s2 => exact HCP.out); (case s3 => repeat (first | exact HRQ.out | (with_reducible refine Kd.C_drewN ?_ _) | (with_reducible refine Kd.C_drew ?_))); (case s4 => exact HCQ.out); rintro e w' ⟨rfl, ⟨nd, rfl⟩⟩; (try first | exact ⟨rfl, _, World.drewN_drewN _ _ _⟩ | exact ⟨rfl, _, Eq.trans (World.drewN_drewN _ _ _) (congrArg (World.drewN _) (Nat.add_assoc _ _ _))⟩))))
           clear hw1 hw2; go_wp2_with fail; go_roundw
           case rel => exact ⟨i + 1, b + n, fs, by omega, by go_num, by go_num, HG1, by omega, HL, ⟨Kd.R_drewN HO.out _⟩, ⟨pw_below_drewN HB.out _⟩⟩
           case measure => simp [intOf]; omega
          ·rw [if_neg he] at hg; obtain rfl := Option.some.inj hg; rw [decide_eq_false he] at HCC; clear hg he; go_wp2_with fail
           (go_quiet ((go_at_call 97; (with_reducible refine (spec_l3Same.calls kc _ _ part _ _ piece false _ ?s1 ?s2 ?s3 ?s4 HCC.out).mono ?_); (case s1 => repeat (first | exact HRP.out | (with_reducible refine Kd.C_drewN ?_ _) | (with_reducible refine Kd.C_drew ?_))); (case s2 => exact HCP.out); (case s3 => repeat (first | exact HRQ.out | (with_reducible refine Kd.C_drewN ?_ _) | (with_reducible refine Kd.C_drew ?_))); (case s4 => exact HCQ.out); rintro e w' ⟨rfl, ⟨nd, rfl⟩⟩; (try first | exact ⟨rfl, _, World.drewN_drewN _ _ _⟩ | exact ⟨rfl, _, Eq.trans (World.drewN_drewN _ _ _) (congrArg (World.drewN _) (Nat.add_assoc _ _ _))⟩))))
           clear hw1 hw2; go_wp2_with fail; go_ret; exact ⟨rfl, pw_below_drewN HB.out _⟩
      ·have e : i = l1.length := by omega
       subst e; have hg := HG.out; rw [List.drop_length] at hg; obtain rfl : true = r := Option.some.inj hg; go_wp2_with fail; go_ret; exact ⟨rfl, HB.out⟩
    ·rw [if_neg hm] at h; cases h
mutual
def impl_patternLetters.l0 : Nat → List Int → Int → List Int → Int → Int → Option (Int)
 | 0, _, _, _, _, _ => none
 | k + 1, x0, x3, x6, x7, x8 => if x8 < x7 then (if 0 ≤ x8 then (if x8 < (x6.length : Int) then (if (rd x6 x8) < 0 then (impl_patternLetters.j1 k x0 x3 (rd x6 x8) x6 x7 x8 true) else (impl_patternLetters.j1 k x0 x3 (rd x6 x8) x6 x7 x8 (decide ((rd x6 x8) > x3)))) else (none)) else (none)) else (if (x0.length : Int) > 6 then (some 0) else (if x3 > 3 then (some 0) else (some x3)))
def impl_patternLetters.j1 : Nat → List Int → Int → Int → List Int → Int → Int → Bool → Option (Int)
 | 0, _, _, _, _, _, _, _ => none
 | k + 1, x0, x3, x5, x6, x7, x8, x18 => if x18 = true then (some 0) else (if x5 = x3 then (impl_patternLetters.l0 k x0 (wrap64 (x3 + 1)) x6 x7 (wrap64 (x8 + 1))) else (impl_patternLetters.l0 k x0 x3 x6 x7 (wrap64 (x8 + 1))))
end
def impl_patternLetters.f (k : Nat) (l0 : List Int) : Option (Int) := impl_patternLetters.l0 k l0 0 l0 (l0.length : Int) 0
theorem impl_patternLetters.mono_l : ∀ k, (∀ y0 y1 y2 y3 y4, LeO (impl_patternLetters.l0 k y0 y1 y2 y3 y4) (impl_patternLetters.l0 (k + 1) y0 y1 y2 y3 y4)) ∧ (∀ y0 y1 y2 y3 y4 y5 y6, LeO (impl_patternLetters.j1 k y0 y1 y2 y3 y4 y5 y6) (impl_patternLetters.j1 (k + 1) y0 y1 y2 y3 y4 y5 y6))
 | 0 => ⟨fun _ _ _ _ _ r h => by simp [impl_patternLetters.l0] at h, fun _ _ _ _ _ _ _ r h => by simp [impl_patternLetters.j1] at h⟩
 | k + 1 => by
  obtain ⟨ih0, ih1⟩ := impl_patternLetters.mono_l k; refine ⟨?_, ?_⟩
  ·intro y0 y1 y2 y3 y4; unfold impl_patternLetters.l0
   repeat' first
   | (with_reducible exact ih0 _ _ _ _ _)
   | (with_reducible exact ih1 _ _ _ _ _ _ _)
   | (with_reducible exact LeO.refl _)
   | (with_reducible exact LeO.none _)
   | (with_reducible refine LeO.ite ?_ ?_)
   | (with_reducible refine LeO.bind ?_ (fun _ => ?_))
  ·intro y0 y1 y2 y3 y4 y5 y6; unfold impl_patternLetters.j1
   repeat' first
   | (with_reducible exact ih0 _ _ _ _ _)
   | (with_reducible exact ih1 _ _ _ _ _ _ _)
   | (with_reducible exact LeO.refl _)
   | (with_reducible exact LeO.none _)
   | (with_reducible refine LeO.ite ?_ ?_)
   | (with_reducible refine LeO.bind ?_ (fun _ => ?_))
theorem impl_patternLetters.mono : ∀ a0 k, LeO (impl_patternLetters.f k a0) (impl_patternLetters.f (k + 1) a0) := by
 intro a0 k; obtain ⟨ih0, ih1⟩ := impl_patternLetters.mono_l k; unfold impl_patternLetters.f
 repeat' first
   | (with_reducible exact ih0 _ _ _ _ _)
   | (with_reducible exact ih1 _ _ _ _ _ _ _)
   | (with_reducible exact LeO.refl _)
   | (with_reducible exact LeO.none _)
   | (with_reducible refine LeO.ite ?_ ?_)
   | (with_reducible refine LeO.bind ?_ (fun _ => ?_))
set_option maxHeartbeats 8000000 in
set_option maxRecDepth 100000 in
theorem impl_patternLetters.calls (k : Nat) (A0 : Option Addr) (c0 : Nat) (l0 : List Int) (r : Int) (w : World) (hr0 : Kd.C (Kd.int .i64) w A0 l0.length l0) (hc0 : l0.length ≤ c0) (h : impl_patternLetters.f k l0 = some r) :
  Calls Try.prog 121 #[.slice A0 l0.length c0] w fun e w' => e = .returned (.int .i64 r) ∧ Drawn0 w w' := by
 have HR0 := am hr0; have HC0 := am hc0; clear hr0 hc0; have H : (impl_patternLetters.l0 k l0 0 l0 (l0.length : Int) 0) = some r := h; clear h; have H' := am H; clear H; go_enter Try.func121, Try.ntmps121; go_wp2; go_loopg [3, 8] k (fun kq v3 v8 w' => ∃ (x3_1 : Int) (x8_1 : Int), v3 = .int .i64 x3_1 ∧ v8 = .int .i64 x8_1 ∧ Aside0 (impl_patternLetters.l0 kq l0 x3_1 l0 (l0.length : Int) x8_1 = some r) ∧ Aside0 (kq ≤ k) ∧ Drawn0 w w')
 case atStart => exact ⟨(0), (0), (by first | rfl | (simp; done) | (simp [*]; done)), (by first | rfl | (simp; done) | (simp [*]; done)), H', ⟨Nat.le_refl _⟩, by repeat (first | exact Drawn0.refl _ | apply Drawn0.step)⟩
 case round =>
  clear H'
  try clear c1
  obtain ⟨x3_1, x8_1, rfl, rfl, HA, HK1, ⟨m1, rfl⟩⟩ := hrel; cases gk with
  | zero => exact absurd HA.out (by simp [impl_patternLetters.l0])
  | succ k1 =>
   have H := HA.out; clear HA; simp only [impl_patternLetters.l0] at H; by_cases c2 : x8_1 < (l0.length : Int)
   ·rw [if_pos c2] at H; have c2b0 : decide (x8_1 < (l0.length : Int)) = true := decide_eq_true c2; clear c2; by_cases c3 : 0 ≤ x8_1
    ·rw [if_pos c3] at H; have c3b0 : decide (0 ≤ x8_1) = true := decide_eq_true c3; clear c3; by_cases c4 : x8_1 < (l0.length : Int)
     ·rw [if_pos c4] at H; have c4b0 : decide (x8_1 < (l0.length : Int)) = true := decide_eq_true c4; clear c4; have HC5 := am H; clear H; have p859 : 0 ≤ (x8_1 : Int) := oD; have q859 : x8_1 < (l0.length : Int) := oD; obtain ⟨ad859, e859, hx859_0⟩ := Kd.at_int HR0.out x8_1 p859 q859; cases e859; replace p859 := eq_true p859; replace q859 := eq_true q859; go_upto_region 5 with (fail); go_cut [18] (fun v18 wc => ∃ (kq : Nat) (x18_4 : Bool), v18 = .bool x18_4 ∧ Aside0 (impl_patternLetters.j1 kq l0 x3_1 (rd l0 x8_1) l0 (l0.length : Int) x8_1 x18_4 = some r) ∧ Aside0 (kq ≤ k1) ∧ Drawn0 w wc)
      case first =>
       have H := HC5.out; clear HC5; by_cases c6 : (rd l0 x8_1) < 0
       ·rw [if_pos c6] at H; have c6b0 : decide ((rd l0 x8_1) < 0) = true := decide_eq_true c6; clear c6
        (first | rw [c6b0] | (simp only [i64_w, i32_w]; rw [c6b0]) | skip)
        have H' := am H; clear H; go_wp2; go_meet
        case rel => exact ⟨_, (true), (by first | rfl | (simp; done) | (simp [*]; done)), H', ⟨by have := HK1.out; first | omega | exact Nat.le_refl _⟩, by repeat (first | exact Drawn0.refl _ | apply Drawn0.step)⟩
       ·rw [if_neg c6] at H; have c6b0 : decide ((rd l0 x8_1) < 0) = false := decide_eq_false c6; clear c6
        (first | rw [c6b0] | (simp only [i64_w, i32_w]; rw [c6b0]) | skip)
        have H' := am H; clear H; go_wp2; go_meet
        case rel => exact ⟨_, (decide ((rd l0 x8_1) > x3_1)), (by first | rfl | (simp; done) | (simp [*]; done)), H', ⟨by have := HK1.out; first | omega | exact Nat.le_refl _⟩, by repeat (first | exact Drawn0.refl _ | apply Drawn0.step)⟩
      case rest =>
       clear HC5
       try clear c1
       try clear c2
       try clear c2b0
       try clear p2
       try clear c3
       try clear c3b0
       try clear c4
       try clear c4b0
       try clear c6
       try clear c6b0
       try clear hx859_0
       try clear p859
       try clear q859
       obtain ⟨kq, x18_4, rfl, HA, HJ4, ⟨mc4, rfl⟩⟩ := hcut; cases kq with
       | zero => exact absurd HA.out (by simp [impl_patternLetters.j1])
       | succ kj4 =>
        have H := HA.out; clear HA; simp only [impl_patternLetters.j1] at H; by_cases c7 : x18_4 = true
        ·subst c7; have H1 : (some 0) = some r := by rw [if_pos rfl] at H; exact H
         clear H; have H := H1; clear H1; obtain rfl := Option.some.inj H; go_wp2; go_ret; exact ⟨by first | rfl | (simp; done) | (simp [*]; done), by repeat (first | exact Drawn0.refl _ | apply Drawn0.step)⟩
        ·replace c7 := Bool.eq_false_iff.mpr c7; subst c7; have H1 : (if (rd l0 x8_1) = x3_1 then (impl_patternLetters.l0 kj4 l0 (wrap64 (x3_1 + 1)) l0 (l0.length : Int) (wrap64 (x8_1 + 1))) else (impl_patternLetters.l0 kj4 l0 x3_1 l0 (l0.length : Int) (wrap64 (x8_1 + 1)))) = some r := by rw [if_neg (show ¬ (false = true) by decide)] at H; exact H
         clear H; have H := H1; clear H1; by_cases c8 : (rd l0 x8_1) = x3_1
         ·rw [if_pos c8] at H; have c8b0 : ((rd l0 x8_1) == x3_1) = true := beq_iff_eq.mpr c8; have c8b1 : ((rd l0 x8_1) != x3_1) = false := bne_eq_false_iff_eq.mpr c8; clear c8; have H' := am H; clear H; go_wp2; go_roundg kj4
          case measure => have := HK1.out; have := HJ4.out; omega
          case rel => exact ⟨(wrap64 (x3_1 + 1)), (wrap64 (x8_1 + 1)), (by first | rfl | (simp; done) | (simp [*]; done)), (by first | rfl | (simp; done) | (simp [*]; done)), H', ⟨by have := HK1.out; have := HJ4.out; omega⟩, by repeat (first | exact Drawn0.refl _ | apply Drawn0.step)⟩
         ·rw [if_neg c8] at H; have c8b0 : ((rd l0 x8_1) == x3_1) = false := beq_eq_false_iff_ne.mpr c8; have c8b1 : ((rd l0 x8_1) != x3_1) = true := bne_iff_ne.mpr c8; have H' := am H; clear H; go_wp2; go_roundg kj4
          case measure => have := HK1.out; have := HJ4.out; omega
          case rel => exact ⟨(x3_1), (wrap64 (x8_1 + 1)), (by first | rfl | (simp; done) | (simp [*]; done)), (by first | rfl | (simp; done) | (simp [*]; done)), H', ⟨by have := HK1.out; have := HJ4.out; omega⟩, by repeat (first | exact Drawn0.refl _ | apply Drawn0.step)⟩
     ·rw [if_neg c4] at H; exact absurd H (by simp)
    ·rw [if_neg c3] at H; exact absurd H (by simp)
   ·rw [if_neg c2] at H; have c2b0 : decide (x8_1 < (l0.length : Int)) = false := decide_eq_false c2; clear c2; by_cases c9 : (l0.length : Int) > 6
    ·rw [if_pos c9] at H; have c9b0 : decide (6 < (l0.length : Int)) = true := decide_eq_true c9; have c9b1 : decide (6 < l0.length) = true := decide_eq_true (by omega); clear c9; obtain rfl := Option.some.inj H; go_wp2; go_ret; exact ⟨by first | rfl | (simp; done) | (simp [*]; done), by repeat (first | exact Drawn0.refl _ | apply Drawn0.step)⟩
    ·rw [if_neg c9] at H; have c9b0 : decide (6 < (l0.length : Int)) = false := decide_eq_false c9; have c9b1 : decide (6 < l0.length) = false := decide_eq_false (by omega); clear c9; by_cases c10 : x3_1 > 3
     ·rw [if_pos c10] at H; have c10b0 : decide (3 < x3_1) = true := decide_eq_true c10; clear c10; obtain rfl := Option.some.inj H; go_wp2; go_ret; exact ⟨by first | rfl | (simp; done) | (simp [*]; done), by repeat (first | exact Drawn0.refl _ | apply Drawn0.step)⟩
     ·rw [if_neg c10] at H; have c10b0 : decide (3 < x3_1) = false := decide_eq_false c10; clear c10; obtain rfl := Option.some.inj H; go_wp2; go_ret; exact ⟨by first | rfl | (simp; done) | (simp [*]; done), by repeat (first | exact Drawn0.refl _ | apply Drawn0.step)⟩
def impl_IsPattern.f (k : Nat) (l0 : List Int) : Option (Bool) := (impl_patternLetters.f k l0).bind fun t860 => (some (decide (t860 > 0)))
set_option maxHeartbeats 8000000 in
set_option maxRecDepth 100000 in
theorem impl_IsPattern.calls (k : Nat) (A0 : Option Addr) (c0 : Nat) (l0 : List Int) (r : Bool) (w : World) (hr0 : Kd.C (Kd.int .i64) w A0 l0.length l0) (hc0 : l0.length ≤ c0) (h : impl_IsPattern.f k l0 = some r) :
  Calls Try.prog 62 #[.slice A0 l0.length c0] w fun e w' => e = .returned (.bool r) ∧ Drawn0 w w' := by
 have HR0 := am hr0; have HC0 := am hc0; clear hr0 hc0; have H : ((impl_patternLetters.f k l0).bind fun t860 => (some (decide (t860 > 0)))) = some r := h; clear h; replace H := bE H; obtain ⟨t860, A20, H⟩ := H; replace H : (some (decide (t860 > 0))) = some r := H; have A2 := am A20; clear A20; obtain rfl := Option.some.inj H; go_enter Try.func62, Try.ntmps62; go_wp2_with (first | ((with_reducible refine gate_callee (f := 121) rfl ?_); refine goesL_ (some 4) rfl rfl Try.func121 (by kernel_rfl) rfl #[.slice A0 l0.length c0] rfl (by (try simp only [mT, mC, mN]); first | done | rfl) ?_; (with_reducible refine (impl_patternLetters.calls k _ _ l0 t860 _ ?side1 ?side2 A2.out).mono ?_); (case side1 => exact xC (HR0.out)); (case side2 => exact HC0.out); rintro e w' ⟨rfl, ⟨nd, rfl⟩⟩; refine ⟨_, rfl, ?_⟩)); go_ret; exact ⟨by first | rfl | (simp; done) | (simp [*]; done), by repeat (first | exact Drawn0.refl _ | apply Drawn0.step)⟩
mutual
def spec_FindPattern.j0 : Nat → List Int → List Int → Bool → Option (Int × List Int × Bool)
 | 0, _, _, _ => none
 | k + 1, x0, x1, x17 => if x17 = true then (some (0, ([] : List Int), false)) else ((spec_l28Letters.f k x1).bind fun t879 => (spec_FindPattern.l0 k x0 x1 t879 0))
def spec_FindPattern.l0 : Nat → List Int → List Int → Int → Int → Option (Int × List Int × Bool)
 | 0, _, _, _, _ => none
 | k + 1, x0, x1, x6, x7 => if x7 < (x0.length : Int) then (spec_FindPattern.l1 k x0 x1 x6 x7 (([1, 1, 1] : List Int))) else (some (0, ([] : List Int), false))
def spec_FindPattern.l1 : Nat → List Int → List Int → Int → Int → List Int → Option (Int × List Int × Bool)
 | 0, _, _, _, _, _ => none
 | k + 1, x0, x1, x6, x7, x8 => if 0 < (x8.length : Int) then (if (rd x8 0) ≤ (x0.length : Int) then (if 0 ≤ x6 then (if x6 ≤ (x8.length : Int) then ((spec_MatchAt.f k x0 x1 x7 (x8.take (x6 : Int).toNat)).bind fun t888 => (if t888 = true then ((some (([] : List Int) : List Int)).bind fun y889 => ((some (x8.take (x6 : Int).toNat : List Int)).bind fun y892 => (if y889.length + y892.length < 17592186044416 then (some (x7, (y889 ++ y892), true)) else (none)))) else (if 0 ≤ (wrap64 (x6 - 1)) then (if (wrap64 (x6 - 1)) < (x8.length : Int) then (spec_FindPattern.l2 k x0 x1 x6 x7 (x8.set ((wrap64 (x6 - 1)) : Int).toNat (wrap64 ((rd x8 (wrap64 (x6 - 1))) + 1))) (wrap64 (x6 - 1))) else (none)) else (none)))) else (none)) else (none)) else (spec_FindPattern.l0 k x0 x1 x6 (wrap64 (x7 + 1)))) else (none)
def spec_FindPattern.l2 : Nat → List Int → List Int → Int → Int → List Int → Int → Option (Int × List Int × Bool)
 | 0, _, _, _, _, _, _ => none
 | k + 1, x0, x1, x6, x7, x8, x9 => if x9 > 0 then (if 0 ≤ x9 then (if x9 < (x8.length : Int) then (if (rd x8 x9) > (x0.length : Int) then ((some (x8.set (x9 : Int).toNat 1 : List Int)).bind fun y902 => (if 0 ≤ (wrap64 (x9 - 1)) then (if (wrap64 (x9 - 1)) < (x8.length : Int) then (spec_FindPattern.l2 k x0 x1 x6 x7 (y902.set ((wrap64 (x9 - 1)) : Int).toNat (wrap64 ((rd y902 (wrap64 (x9 - 1))) + 1))) (wrap64 (x9 - 1))) else (none)) else (none))) else (spec_FindPattern.l1 k x0 x1 x6 x7 x8)) else (none)) else (none)) else (spec_FindPattern.l1 k x0 x1 x6 x7 x8)
end
def spec_FindPattern.f (k : Nat) (l0 : List Int) (l1 : List Int) : Option (Int × List Int × Bool) := (spec_IsPattern.f k l1).bind fun t878 => (if t878 = true then (spec_FindPattern.j0 k l0 l1 (decide ((l0.length : Int) > 24))) else (spec_FindPattern.j0 k l0 l1 true))
set_option maxHeartbeats 8000000 in
set_option maxRecDepth 100000 in
theorem spec_FindPattern.calls (k : Nat) (A0 : Option Addr) (c0 : Nat) (l0 : List Int) (A1 : Option Addr) (c1 : Nat) (l1 : List Int) (r1 : Int) (r2 : List Int) (r3 : Bool) (w : World) (hr0 : Kd.C (Kd.int .i64) w A0 l0.length l0) (hc0 : l0.length ≤ c0) (hr1 : Kd.C (Kd.int .i64) w A1 l1.length l1) (hc1 : l1.length ≤ c1) (h : spec_FindPattern.f k l0 l1 = some (r1, r2, r3)) :
  Calls Try.prog 61 #[.slice A0 l0.length c0, .slice A1 l1.length c1] w fun e w' => ∃ v1_ : Value, e = .returned (.tuple #[.agg #[.int .i64 r1, v1_], .bool r3]) ∧ Kd.R (Kd.int .i64) 3 w' w.heap.size (fun _ => True) v1_ r2 ∧ Below w.heap.size w w' := by
 have hu75 := Try.underlying75; have HR0 := am hr0; have HC0 := am hc0; clear hr0 hc0; have HR1 := am hr1; have HC1 := am hc1; clear hr1 hc1; have HB := am (Below.refl w.heap.size w); have H : ((spec_IsPattern.f k l1).bind fun t878 => (if t878 = true then (spec_FindPattern.j0 k l0 l1 (decide ((l0.length : Int) > 24))) else (spec_FindPattern.j0 k l0 l1 true))) = some (r1, r2, r3) := h; clear h; have HC3 := am H; clear H; go_enter Try.func61, Try.ntmps61; go_upto_region 1 with (first | ((with_reducible refine gate_dst (N := 4) rfl ?_); (try (refine gate_guard (by rfl) ?_; dsimp only)); refine box_event ?hg (N := 4) ?hd (cs := #[.int .i64 0, .slice none 0 0]) (t := 75) ?hr ?_; (case hd | hg => rfl); (case hr => go_simp <;> rfl); intro gb877 hg w4 hbox hb; have BK877 := am (hbox); have GW877 := am ((by rw [hg]; exact (bZ HB) : w.heap.size ≤ gb877)); have GE877 := am ((by rw [hg]; exact (bZ HB) : w.heap.size ≤ gb877)); replace HB := bS HB hb; have qW877 := Ge.mk GW877.out; have qE877 := Ge.mk GE877.out; clear hb hbox hg)); (try simp only [Act.put, qa, qz, qs]); go_cut [17] (fun v17 wc => ∃ (kq : Nat) (x17_2 : Bool), v17 = .bool x17_2 ∧ Aside0 (spec_FindPattern.j0 kq l0 l1 x17_2 = some (r1, r2, r3)) ∧ Aside0 (kq ≤ k) ∧ Aside0 (wc.heap[gb877]? = some (.cells #[.int .i64 0, (.slice none 0 0)] 75 (0, 0))) ∧ Aside0 (Below w.heap.size w wc))
 case first =>
  have H := HC3.out; clear HC3; replace H := bE H; obtain ⟨t878, A50, H⟩ := H; replace H : (if t878 = true then (spec_FindPattern.j0 k l0 l1 (decide ((l0.length : Int) > 24))) else (spec_FindPattern.j0 k l0 l1 true)) = some (r1, r2, r3) := H; have A5 := am A50; clear A50; by_cases c6 : t878 = true
  ·subst c6; have H1 : (spec_FindPattern.j0 k l0 l1 (decide ((l0.length : Int) > 24))) = some (r1, r2, r3) := by rw [if_pos rfl] at H; exact H
   clear H; have H := H1; clear H1; have H' := am H; clear H; go_wp2_with (first | ((with_reducible refine gate_callee (f := 63) rfl ?_); refine goesL_ (some 11) rfl rfl Try.func63 (by kernel_rfl) rfl #[.slice A1 l1.length c1] rfl (by (try simp only [mT, mC, mN]); first | done | rfl) ?_; (with_reducible refine (spec_IsPattern.calls k _ _ l1 true _ ?side1 ?side2 A5.out).mono ?_); (case side1 => exact xC ((Kd.C_below HR1.out HB.out))); (case side2 => exact HC1.out); rintro e w' ⟨rfl, ⟨nd, rfl⟩⟩; refine ⟨_, rfl, ?_⟩)); go_meet
   case rel => exact ⟨_, (decide ((l0.length : Int) > 24)), (by first | rfl | (simp; done) | (simp [*]; done)), H', ⟨by first | omega | exact Nat.le_refl _⟩, ⟨by exact rX BK877⟩, ⟨by exact rB HB⟩⟩
  ·replace c6 := Bool.eq_false_iff.mpr c6; subst c6; have H1 : (spec_FindPattern.j0 k l0 l1 true) = some (r1, r2, r3) := by rw [if_neg (show ¬ (false = true) by decide)] at H; exact H
   clear H; have H := H1; clear H1; have H' := am H; clear H; go_wp2_with (first | ((with_reducible refine gate_callee (f := 63) rfl ?_); refine goesL_ (some 11) rfl rfl Try.func63 (by kernel_rfl) rfl #[.slice A1 l1.length c1] rfl (by (try simp only [mT, mC, mN]); first | done | rfl) ?_; (with_reducible refine (spec_IsPattern.calls k _ _ l1 false _ ?side1 ?side2 A5.out).mono ?_); (case side1 => exact xC ((Kd.C_below HR1.out HB.out))); (case side2 => exact HC1.out); rintro e w' ⟨rfl, ⟨nd, rfl⟩⟩; refine ⟨_, rfl, ?_⟩)); go_meet
   case rel => exact ⟨_, (true), (by first | rfl | (simp; done) | (simp [*]; done)), H', ⟨by first | omega | exact Nat.le_refl _⟩, ⟨by exact rX BK877⟩, ⟨by exact rB HB⟩⟩
 case rest =>
  clear HC3
  try clear c1
  try clear p2
  try clear c6
  obtain ⟨kq, x17_2, rfl, HA, HJ2, BK877, HB⟩ := hcut; cases kq with
  | zero => exact absurd HA.out (by simp [spec_FindPattern.j0])
  | succ kj2 =>
   have H := HA.out; clear HA; simp only [spec_FindPattern.j0] at H; by_cases c7 : x17_2 = true
   ·subst c7; have H1 : (some (0, ([] : List Int), false)) = some (r1, r2, r3) := by rw [if_pos rfl] at H; exact H
    clear H; have H := H1; clear H1; simp only [Option.some.injEq, Prod.mk.injEq] at H; obtain ⟨rfl, rfl, rfl⟩ := H; have hcz8_0 := z20 BK877; have hcz8_1 := z21 BK877; have hfz8_0 := blk_frozen BK877.out 0; have hfz8_1 := blk_frozen BK877.out 1; go_wp2; refine bodyPost_ret (results_ct rfl _ _ gb877 75 #[.int .i64 0, .slice none 0 0] (0, 0) _ rfl (by (with_reducible repeat (first | refine blk_drewN ?_ _ | refine blk_drew ?_ | refine blk_alloc ?_ _)); refine blk_put (cs := #[.int .i64 0, .slice none 0 0]) ?_ 1 _ rfl; (with_reducible repeat (first | refine blk_drewN ?_ _ | refine blk_drew ?_ | refine blk_alloc ?_ _)); refine blk_put (cs := #[.int .i64 0, .slice none 0 0]) ?_ 0 _ rfl; exact rX BK877) Try.underlying75 rfl (by kernel_rfl)) rfl ?_; exact ⟨_, by first | rfl | (simp [errW_none, errW_some] <;> rfl) | (simp [*, errW_none, errW_some] <;> rfl), by first | exact Kd.R_nil _ _ _ _ _ | exact Kd.N_nil _ _ _ _ _ | exact Kd.V_nil _ _ _ _ _ | exact Kd.Q_nil _ _ _ _ _ | exact Kd.S_nil _ _ _ _ _, by exact rB HB⟩
   ·replace c7 := Bool.eq_false_iff.mpr c7; subst c7; have H1 : ((spec_l28Letters.f kj2 l1).bind fun t879 => (spec_FindPattern.l0 kj2 l0 l1 t879 0)) = some (r1, r2, r3) := by rw [if_neg (show ¬ (false = true) by decide)] at H; exact H
    clear H; have H := H1; clear H1; replace H := bE H; obtain ⟨t879, A90, H⟩ := H; replace H : (spec_FindPattern.l0 kj2 l0 l1 t879 0) = some (r1, r2, r3) := H; have A9 := am A90; clear A90; have H' := am H; clear H; go_wp2_with (first | ((with_reducible refine gate_callee (f := 120) rfl ?_); refine goesL_ (some 20) rfl rfl Try.func120 (by kernel_rfl) rfl #[.slice A1 l1.length c1] rfl (by (try simp only [mT, mC, mN]); first | done | rfl) ?_; (with_reducible refine (spec_l28Letters.calls kj2 _ _ l1 t879 _ ?side1 ?side2 A9.out).mono ?_); (case side1 => exact xC ((Kd.C_below HR1.out HB.out))); (case side2 => exact HC1.out); rintro e w10 ⟨rfl, hb⟩; refine ⟨_, rfl, ?_⟩; replace BK877 := bK BK877 hb; replace HB := bS HB hb; clear hb)); go_loopg [7] kj2 (fun kq v7 w' => ∃ (x7_2 : Int) (x878000_2 : Int), v7 = .int .i64 x7_2 ∧ Aside0 (spec_FindPattern.l0 kq l0 l1 t879 x7_2 = some (r1, r2, r3)) ∧ Aside0 (kq ≤ kj2) ∧ Aside0 (w'.heap[gb877]? = some (.cells #[.int .i64 x878000_2, (.slice none 0 0)] 75 (0, 0))) ∧ Aside0 (Below w.heap.size w w'))
    case atStart => exact ⟨(0), (0), (by first | rfl | (simp; done) | (simp [*]; done)), H', ⟨Nat.le_refl _⟩, ⟨by exact rX BK877⟩, ⟨by exact rB HB⟩⟩
    case round =>
     clear H'
     try clear c1
     try clear p2
     try clear c6
     try clear c7
     try clear hcz8_0
     try clear hcz8_1
     try clear hfz8_0
     try clear hfz8_1
     try clear p2
     obtain ⟨x7_2, x878000_2, rfl, HA, HK2, BK877, HB⟩ := hrel; cases gk with
     | zero => exact absurd HA.out (by simp [spec_FindPattern.l0])
     | succ k2 =>
      have H := HA.out; clear HA; simp only [spec_FindPattern.l0] at H; by_cases c11 : x7_2 < (l0.length : Int)
      ·rw [if_pos c11] at H; have c11b0 : decide (x7_2 < (l0.length : Int)) = true := decide_eq_true c11; clear c11; obtain ⟨y880, hy880⟩ : ∃ y_ : List Int, y_ = (([1, 1, 1] : List Int)) := ⟨_, rfl⟩; replace H : (spec_FindPattern.l1 k2 l0 l1 t879 x7_2 y880) = some (r1, r2, r3) := by rw [hy880]; first | exact H | exact (Option.bind_some _ _).symm.trans H
       have Ny880 := am hy880; clear hy880; have H' := am H; clear H; go_wp2_with (first | ((with_reducible refine gate_dst (N := 27) rfl ?_); (try (refine gate_guard (by rfl) ?_; dsimp only)); refine Kd.R_lit (Kd.int .i64) _ 3 ?hg (N := 27) ?hd (xs := ([1, 1, 1] : List Int)) (inner := [.int .i64 1, .int .i64 1, .int .i64 1]) (ok := fun _ => True) (okp := fun _ => True) ?hr ?hp (fun _ hk => hk) trivial (Below.refl _ _) (Nat.le_refl _) (by simp) ?_; (case hd | hg => rfl); (case hr => go_simp <;> rfl); (case hp => exact (Reps.one (show Kd.M (Kd.int .i64) _ _ _ 1 [.int .i64 1] from rfl) (Reps.one (show Kd.M (Kd.int .i64) _ _ _ 1 [.int .i64 1] from rfl) (Reps.one (show Kd.M (Kd.int .i64) _ _ _ 1 [.int .i64 1] from rfl) (Reps.none _ _))))); intro v881 w12 ho13 hb hg_ hnew_; clear hg_ hnew_; (first | rw [← Ny880.out] at ho13 | (simp only [Int.reduceToNat] at ho13; rw [← Ny880.out] at ho13)); have HO882 := am (Kd.R_lower ho13 (bZ HB)); replace BK877 := bK BK877 hb; replace HB := bS HB hb; clear hb ho13)); go_loopg [] k2 (fun kq w' => ∃ (x8_3 : List Int) (x878000_3 : Int), Aside0 (spec_FindPattern.l1 kq l0 l1 t879 x7_2 x8_3 = some (r1, r2, r3)) ∧ Aside0 (kq ≤ k2) ∧ Aside0 (Kd.R (Kd.int .i64) 3 w' w.heap.size (fun _ => True) v881 x8_3) ∧ Aside0 (w'.heap[gb877]? = some (.cells #[.int .i64 x878000_3, (.slice none 0 0)] 75 (0, 0))) ∧ Aside0 (Below w.heap.size w w'))
       case atStart => exact ⟨(y880), (x878000_2), H', ⟨Nat.le_refl _⟩, ⟨by exact rR HO882⟩, ⟨by exact rX BK877⟩, ⟨by exact rB HB⟩⟩
       case round =>
        clear H'
        try clear c1
        try clear p2
        try clear c6
        try clear c7
        try clear c11
        try clear c11b0
        try clear c12
        try clear hcz8_0
        try clear hcz8_1
        try clear hfz8_0
        try clear hfz8_1
        try clear p2
        obtain ⟨x8_3, x878000_3, HA, HK3, HO_8, BK877, HB⟩ := hrel; cases gk with
        | zero => exact absurd HA.out (by simp [spec_FindPattern.l1])
        | succ k3 =>
         have H := HA.out; clear HA; simp only [spec_FindPattern.l1] at H; by_cases c14 : 0 < (x8_3.length : Int)
         ·rw [if_pos c14] at H; have c14b0 : decide (0 < (x8_3.length : Int)) = true := decide_eq_true c14; have c14b1 : decide (0 < x8_3.length) = true := decide_eq_true (by omega); clear c14; by_cases c15 : (rd x8_3 0) ≤ (l0.length : Int)
          ·rw [if_pos c15] at H; have c15b0 : decide ((rd x8_3 0) ≤ (l0.length : Int)) = true := decide_eq_true c15; clear c15; by_cases c16 : 0 ≤ t879
           ·rw [if_pos c16] at H; have c16b0 := eq_true c16; have c16b1 : decide (0 ≤ t879) = true := decide_eq_true c16; clear c16; by_cases c17 : t879 ≤ (x8_3.length : Int)
            ·rw [if_pos c17] at H; have c17b0 := eq_true c17; have c17b1 : decide (t879 ≤ (x8_3.length : Int)) = true := decide_eq_true c17; clear c17; obtain ⟨y884, hy884⟩ : ∃ y_ : List Int, y_ = (x8_3.take (t879 : Int).toNat) := ⟨_, rfl⟩; replace H : ((spec_MatchAt.f k3 l0 l1 x7_2 y884).bind fun t888 => (if t888 = true then ((some (([] : List Int) : List Int)).bind fun y889 => ((some (x8_3.take (t879 : Int).toNat : List Int)).bind fun y892 => (if y889.length + y892.length < 17592186044416 then (some (x7_2, (y889 ++ y892), true)) else (none)))) else (if 0 ≤ (wrap64 (t879 - 1)) then (if (wrap64 (t879 - 1)) < (x8_3.length : Int) then (spec_FindPattern.l2 k3 l0 l1 t879 x7_2 (x8_3.set ((wrap64 (t879 - 1)) : Int).toNat (wrap64 ((rd x8_3 (wrap64 (t879 - 1))) + 1))) (wrap64 (t879 - 1))) else (none)) else (none)))) = some (r1, r2, r3) := by rw [hy884]; first | exact H | exact (Option.bind_some _ _).symm.trans H
             have Ny884 := am hy884; clear hy884; replace H := bE H; obtain ⟨t888, A180, H⟩ := H; replace H : (if t888 = true then ((some (([] : List Int) : List Int)).bind fun y889 => ((some (x8_3.take (t879 : Int).toNat : List Int)).bind fun y892 => (if y889.length + y892.length < 17592186044416 then (some (x7_2, (y889 ++ y892), true)) else (none)))) else (if 0 ≤ (wrap64 (t879 - 1)) then (if (wrap64 (t879 - 1)) < (x8_3.length : Int) then (spec_FindPattern.l2 k3 l0 l1 t879 x7_2 (x8_3.set ((wrap64 (t879 - 1)) : Int).toNat (wrap64 ((rd x8_3 (wrap64 (t879 - 1))) + 1))) (wrap64 (t879 - 1))) else (none)) else (none))) = some (r1, r2, r3) := H; have A18 := am A180; clear A180; by_cases c19 : t888 = true
             ·subst c19; have H1 : ((some (([] : List Int) : List Int)).bind fun y889 => ((some (x8_3.take (t879 : Int).toNat : List Int)).bind fun y892 => (if y889.length + y892.length < 17592186044416 then (some (x7_2, (y889 ++ y892), true)) else (none)))) = some (r1, r2, r3) := by rw [if_pos rfl] at H; exact H
              clear H; have H := H1; clear H1; obtain ⟨y889, hy889⟩ : ∃ y_ : List Int, y_ = (([] : List Int)) := ⟨_, rfl⟩; replace H : ((some (x8_3.take (t879 : Int).toNat : List Int)).bind fun y892 => (if y889.length + y892.length < 17592186044416 then (some (x7_2, (y889 ++ y892), true)) else (none))) = some (r1, r2, r3) := by rw [hy889]; first | exact H | exact (Option.bind_some _ _).symm.trans H
              have Ny889 := am hy889; clear hy889; have c20b0 := eq_true (oD : 0 ≤ t879); have c21b0 := eq_true (oD : t879 ≤ (x8_3.length : Int)); obtain ⟨y892, hy892⟩ : ∃ y_ : List Int, y_ = (x8_3.take (t879 : Int).toNat) := ⟨_, rfl⟩; replace H : (if y889.length + y892.length < 17592186044416 then (some (x7_2, (y889 ++ y892), true)) else (none)) = some (r1, r2, r3) := by rw [hy892]; first | exact H | exact (Option.bind_some _ _).symm.trans H
              have Ny892 := am hy892; clear hy892; by_cases c22 : y889.length + y892.length < 17592186044416
              ·rw [if_pos c22] at H; have LMc22 := am c22; clear c22; obtain ⟨y896, hy896⟩ : ∃ y_ : List Int, y_ = (y889 ++ y892) := ⟨_, rfl⟩; replace H : (some (x7_2, y896, true)) = some (r1, r2, r3) := by rw [hy896]; first | exact H | exact (Option.bind_some _ _).symm.trans H
               have Ny896 := am hy896; clear hy896; simp only [Option.some.injEq, Prod.mk.injEq] at H; obtain ⟨rfl, rfl, rfl⟩ := H; obtain ⟨Ao23, co23, eo23⟩ := Kd.R_slice HO_8.out; subst eo23; have p883 : 0 ≤ (0 : Int) := (by omega); have q883 : 0 < (x8_3.length : Int) := oD; obtain ⟨ad883, e883, hx883_0⟩ := Kd.at_int (Kd.R_reads' HO_8.out).2.2 0 p883 q883; cases e883; have qi883 : (0 < x8_3.length) = True := eq_true (by omega); (try rw [show ((0 : Int)).toNat = 0 from rfl] at hx883_0); (try rw [Addr.add_zero'] at hx883_0); replace p883 := eq_true p883; replace q883 := eq_true q883; have q24 : (t879 : Int) ≤ ((x8_3.length : Int) : Int) := oD; obtain ⟨i024, hi024, _, hsz24, _⟩ := info_parts info3; have hroom24 : x8_3.length ≤ co23 := (Kd.R_reads' HO_8.out).2.1; have hC24 : Kd.C (Kd.int .i64) _ (some ad883) x8_3.length x8_3 := (Kd.R_reads' HO_8.out).2.2; have hcut24 := cut_to (P := Try.prog) 22 3 .i64 Try.underlying22 hi024 (some ad883) x8_3.length co23 t879 (oD) q24 hroom24; have hr24 := Kd.C_take (m := (t879 : Int).toNat) hC24 (by omega); have hy24 : y884.length = (t879 : Int).toNat := (by rw [Ny884.out, List.length_take]; omega); rw [← Ny884.out] at hr24; rw [← hy24] at hcut24; have HR887 := am hr24; have HC887 := am (show y884.length ≤ co23 from by omega); clear hr24 hC24 hroom24 hi024 hsz24; have KY24 := am hy24; clear hy24; have KL24 := am (show (t879 : Int).toNat ≤ x8_3.length from by omega); replace q24 := eq_true q24; go_wp2_with (first | ((with_reducible refine gate_callee (f := 71) rfl ?_); refine goesL_ (some 40) rfl rfl Try.func71 (by kernel_rfl) rfl #[.slice A0 l0.length c0, .slice A1 l1.length c1, .int .i64 x7_2, .slice (some ad883) y884.length co23] rfl (by (try simp only [List.map_toArray, List.map_cons, List.map_nil]); first | done | rfl | (simp only [List.length_drop, List.length_take]; rfl)) ?_; (with_reducible refine (spec_MatchAt.calls k3 _ _ l0 _ _ l1 x7_2 _ _ y884 true _ ?side1 ?side2 ?side3 ?side4 ?side5 ?side6 A18.out).mono ?_); (case side1 => repeat (first | exact (Kd.C_below HR0.out HB.out) | (with_reducible refine Kd.C_alloc ?_ _) | (with_reducible refine Kd.C_drewN ?_ _) | (with_reducible refine Kd.C_drew ?_))); (case side2 => exact HC0.out); (case side3 => repeat (first | exact (Kd.C_below HR1.out HB.out) | (with_reducible refine Kd.C_alloc ?_ _) | (with_reducible refine Kd.C_drewN ?_ _) | (with_reducible refine Kd.C_drew ?_))); (case side4 => exact HC1.out); (case side5 => repeat (first | exact (by repeat (first | (with_reducible exact HR887.out) | (with_reducible refine Kd.C_alloc ?_ _) | (with_reducible refine Kd.C_drewN ?_ _) | (with_reducible refine Kd.C_drew ?_) | exact HR887.out)) | (with_reducible refine Kd.C_alloc ?_ _) | (with_reducible refine Kd.C_drewN ?_ _) | (with_reducible refine Kd.C_drew ?_))); (case side6 => exact HC887.out); rintro e w25 ⟨rfl, hb⟩; refine ⟨_, rfl, ?_⟩; have n0_ := Aside0.mk (Kd.R_below (by (with_reducible repeat (first | apply Kd.R_alloc | apply Kd.R_drewN | apply Kd.R_drew)); exact HO_8.out) hb); have n1_ := Aside0.mk (blk_below (g := gb877) (o := .cells #[.int .i64 x878000_3, .slice none 0 0] 75 (0, 0)) (by (with_reducible repeat (first | refine blk_drewN ?_ _ | refine blk_drew ?_ | refine blk_alloc ?_ _)); exact BK877.out) hb); have n2_ := Aside0.mk (Kd.C_below (by repeat (first | (with_reducible exact HR887.out) | (with_reducible refine Kd.C_alloc ?_ _) | (with_reducible refine Kd.C_drewN ?_ _) | (with_reducible refine Kd.C_drew ?_) | exact HR887.out)) hb); have n3_ := Aside0.mk (below_step (by repeat (first | (with_reducible first | exact HB.out | apply below_alloc | apply pw_below_drewN | apply below_drew1 | refine below_set ?_ GE877.out) | exact HB.out)) hb); clear HO_8; clear BK877; clear HR887; clear HB; have HO_8 := n0_; have BK877 := n1_; have HR887 := n2_; have HB := n3_; clear n0_ n1_ n2_ n3_; (try clear hb); (try clear hb2); (try clear hk); (try clear hi)) | ((with_reducible refine gate_dst (N := 42) rfl ?_); (try (refine gate_guard (by rfl) ?_; dsimp only)); refine Kd.R_lit (Kd.int .i64) _ 3 ?hg (N := 42) ?hd (xs := ([] : List Int)) (inner := []) (ok := fun _ => True) (okp := fun _ => True) ?hr ?hp (fun _ hk => hk) trivial (Below.refl _ _) (Nat.le_refl _) (by simp) ?_; (case hd => rfl); (case hg => rfl); (case hr => first | (go_simp; done) | (go_simp; rfl)); (case hp => exact (Reps.none _ _)); intro v890 w26 ho27 hb hg_ hnew_; clear hg_ hnew_; (first | rw [← Ny889.out] at ho27 | (simp only [Int.reduceToNat] at ho27; rw [← Ny889.out] at ho27)); have n0_ := Aside0.mk (Kd.R_elder' (by (with_reducible repeat (first | apply Kd.R_alloc | apply Kd.R_drewN | apply Kd.R_drew)); exact HO_8.out) (Kd.R_base ho27) hb); have n1_ := Aside0.mk (Kd.R_lower (Kd.R_new' ho27 (Kd.R_lt (by (with_reducible repeat (first | apply Kd.R_alloc | apply Kd.R_drewN | apply Kd.R_drew)); exact HO_8.out))) (below_size (by repeat (first | (with_reducible first | exact HB.out | apply below_alloc | apply pw_below_drewN | apply below_drew1 | refine below_set ?_ GE877.out) | exact HB.out)))); have n2_ := Aside0.mk (blk_below (g := gb877) (o := .cells #[.int .i64 x878000_3, .slice none 0 0] 75 (0, 0)) (by (with_reducible repeat (first | refine blk_drewN ?_ _ | refine blk_drew ?_ | refine blk_alloc ?_ _)); exact BK877.out) hb); have n3_ := Aside0.mk (Kd.C_below (by repeat (first | (with_reducible exact HR887.out) | (with_reducible refine Kd.C_alloc ?_ _) | (with_reducible refine Kd.C_drewN ?_ _) | (with_reducible refine Kd.C_drew ?_) | exact HR887.out)) hb); have n4_ := Aside0.mk (below_step (by repeat (first | (with_reducible first | exact HB.out | apply below_alloc | apply pw_below_drewN | apply below_drew1 | refine below_set ?_ GE877.out) | exact HB.out)) hb); clear HO_8; clear BK877; clear HR887; clear HB; have HO_8 := n0_; have HO891 := n1_; have BK877 := n2_; have HR887 := n3_; have HB := n4_; clear n0_ n1_ n2_ n3_ n4_; clear hb ho27; have q28 : (t879 : Int) ≤ ((x8_3.length : Int) : Int) := of_decide_eq_true (by first | (with_reducible assumption) | assumption); obtain ⟨i028, hi028, _, hsz28, _⟩ := info_parts info3; have hroom28 : x8_3.length ≤ co23 := (Kd.R_reads' HO_8.out).2.1; have hC28 : Kd.C (Kd.int .i64) _ (some ad883) x8_3.length x8_3 := (Kd.R_reads' HO_8.out).2.2; (try clear hcut24); have hcut28 := cut_to (P := Try.prog) 22 3 .i64 Try.underlying22 hi028 (some ad883) x8_3.length co23 t879 (of_decide_eq_true (by first | (with_reducible assumption) | assumption)) q28 hroom28; have hr28 := Kd.C_take (m := (t879 : Int).toNat) hC28 (by omega); have hy28 : y892.length = (t879 : Int).toNat := (by rw [Ny892.out, List.length_take]; omega); rw [← Ny892.out] at hr28; rw [← hy28] at hcut28; have HR895 := Aside0.mk hr28; have HC895 := Aside0.mk (show y892.length ≤ co23 from by omega); clear hr28 hC28 hroom28 hi028 hsz28; have KY28 := Aside0.mk hy28; clear hy28; have KL28 := Aside0.mk (show (t879 : Int).toNat ≤ x8_3.length from by omega); replace q28 := eq_true q28) | ((with_reducible refine gate_builtin (b := .append) (xs := #[.tmp 42, .tmp 45]) rfl ?_); (try (refine gate_guard (by rfl) ?_; dsimp only)); at_builtin; refine Kd.R_append_rows (Kd.int .i64) (w0 := w) w.heap.size rfl (.tmp 42) (.tmp 45) 22 3 (.int .i64 0) 8 rfl Try.underlying22 info3 rfl (by decide) (by omega) v890 y889 y892 _ _ _ (fun k_ => some k_ ≠ (.slice (some ad883) x8_3.length co23 : Value).ownBlock) (fun _ => False) rfl rfl ?aO ?aR (fun _ _ h => h) (fun _ h => h.elim) ?aF ?aB ?aS ?aL ?_; (case aR => repeat (first | exact (by repeat (first | (with_reducible exact HR895.out) | (with_reducible refine Kd.C_alloc ?_ _) | (with_reducible refine Kd.C_drewN ?_ _) | (with_reducible refine Kd.C_drew ?_) | exact HR895.out)) | (with_reducible refine Kd.C_alloc ?_ _) | (with_reducible refine Kd.C_drewN ?_ _) | (with_reducible refine Kd.C_drew ?_))); (case aB => exact (by repeat (first | (with_reducible first | exact HB.out | apply below_alloc | apply pw_below_drewN | apply below_drew1 | refine below_set ?_ GE877.out) | exact HB.out))); (case aF => exact (fun k_ hk => Kd.fresh' (Kd.R_lt (by (with_reducible repeat (first | apply Kd.R_alloc | apply Kd.R_drewN | apply Kd.R_drew)); exact HO_8.out)) k_ hk)); (case aO => exact (by (with_reducible repeat (first | apply Kd.R_alloc | apply Kd.R_drewN | apply Kd.R_drew)); exact Kd.R_mono HO891.out (fun _ hk => hk.2))); (case aS => exact (below_size (by repeat (first | (with_reducible first | exact HB.out | apply below_alloc | apply pw_below_drewN | apply below_drew1 | refine below_set ?_ GE877.out) | exact HB.out)))); (case aL => have := LMc22.out; omega); intro v897 w29 ho hb hg hat; rw [← Ny896.out] at ho; have n0_ := Aside0.mk (Kd.R_after (ok := (fun _ => True)) (by (with_reducible repeat (first | apply Kd.R_alloc | apply Kd.R_drewN | apply Kd.R_drew)); exact HO_8.out) hg hat); have n1_ := Aside0.mk (blk_grown (g := gb877) (o := .cells #[.int .i64 x878000_3, .slice none 0 0] 75 (0, 0)) (by (with_reducible repeat (first | refine blk_drewN ?_ _ | refine blk_drew ?_ | refine blk_alloc ?_ _)); exact BK877.out) hg (Kd.R_ne HO891.out BK877.out (by decide))); have n2_ := Aside0.mk (hb); have n3_ := Aside0.mk ((show Kd.C (Kd.int .i64) w29 (some ad883) y884.length y884 from by rw [Ny884.out]; exact Kd.C_take (m := (t879 : Int).toNat) ((Kd.R_reads' (Kd.R_after (ok := (fun _ => True)) (by (with_reducible repeat (first | apply Kd.R_alloc | apply Kd.R_drewN | apply Kd.R_drew)); exact HO_8.out) hg hat)).2.2) KL24.out)); have n4_ := Aside0.mk ((show Kd.C (Kd.int .i64) w29 (some ad883) y892.length y892 from by rw [Ny892.out]; exact Kd.C_take (m := (t879 : Int).toNat) ((Kd.R_reads' (Kd.R_after (ok := (fun _ => True)) (by (with_reducible repeat (first | apply Kd.R_alloc | apply Kd.R_drewN | apply Kd.R_drew)); exact HO_8.out) hg hat)).2.2) KL28.out)); have n5_ := Aside0.mk (ho); clear HO_8; clear BK877; clear HB; clear HR887; clear HR895; clear HO891; have HO_8 := n0_; have BK877 := n1_; have HB := n2_; have HR887 := n3_; have HR895 := n4_; have HO898 := n5_; clear n0_ n1_ n2_ n3_ n4_ n5_; clear ho hb hg hat; obtain ⟨Ao30, co30, eo30⟩ := Kd.R_slice HO898.out; subst eo30; have hcz31_0 : w29.cell? ⟨gb877, 0, none⟩ = some (.int .i64 x878000_3) := (blk_cell BK877.out 0).trans rfl; have hcz31_1 : w29.cell? ⟨gb877, 1, none⟩ = some (.slice none 0 0) := (blk_cell BK877.out 1).trans rfl; have hfz31_0 := blk_frozen BK877.out 0; have hfz31_1 := blk_frozen BK877.out 1)); refine bodyPost_ret (results_ct rfl _ _ gb877 75 #[.int .i64 x7_2, .slice Ao30 y896.length co30] (0, 0) _ rfl (by (with_reducible repeat (first | refine blk_drewN ?_ _ | refine blk_drew ?_ | refine blk_alloc ?_ _)); refine blk_put (cs := #[.int .i64 x7_2, .slice none 0 0]) ?_ 1 _ rfl; (with_reducible repeat (first | refine blk_drewN ?_ _ | refine blk_drew ?_ | refine blk_alloc ?_ _)); refine blk_put (cs := #[.int .i64 x878000_3, .slice none 0 0]) ?_ 0 _ rfl; (with_reducible repeat (first | refine blk_drewN ?_ _ | refine blk_drew ?_ | refine blk_alloc ?_ _)); exact BK877.out) Try.underlying75 rfl (by kernel_rfl)) rfl ?_; exact ⟨_, by first | rfl | (simp [errW_none, errW_some] <;> rfl) | (simp [*, errW_none, errW_some] <;> rfl), by exact xR (Kd.R_mono (Kd.R_far (p := ⟨gb877, 1, none⟩) (Kd.R_far (p := ⟨gb877, 0, none⟩) (Kd.R_types HO898.out BK877.out (by decide)) (fun _ hk => hk.2) (.int .i64 x7_2)) (fun _ hk => hk.2) (.slice Ao30 y896.length co30)) (fun _ hk => trivial)), by exact rB HB⟩
              ·rw [if_neg c22] at H; exact absurd H (by simp)
             ·replace c19 := Bool.eq_false_iff.mpr c19; subst c19; have H1 : (if 0 ≤ (wrap64 (t879 - 1)) then (if (wrap64 (t879 - 1)) < (x8_3.length : Int) then (spec_FindPattern.l2 k3 l0 l1 t879 x7_2 (x8_3.set ((wrap64 (t879 - 1)) : Int).toNat (wrap64 ((rd x8_3 (wrap64 (t879 - 1))) + 1))) (wrap64 (t879 - 1))) else (none)) else (none)) = some (r1, r2, r3) := by rw [if_neg (show ¬ (false = true) by decide)] at H; exact H
              clear H; have H := H1; clear H1; obtain ⟨ji32, hji32⟩ : ∃ j_ : Int, (wrap64 (t879 - 1)) = j_ := ⟨_, rfl⟩; replace H : (if 0 ≤ (ji32) then (if (ji32) < (x8_3.length : Int) then (spec_FindPattern.l2 k3 l0 l1 t879 x7_2 (x8_3.set ((ji32) : Int).toNat (wrap64 ((rd x8_3 (ji32)) + 1))) ji32) else (none)) else (none)) = some (r1, r2, r3) := by first | (rw [hji32] at H; exact H) | (simp only [hji32] at H ⊢; exact H)
              (try rw [hji32] at A18); have hji32w : (IntKind.i64.wrap (t879 - 1)) = ji32 := (i64_w _).trans hji32; by_cases c33 : 0 ≤ (ji32)
              ·rw [if_pos c33] at H; have c33b0 : decide (0 ≤ (ji32)) = true := decide_eq_true c33; clear c33; by_cases c34 : (ji32) < (x8_3.length : Int)
               ·rw [if_pos c34] at H; have c34b0 : decide ((ji32) < (x8_3.length : Int)) = true := decide_eq_true c34; clear c34; obtain ⟨y900, hy900⟩ : ∃ y_ : List Int, y_ = (x8_3.set ((ji32) : Int).toNat (wrap64 ((rd x8_3 (ji32)) + 1))) := ⟨_, rfl⟩; replace H : (spec_FindPattern.l2 k3 l0 l1 t879 x7_2 y900 ji32) = some (r1, r2, r3) := by rw [hy900]; first | exact H | exact (Option.bind_some _ _).symm.trans H
                have Ny900 := am hy900; clear hy900; have H' := am H; clear H; obtain ⟨Ao36, co36, eo36⟩ := Kd.R_slice HO_8.out; subst eo36; have p883 : 0 ≤ (0 : Int) := (by omega); have q883 : 0 < (x8_3.length : Int) := oD; obtain ⟨ad883, e883, hx883_0⟩ := Kd.at_int (Kd.R_reads' HO_8.out).2.2 0 p883 q883; cases e883; have qi883 : (0 < x8_3.length) = True := eq_true (by omega); (try rw [show ((0 : Int)).toNat = 0 from rfl] at hx883_0); (try rw [Addr.add_zero'] at hx883_0); replace p883 := eq_true p883; replace q883 := eq_true q883; have q37 : (t879 : Int) ≤ ((x8_3.length : Int) : Int) := oD; obtain ⟨i037, hi037, _, hsz37, _⟩ := info_parts info3; have hroom37 : x8_3.length ≤ co36 := (Kd.R_reads' HO_8.out).2.1; have hC37 : Kd.C (Kd.int .i64) _ (some ad883) x8_3.length x8_3 := (Kd.R_reads' HO_8.out).2.2; have hcut37 := cut_to (P := Try.prog) 22 3 .i64 Try.underlying22 hi037 (some ad883) x8_3.length co36 t879 (oD) q37 hroom37; have hr37 := Kd.C_take (m := (t879 : Int).toNat) hC37 (by omega); have hy37 : y884.length = (t879 : Int).toNat := (by rw [Ny884.out, List.length_take]; omega); rw [← Ny884.out] at hr37; rw [← hy37] at hcut37; have HR887 := am hr37; have HC887 := am (show y884.length ≤ co36 from by omega); clear hr37 hC37 hroom37 hi037 hsz37; have KY37 := am hy37; clear hy37; have KL37 := am (show (t879 : Int).toNat ≤ x8_3.length from by omega); replace q37 := eq_true q37; go_wp2_with (first | ((with_reducible refine gate_callee (f := 71) rfl ?_); refine goesL_ (some 40) rfl rfl Try.func71 (by kernel_rfl) rfl #[.slice A0 l0.length c0, .slice A1 l1.length c1, .int .i64 x7_2, .slice (some ad883) y884.length co36] rfl (by (try simp only [mT, mC, mN]); first | done | rfl) ?_; (with_reducible refine (spec_MatchAt.calls k3 _ _ l0 _ _ l1 x7_2 _ _ y884 false _ ?side1 ?side2 ?side3 ?side4 ?side5 ?side6 A18.out).mono ?_); (case side1 => exact xC ((Kd.C_below HR0.out HB.out))); (case side2 => exact HC0.out); (case side3 => exact xC ((Kd.C_below HR1.out HB.out))); (case side4 => exact HC1.out); (case side5 => repeat (first | exact (by repeat (first | (with_reducible exact HR887.out) | (with_reducible refine Kd.C_alloc ?_ _) | (with_reducible refine Kd.C_drewN ?_ _) | (with_reducible refine Kd.C_drew ?_) | exact HR887.out)) | (with_reducible refine Kd.C_alloc ?_ _) | (with_reducible refine Kd.C_drewN ?_ _) | (with_reducible refine Kd.C_drew ?_))); (case side6 => exact HC887.out); rintro e w38 ⟨rfl, hb⟩; refine ⟨_, rfl, ?_⟩; replace HO_8 := am (Kd.R_below (by exact rR HO_8) hb); replace BK877 := bK BK877 hb; replace HR887 := am (Kd.C_below (by repeat (first | (with_reducible exact HR887.out) | (with_reducible refine Kd.C_alloc ?_ _) | (with_reducible refine Kd.C_drewN ?_ _) | (with_reducible refine Kd.C_drew ?_) | exact HR887.out)) hb); replace HB := bS HB hb; clear hb; have p899 : 0 ≤ ((ji32) : Int) := oD; have q899 : (ji32) < (x8_3.length : Int) := oD; obtain ⟨ad899, e899, hx899_0⟩ := Kd.at_int (Kd.R_reads' HO_8.out).2.2 (ji32) p899 q899; obtain rfl : ad883 = ad899 := (by injection e899); replace p899 := eq_true p899; replace q899 := eq_true q899; have p35 : 0 ≤ ((ji32) : Int) := oD; have q35 : ((ji32) : Int) < ((x8_3.length : Int) : Int) := oD; obtain ⟨go35, co35, eo35, gb35, gl35, cl35, HG35⟩ := Kd.R_form HO_8.out (by omega); (first | cases eo35 | (injection eo35 with ea_ en_ ec_; (first | subst ea_ | (injection ea_ with ea_; subst ea_)); subst ec_; clear en_)); have GB35 := am gb35; have GG35 := am HG35; clear gb35 gl35 HG35; (first | simp only [add_plain] at hx883_0 | skip); (first | simp only [add_plain] at hx899_0 | skip); obtain ⟨hx35_0, hf35_0⟩ := Kd.R_celln 0 HO_8.out ((ji32) : Int) p35 q35; replace p35 := eq_true p35; replace q35 := eq_true q35; obtain ⟨hy39_, hz39_⟩ := Kd.R_celln 0 HO_8.out ((ji32) : Int) (oD) (oD); have HP39 := Kd.R_putg HO_8.out ((ji32) : Int) (wrap64 ((rd x8_3 (ji32)) + 1))) | ((with_reducible refine gate_store (t := 3) (p := 57) rfl ?_); refine store_event (t := 3) (p := 57) (v := ?vo_w40) (w1 := (w38.setCell ⟨go35, ((ji32) : Int).toNat, none⟩ (.int .i64 (wrap64 ((rd x8_3 (ji32)) + 1))))) ?hg ?ho ?hn ?hr ?_; (case ho => rfl); (case hg => rfl); (case hn => rfl); (case hr => go_simp <;> rfl); intro w40 hw; have hg : w38.grownBy w40 (some go35) := (by rw [hw]; exact HP39.2); have hp_ : Kd.R (Kd.int .i64) 3 w40 w.heap.size (fun _ => True) (.slice (some ⟨go35, 0, none⟩) x8_3.length co36) y900 := (by rw [hw, Ny900.out]; exact HP39.1); clear HP39; replace BK877 := am (blk_grown (g := gb877) (o := .cells #[.int .i64 x878000_3, .slice none 0 0] 75 (0, 0)) (by exact rX BK877) hg (Kd.R_ne HO_8.out BK877.out (by decide))); replace HO_8 := am (hp_); replace HB := am ((by rw [hw]; exact below_set (HB.out) GB35.out : Below w.heap.size w w40)); clear hg hw hp_)); go_loopg [9] k3 (fun kq v9 w' => ∃ (x8_4 : List Int) (x9_4 : Int), v9 = .int .i64 x9_4 ∧ Aside0 (spec_FindPattern.l2 kq l0 l1 t879 x7_2 x8_4 x9_4 = some (r1, r2, r3)) ∧ Aside0 (kq ≤ k3) ∧ Aside0 (Kd.R (Kd.int .i64) 3 w' w.heap.size (fun _ => True) (.slice (some ⟨go35, 0, none⟩) x8_3.length co36) x8_4) ∧ Aside0 (w'.heap[gb877]? = some (.cells #[.int .i64 x878000_3, (.slice none 0 0)] 75 (0, 0))) ∧ Aside0 (Below w.heap.size w w'))
                case atStart => exact ⟨(y900), (ji32), (by first | rfl | (simp; done) | (simp only [← hji32] <;> (first | rfl | simp)) | (simp [*]; done)), H', ⟨Nat.le_refl _⟩, ⟨by exact rR HO_8⟩, ⟨by exact rX BK877⟩, ⟨by exact rB HB⟩⟩
                case round =>
                 clear H'
                 try clear c1
                 try clear c2
                 try clear p2
                 try clear q2
                 try clear c3
                 try clear p3
                 try clear q3
                 try clear hx3
                 try clear hf3
                 try clear c6
                 try clear p6
                 try clear c7
                 try clear p8
                 try clear q8
                 try clear hx8
                 try clear qi8
                 try clear c11
                 try clear c11b0
                 try clear c12
                 try clear c14
                 try clear c14b0
                 try clear c14b1
                 try clear c15
                 try clear c15b0
                 try clear c16
                 try clear c16b0
                 try clear c16b1
                 try clear c17
                 try clear c17b0
                 try clear c17b1
                 try clear c19
                 try clear c20
                 try clear c20b0
                 try clear c21
                 try clear c21b0
                 try clear c22
                 try clear q24
                 try clear q28
                 try clear c33
                 try clear c33b0
                 try clear c34
                 try clear c34b0
                 try clear p35
                 try clear q35
                 try clear hx35
                 try clear hf35
                 try clear q37
                 try clear hcz31_0
                 try clear hcz31_1
                 try clear hcz8_0
                 try clear hcz8_1
                 try clear hfz31_0
                 try clear hfz31_1
                 try clear hfz8_0
                 try clear hfz8_1
                 try clear hx35_0
                 try clear hx883_0
                 try clear hx899_0
                 try clear p2
                 try clear p35
                 try clear p883
                 try clear p899
                 try clear q24
                 try clear q28
                 try clear q35
                 try clear q37
                 try clear q883
                 try clear q899
                 obtain ⟨x8_4, x9_4, rfl, HA, HK4, HO_8, BK877, HB⟩ := hrel; have hl8_4 := (Kd.R_reads' HO_8.out).1; rw [hl8_4] at HO_8; (try simp only [hl8_4]); (try simp only [hl8_4] at BK877); cases gk with
                 | zero => exact absurd HA.out (by simp [spec_FindPattern.l2])
                 | succ k4 =>
                  have H := HA.out; clear HA; simp only [spec_FindPattern.l2] at H; by_cases c41 : x9_4 > 0
                  ·rw [if_pos c41] at H; have c41b0 : decide (0 < x9_4) = true := decide_eq_true c41; clear c41; by_cases c42 : 0 ≤ x9_4
                   ·rw [if_pos c42] at H; have c42b0 : decide (0 ≤ x9_4) = true := decide_eq_true c42; clear c42; by_cases c43 : x9_4 < (x8_4.length : Int)
                    ·rw [if_pos c43] at H; have c43b0 : decide (x9_4 < (x8_4.length : Int)) = true := decide_eq_true c43; clear c43; (try simp only [hl8_4] at c43b0); by_cases c44 : (rd x8_4 x9_4) > (l0.length : Int)
                     ·rw [if_pos c44] at H; have c44b0 : decide ((l0.length : Int) < (rd x8_4 x9_4)) = true := decide_eq_true c44; clear c44; (try simp only [hl8_4] at c44b0); obtain ⟨y902, hy902⟩ : ∃ y_ : List Int, y_ = (x8_4.set (x9_4 : Int).toNat 1) := ⟨_, rfl⟩; replace H : (if 0 ≤ (wrap64 (x9_4 - 1)) then (if (wrap64 (x9_4 - 1)) < (x8_4.length : Int) then (spec_FindPattern.l2 k4 l0 l1 t879 x7_2 (y902.set ((wrap64 (x9_4 - 1)) : Int).toNat (wrap64 ((rd y902 (wrap64 (x9_4 - 1))) + 1))) (wrap64 (x9_4 - 1))) else (none)) else (none)) = some (r1, r2, r3) := by rw [hy902]; first | exact H | exact (Option.bind_some _ _).symm.trans H
                      have Ny902 := am hy902; clear hy902; obtain ⟨ji46, hji46⟩ : ∃ j_ : Int, (wrap64 (x9_4 - 1)) = j_ := ⟨_, rfl⟩; replace H : (if 0 ≤ (ji46) then (if (ji46) < (x8_4.length : Int) then (spec_FindPattern.l2 k4 l0 l1 t879 x7_2 (y902.set ((ji46) : Int).toNat (wrap64 ((rd y902 (ji46)) + 1))) ji46) else (none)) else (none)) = some (r1, r2, r3) := by first | (rw [hji46] at H; exact H) | (simp only [hji46] at H ⊢; exact H)
                      have hji46w : (IntKind.i64.wrap (x9_4 - 1)) = ji46 := (i64_w _).trans hji46; by_cases c47 : 0 ≤ (ji46)
                      ·rw [if_pos c47] at H; have c47b0 : decide (0 ≤ (ji46)) = true := decide_eq_true c47; clear c47; by_cases c48 : (ji46) < (x8_4.length : Int)
                       ·rw [if_pos c48] at H; have c48b0 : decide ((ji46) < (x8_4.length : Int)) = true := decide_eq_true c48; clear c48; (try simp only [hl8_4] at c48b0); obtain ⟨y904, hy904⟩ : ∃ y_ : List Int, y_ = (y902.set ((ji46) : Int).toNat (wrap64 ((rd y902 (ji46)) + 1))) := ⟨_, rfl⟩; replace H : (spec_FindPattern.l2 k4 l0 l1 t879 x7_2 y904 ji46) = some (r1, r2, r3) := by rw [hy904]; first | exact H | exact (Option.bind_some _ _).symm.trans H
                        have Ny904 := am hy904; clear hy904; have H' := am H; clear H; have p901 : 0 ≤ (x9_4 : Int) := oD; have q901 : x9_4 < (x8_4.length : Int) := oD; obtain ⟨ad901, e901, hx901_0⟩ := Kd.at_int (Kd.R_reads' HO_8.out).2.2 x9_4 p901 q901; obtain rfl : (⟨go35, 0, none⟩ : Addr) = ad901 := (by injection e901)
                        (first | simp only [add_plain] at hx901_0 | simp only [add_at] at hx901_0 | simp only [Addr.add, Nat.zero_add] at hx901_0 | skip)
                        replace p901 := eq_true p901; replace q901 := eq_true q901; have p45 : 0 ≤ (x9_4 : Int) := oD; have q45 : (x9_4 : Int) < ((x8_4.length : Int) : Int) := oD; obtain ⟨hx45_0, hf45_0⟩ := Kd.R_celln 0 HO_8.out (x9_4 : Int) p45 q45; replace p45 := eq_true p45; replace q45 := eq_true q45; have HP50 := Kd.R_putg HO_8.out (x9_4 : Int) 1; go_wp2_with (first | ((with_reducible refine gate_store (t := 3) (p := 71) rfl ?_); refine store_event (t := 3) (p := 71) (v := ?vo_w51) (w1 := (wr.setCell ⟨go35, (x9_4 : Int).toNat, none⟩ (.int .i64 1))) ?hg ?ho ?hn ?hr ?_; (case ho => rfl); (case hg => rfl); (case hn => rfl); (case hr => go_simp <;> rfl); intro w51 hw; have hg : wr.grownBy w51 (some go35) := (by rw [hw]; exact HP50.2); have hp_ : Kd.R (Kd.int .i64) 3 w51 w.heap.size (fun _ => True) (.slice (some ⟨go35, 0, none⟩) x8_4.length co36) y902 := (by rw [hw, Ny902.out]; exact HP50.1); clear HP50; replace BK877 := am (blk_grown (g := gb877) (o := .cells #[.int .i64 x878000_3, .slice none 0 0] 75 (0, 0)) (by exact rX BK877) hg (Kd.R_ne HO_8.out BK877.out (by decide))); replace HO_8 := am (hp_); replace HB := am ((by rw [hw]; exact below_set (HB.out) GB35.out : Below w.heap.size w w51)); clear hg hw hp_; have p903 : 0 ≤ ((ji46) : Int) := oD; have q903 : (ji46) < (y902.length : Int) := (by have h_ : ((ji46) : Int) < ((x8_4.length : Int) : Int) := oD; first | (have e_ := (Kd.R_reads' HO_8.out).1; omega) | simpa only [Ny902.out, List.length_set] using h_); have ql903 : (((ji46) : Int) < ((x8_4.length : Int) : Int)) = True := eq_true (oD); obtain ⟨ad903, e903, hx903_0⟩ := Kd.at_int (Kd.R_reads' HO_8.out).2.2 (ji46) p903 q903; obtain rfl : (⟨go35, 0, none⟩ : Addr) = ad903 := (by injection e903); (first | simp only [add_plain] at hx903_0 | simp only [add_at] at hx903_0 | simp only [Addr.add, Nat.zero_add] at hx903_0 | skip); replace p903 := eq_true p903; replace q903 := eq_true q903; have p49 : 0 ≤ ((ji46) : Int) := oD; have q49 : ((ji46) : Int) < ((x8_4.length : Int) : Int) := oD; obtain ⟨hx49_0, hf49_0⟩ := Kd.R_celln 0 HO_8.out ((ji46) : Int) p49 q49; replace p49 := eq_true p49; replace q49 := eq_true q49; obtain ⟨hy52_, hz52_⟩ := Kd.R_celln 0 HO_8.out ((ji46) : Int) (oD) (oD); have HP52 := Kd.R_putg HO_8.out ((ji46) : Int) (wrap64 ((rd y902 (ji46)) + 1))) | ((with_reducible refine gate_store (t := 3) (p := 81) rfl ?_); refine store_event (t := 3) (p := 81) (v := ?vo_w53) (w1 := (w51.setCell ⟨go35, ((ji46) : Int).toNat, none⟩ (.int .i64 (wrap64 ((rd y902 (ji46)) + 1))))) ?hg ?ho ?hn ?hr ?_; (case ho => rfl); (case hg => rfl); (case hn => rfl); (case hr => go_simp <;> rfl); intro w53 hw; have hg : w51.grownBy w53 (some go35) := (by rw [hw]; exact HP52.2); have hp_ : Kd.R (Kd.int .i64) 3 w53 w.heap.size (fun _ => True) (.slice (some ⟨go35, 0, none⟩) x8_4.length co36) y904 := (by rw [hw, Ny904.out]; exact HP52.1); clear HP52; replace BK877 := am (blk_grown (g := gb877) (o := .cells #[.int .i64 x878000_3, .slice none 0 0] 75 (0, 0)) (by exact rX BK877) hg (Kd.R_ne HO_8.out BK877.out (by decide))); replace HO_8 := am (hp_); replace HB := am ((by rw [hw]; exact below_set (HB.out) GB35.out : Below w.heap.size w w53)); clear hg hw hp_)); (try simp only [← hl8_4]); go_roundg k4
                        case measure => have := HJ2.out; have := HK2.out; have := HK3.out; have := HK4.out; omega
                        case rel => exact ⟨(y904), (ji46), (by first | rfl | (simp; done) | (simp only [← hji46] <;> (first | rfl | simp)) | (simp [*]; done)), H', ⟨by have := HJ2.out; have := HK2.out; have := HK3.out; have := HK4.out; omega⟩, ⟨by (try simp only [hl8_4]); exact rR HO_8⟩, ⟨by (try simp only [hl8_4]); exact rX BK877⟩, ⟨by exact rB HB⟩⟩
                       ·rw [if_neg c48] at H; exact absurd H (by simp)
                      ·rw [if_neg c47] at H; exact absurd H (by simp)
                     ·rw [if_neg c44] at H; have c44b0 : decide ((l0.length : Int) < (rd x8_4 x9_4)) = false := decide_eq_false c44; clear c44; (try simp only [hl8_4] at c44b0); have H' := am H; clear H; have p901 : 0 ≤ (x9_4 : Int) := oD; have q901 : x9_4 < (x8_4.length : Int) := oD; obtain ⟨ad901, e901, hx901_0⟩ := Kd.at_int (Kd.R_reads' HO_8.out).2.2 x9_4 p901 q901; obtain rfl : (⟨go35, 0, none⟩ : Addr) = ad901 := (by injection e901)
                      (first | simp only [add_plain] at hx901_0 | simp only [add_at] at hx901_0 | simp only [Addr.add, Nat.zero_add] at hx901_0 | skip)
                      replace p901 := eq_true p901; replace q901 := eq_true q901; go_wp2; (try simp only [← hl8_4]); go_roundg k4
                      case measure => have := HJ2.out; have := HK2.out; have := HK3.out; have := HK4.out; omega
                      case rel => exact ⟨(x8_4), (x878000_3), H', ⟨by have := HJ2.out; have := HK2.out; have := HK3.out; have := HK4.out; omega⟩, ⟨by (try simp only [hl8_4]); exact rR HO_8⟩, ⟨by (try simp only [hl8_4]); exact rX BK877⟩, ⟨by exact rB HB⟩⟩
                    ·rw [if_neg c43] at H; exact absurd H (by simp)
                   ·rw [if_neg c42] at H; exact absurd H (by simp)
                  ·rw [if_neg c41] at H; have c41b0 : decide (0 < x9_4) = false := decide_eq_false c41; clear c41; have H' := am H; clear H; go_wp2; (try simp only [← hl8_4]); go_roundg k4
                   case measure => have := HJ2.out; have := HK2.out; have := HK3.out; have := HK4.out; omega
                   case rel => exact ⟨(x8_4), (x878000_3), H', ⟨by have := HJ2.out; have := HK2.out; have := HK3.out; have := HK4.out; omega⟩, ⟨by (try simp only [hl8_4]); exact rR HO_8⟩, ⟨by (try simp only [hl8_4]); exact rX BK877⟩, ⟨by exact rB HB⟩⟩
               ·rw [if_neg c34] at H; exact absurd H (by simp)
              ·rw [if_neg c33] at H; exact absurd H (by simp)
            ·rw [if_neg c17] at H; exact absurd H (by simp)
           ·rw [if_neg c16] at H; exact absurd H (by simp)
          ·rw [if_neg c15] at H; have c15b0 : decide ((rd x8_3 0) ≤ (l0.length : Int)) = false := decide_eq_false c15; clear c15; have H' := am H; clear H; obtain ⟨Ao54, co54, eo54⟩ := Kd.R_slice HO_8.out; subst eo54; have p883 : 0 ≤ (0 : Int) := (by omega); have q883 : 0 < (x8_3.length : Int) := oD; obtain ⟨ad883, e883, hx883_0⟩ := Kd.at_int (Kd.R_reads' HO_8.out).2.2 0 p883 q883; cases e883; have qi883 : (0 < x8_3.length) = True := eq_true (by omega); (try rw [show ((0 : Int)).toNat = 0 from rfl] at hx883_0); (try rw [Addr.add_zero'] at hx883_0); replace p883 := eq_true p883; replace q883 := eq_true q883; go_wp2; go_roundg k3
           case measure => have := HJ2.out; have := HK2.out; have := HK3.out; omega
           case rel => exact ⟨(wrap64 (x7_2 + 1)), (x878000_3), (by first | rfl | (simp; done) | (simp [*]; done)), H', ⟨by have := HJ2.out; have := HK2.out; have := HK3.out; omega⟩, ⟨by exact rX BK877⟩, ⟨by exact rB HB⟩⟩
         ·rw [if_neg c14] at H; exact absurd H (by simp)
      ·rw [if_neg c11] at H; have c11b0 : decide (x7_2 < (l0.length : Int)) = false := decide_eq_false c11; clear c11; simp only [Option.some.injEq, Prod.mk.injEq] at H; obtain ⟨rfl, rfl, rfl⟩ := H; have hcz55_0 := z20 BK877; have hcz55_1 := z21 BK877; have hfz55_0 := blk_frozen BK877.out 0; have hfz55_1 := blk_frozen BK877.out 1; go_wp2; refine bodyPost_ret (results_ct rfl _ _ gb877 75 #[.int .i64 0, .slice none 0 0] (0, 0) _ rfl (by (with_reducible repeat (first | refine blk_drewN ?_ _ | refine blk_drew ?_ | refine blk_alloc ?_ _)); refine blk_put (cs := #[.int .i64 0, .slice none 0 0]) ?_ 1 _ rfl; (with_reducible repeat (first | refine blk_drewN ?_ _ | refine blk_drew ?_ | refine blk_alloc ?_ _)); refine blk_put (cs := #[.int .i64 x878000_2, .slice none 0 0]) ?_ 0 _ rfl; exact rX BK877) Try.underlying75 rfl (by kernel_rfl)) rfl ?_; exact ⟨_, by first | rfl | (simp [errW_none, errW_some] <;> rfl) | (simp [*, errW_none, errW_some] <;> rfl), by first | exact Kd.R_nil _ _ _ _ _ | exact Kd.N_nil _ _ _ _ _ | exact Kd.V_nil _ _ _ _ _ | exact Kd.Q_nil _ _ _ _ _ | exact Kd.S_nil _ _ _ _ _, by exact rB HB⟩
def spec_AvoidsPattern.f (k : Nat) (l0 : List Int) (l1 : List Int) : Option (Bool) := (spec_FindPattern.f k l0 l1).bind fun bt905 => ((spec_IsPattern.f k l1).bind fun t911 => (if t911 = true then (if (l0.length : Int) ≤ 24 then (some (!bt905.2.2)) else (some false)) else (some false)))
set_option maxHeartbeats 8000000 in
set_option maxRecDepth 100000 in
theorem spec_AvoidsPattern.calls (k : Nat) (A0 : Option Addr) (c0 : Nat) (l0 : List Int) (A1 : Option Addr) (c1 : Nat) (l1 : List Int) (r : Bool) (w : World) (hr0 : Kd.C (Kd.int .i64) w A0 l0.length l0) (hc0 : l0.length ≤ c0) (hr1 : Kd.C (Kd.int .i64) w A1 l1.length l1) (hc1 : l1.length ≤ c1) (h : spec_AvoidsPattern.f k l0 l1 = some r) :
  Calls Try.prog 67 #[.slice A0 l0.length c0, .slice A1 l1.length c1] w fun e w' => e = .returned (.bool r) ∧ Below w.heap.size w w' := by
 have hu75 := Try.underlying75; have HR0 := am hr0; have HC0 := am hc0; clear hr0 hc0; have HR1 := am hr1; have HC1 := am hc1; clear hr1 hc1; have HB := am (Below.refl w.heap.size w); have H : ((spec_FindPattern.f k l0 l1).bind fun bt905 => ((spec_IsPattern.f k l1).bind fun t911 => (if t911 = true then (if (l0.length : Int) ≤ 24 then (some (!bt905.2.2)) else (some false)) else (some false)))) = some r := h; clear h; replace H := bE H; obtain ⟨⟨t905, t906, t909⟩, A30, H⟩ := H; replace H : ((spec_IsPattern.f k l1).bind fun t911 => (if t911 = true then (if (l0.length : Int) ≤ 24 then (some (!t909)) else (some false)) else (some false))) = some r := H; have A3 := am A30; clear A30; replace H := bE H; obtain ⟨t911, A40, H⟩ := H; replace H : (if t911 = true then (if (l0.length : Int) ≤ 24 then (some (!t909)) else (some false)) else (some false)) = some r := H; have A4 := am A40; clear A40; by_cases c5 : t911 = true
 ·subst c5; have H1 : (if (l0.length : Int) ≤ 24 then (some (!t909)) else (some false)) = some r := by rw [if_pos rfl] at H; exact H
  clear H; have H := H1; clear H1; by_cases c6 : (l0.length : Int) ≤ 24
  ·rw [if_pos c6] at H; have c6b0 : decide ((l0.length : Int) ≤ 24) = true := decide_eq_true c6; have c6b1 : decide (l0.length ≤ 24) = true := decide_eq_true (by omega); clear c6; obtain rfl := Option.some.inj H; go_enter Try.func67, Try.ntmps67; go_wp2_with (first | ((with_reducible refine gate_callee (f := 61) rfl ?_); refine goesL_ (some 10) rfl rfl Try.func61 (by kernel_rfl) rfl #[.slice A0 l0.length c0, .slice A1 l1.length c1] rfl (by (try simp only [mT, mC, mN]); first | done | rfl) ?_; (with_reducible refine (spec_FindPattern.calls k _ _ l0 _ _ l1 t905 t906 t909 _ ?side1 ?side2 ?side3 ?side4 A3.out).mono ?_); (case side1 => exact xC (HR0.out)); (case side2 => exact HC0.out); (case side3 => exact xC (HR1.out)); (case side4 => exact HC1.out); rintro e w7 ⟨v907, rfl, ho0, hb⟩; refine ⟨_, rfl, ?_⟩; have HO908 := am (Kd.R_lower ho0 (bZ HB)); replace HB := bS HB hb; clear hb ho0) | ((with_reducible refine gate_dst (N := 5) rfl ?_); (try (refine gate_guard (by rfl) ?_; dsimp only)); refine box_event ?hg (N := 5) ?hd (cs := #[.int .i64 0, .slice none 0 0]) (t := 75) ?hr ?_; (case hd | hg => rfl); (case hr => go_simp <;> rfl); intro gb910 hg w8 hbox hb; replace HO908 := am (Kd.R_below (by exact rR HO908) hb); have BK910 := am (hbox); have GW910 := am ((by rw [hg]; exact (bZ HB) : w.heap.size ≤ gb910)); have GE910 := am ((by rw [hg]; exact (bZ HB) : w.heap.size ≤ gb910)); replace HB := bS HB hb; have qW910 := Ge.mk GW910.out; have qE910 := Ge.mk GE910.out; clear hb hbox hg; have hcz9_0 := z20 BK910; have hcz9_1 := z21 BK910; have hfz9_0 := blk_frozen BK910.out 0; have hfz9_1 := blk_frozen BK910.out 1; obtain ⟨Ao10, co10, eo10⟩ := Kd.R_slice HO908.out; subst eo10) | ((with_reducible refine gate_callee (f := 63) rfl ?_); refine goesL_ (some 14) rfl rfl Try.func63 (by kernel_rfl) rfl #[.slice A1 l1.length c1] rfl (by (try simp only [mT, mC, mN]); first | done | rfl) ?_; (with_reducible refine (spec_IsPattern.calls k _ _ l1 true _ ?side1 ?side2 A4.out).mono ?_); (case side1 => exact Kd.C_below HR1.out (by exact rB HB)); (case side2 => exact HC1.out); rintro e w' ⟨rfl, ⟨nd, rfl⟩⟩; refine ⟨_, rfl, ?_⟩)); go_ret; exact ⟨by first | rfl | (simp [errW_none, errW_some] <;> rfl) | (simp [*, errW_none, errW_some] <;> rfl), by exact rB HB⟩
  ·rw [if_neg c6] at H; have c6b0 : decide ((l0.length : Int) ≤ 24) = false := decide_eq_false c6; have c6b1 : decide (l0.length ≤ 24) = false := decide_eq_false (by omega); clear c6; obtain rfl := Option.some.inj H; go_enter Try.func67, Try.ntmps67; go_wp2_with (first | ((with_reducible refine gate_callee (f := 61) rfl ?_); refine goesL_ (some 10) rfl rfl Try.func61 (by kernel_rfl) rfl #[.slice A0 l0.length c0, .slice A1 l1.length c1] rfl (by (try simp only [mT, mC, mN]); first | done | rfl) ?_; (with_reducible refine (spec_FindPattern.calls k _ _ l0 _ _ l1 t905 t906 t909 _ ?side1 ?side2 ?side3 ?side4 A3.out).mono ?_); (case side1 => exact xC (HR0.out)); (case side2 => exact HC0.out); (case side3 => exact xC (HR1.out)); (case side4 => exact HC1.out); rintro e w11 ⟨v907, rfl, ho0, hb⟩; refine ⟨_, rfl, ?_⟩; have HO908 := am (Kd.R_lower ho0 (bZ HB)); replace HB := bS HB hb; clear hb ho0) | ((with_reducible refine gate_dst (N := 5) rfl ?_); (try (refine gate_guard (by rfl) ?_; dsimp only)); refine box_event ?hg (N := 5) ?hd (cs := #[.int .i64 0, .slice none 0 0]) (t := 75) ?hr ?_; (case hd | hg => rfl); (case hr => go_simp <;> rfl); intro gb910 hg w12 hbox hb; replace HO908 := am (Kd.R_below (by exact rR HO908) hb); have BK910 := am (hbox); have GW910 := am ((by rw [hg]; exact (bZ HB) : w.heap.size ≤ gb910)); have GE910 := am ((by rw [hg]; exact (bZ HB) : w.heap.size ≤ gb910)); replace HB := bS HB hb; have qW910 := Ge.mk GW910.out; have qE910 := Ge.mk GE910.out; clear hb hbox hg; have hcz13_0 := z20 BK910; have hcz13_1 := z21 BK910; have hfz13_0 := blk_frozen BK910.out 0; have hfz13_1 := blk_frozen BK910.out 1; obtain ⟨Ao14, co14, eo14⟩ := Kd.R_slice HO908.out; subst eo14) | ((with_reducible refine gate_callee (f := 63) rfl ?_); refine goesL_ (some 14) rfl rfl Try.func63 (by kernel_rfl) rfl #[.slice A1 l1.length c1] rfl (by (try simp only [mT, mC, mN]); first | done | rfl) ?_; (with_reducible refine (spec_IsPattern.calls k _ _ l1 true _ ?side1 ?side2 A4.out).mono ?_); (case side1 => exact Kd.C_below HR1.out (by exact rB HB)); (case side2 => exact HC1.out); rintro e w' ⟨rfl, ⟨nd, rfl⟩⟩; refine ⟨_, rfl, ?_⟩)); go_ret; exact ⟨by first | rfl | (simp [errW_none, errW_some] <;> rfl) | (simp [*, errW_none, errW_some] <;> rfl), by exact rB HB⟩
 ·replace c5 := Bool.eq_false_iff.mpr c5; subst c5; have H1 : (some false) = some r := by rw [if_neg (show ¬ (false = true) by decide)] at H; exact H
  clear H; have H := H1; clear H1; obtain rfl := Option.some.inj H; go_enter Try.func67, Try.ntmps67; go_wp2_with (first | ((with_reducible refine gate_callee (f := 61) rfl ?_); refine goesL_ (some 10) rfl rfl Try.func61 (by kernel_rfl) rfl #[.slice A0 l0.length c0, .slice A1 l1.length c1] rfl (by (try simp only [mT, mC, mN]); first | done | rfl) ?_; (with_reducible refine (spec_FindPattern.calls k _ _ l0 _ _ l1 t905 t906 t909 _ ?side1 ?side2 ?side3 ?side4 A3.out).mono ?_); (case side1 => exact xC (HR0.out)); (case side2 => exact HC0.out); (case side3 => exact xC (HR1.out)); (case side4 => exact HC1.out); rintro e w15 ⟨v907, rfl, ho0, hb⟩; refine ⟨_, rfl, ?_⟩; have HO908 := am (Kd.R_lower ho0 (bZ HB)); replace HB := bS HB hb; clear hb ho0) | ((with_reducible refine gate_dst (N := 5) rfl ?_); (try (refine gate_guard (by rfl) ?_; dsimp only)); refine box_event ?hg (N := 5) ?hd (cs := #[.int .i64 0, .slice none 0 0]) (t := 75) ?hr ?_; (case hd | hg => rfl); (case hr => go_simp <;> rfl); intro gb910 hg w16 hbox hb; replace HO908 := am (Kd.R_below (by exact rR HO908) hb); have BK910 := am (hbox); have GW910 := am ((by rw [hg]; exact (bZ HB) : w.heap.size ≤ gb910)); have GE910 := am ((by rw [hg]; exact (bZ HB) : w.heap.size ≤ gb910)); replace HB := bS HB hb; have qW910 := Ge.mk GW910.out; have qE910 := Ge.mk GE910.out; clear hb hbox hg; have hcz17_0 := z20 BK910; have hcz17_1 := z21 BK910; have hfz17_0 := blk_frozen BK910.out 0; have hfz17_1 := blk_frozen BK910.out 1; obtain ⟨Ao18, co18, eo18⟩ := Kd.R_slice HO908.out; subst eo18) | ((with_reducible refine gate_callee (f := 63) rfl ?_); refine goesL_ (some 14) rfl rfl Try.func63 (by kernel_rfl) rfl #[.slice A1 l1.length c1] rfl (by (try simp only [mT, mC, mN]); first | done | rfl) ?_; (with_reducible refine (spec_IsPattern.calls k _ _ l1 false _ ?side1 ?side2 A4.out).mono ?_); (case side1 => exact Kd.C_below HR1.out (by exact rB HB)); (case side2 => exact HC1.out); rintro e w' ⟨rfl, ⟨nd, rfl⟩⟩; refine ⟨_, rfl, ?_⟩)); go_ret; exact ⟨by first | rfl | (simp [errW_none, errW_some] <;> rfl) | (simp [*, errW_none, errW_some] <;> rfl), by exact rB HB⟩
mutual
def impl_areLengths.j0 : Nat → List Int → Bool → Option (Bool)
 | 0, _, _ => none
 | k + 1, x1, x16 => if x16 = true then (some false) else (impl_areLengths.l0 k x1 (x1.length : Int) 0)
def impl_areLengths.l0 : Nat → List Int → Int → Int → Option (Bool)
 | 0, _, _, _ => none
 | k + 1, x17, x18, x19 => if x19 < x18 then (if 0 ≤ x19 then (if x19 < (x17.length : Int) then (if (rd x17 x19) < 1 then (some false) else (if (rd x17 x19) > 40 then (some false) else (impl_areLengths.l0 k x17 x18 (wrap64 (x19 + 1))))) else (none)) else (none)) else (some true)
end
def impl_areLengths.f (k : Nat) (l0 : List Int) (l1 : List Int) : Option (Bool) := (impl_IsPattern.f k l0).bind fun t930 => (if t930 = true then ((impl_patternLetters.f k l0).bind fun t931 => (impl_areLengths.j0 k l1 ((l1.length : Int) != t931))) else (impl_areLengths.j0 k l1 true))
set_option maxHeartbeats 8000000 in
set_option maxRecDepth 100000 in
theorem impl_areLengths.calls (k : Nat) (A0 : Option Addr) (c0 : Nat) (l0 : List Int) (A1 : Option Addr) (c1 : Nat) (l1 : List Int) (r : Bool) (w : World) (hr0 : Kd.C (Kd.int .i64) w A0 l0.length l0) (hc0 : l0.length ≤ c0) (hr1 : Kd.C (Kd.int .i64) w A1 l1.length l1) (hc1 : l1.length ≤ c1) (h : impl_areLengths.f k l0 l1 = some r) :
  Calls Try.prog 124 #[.slice A0 l0.length c0, .slice A1 l1.length c1] w fun e w' => e = .returned (.bool r) ∧ Drawn0 w w' := by
 have HR0 := am hr0; have HC0 := am hc0; clear hr0 hc0; have HR1 := am hr1; have HC1 := am hc1; clear hr1 hc1; have H : ((impl_IsPattern.f k l0).bind fun t930 => (if t930 = true then ((impl_patternLetters.f k l0).bind fun t931 => (impl_areLengths.j0 k l1 ((l1.length : Int) != t931))) else (impl_areLengths.j0 k l1 true))) = some r := h; clear h; have HC3 := am H; clear H; go_enter Try.func124, Try.ntmps124; go_upto_region 1 with (fail); go_cut [16] (fun v16 wc => ∃ (kq : Nat) (x16_2 : Bool), v16 = .bool x16_2 ∧ Aside0 (impl_areLengths.j0 kq l1 x16_2 = some r) ∧ Aside0 (kq ≤ k) ∧ Drawn0 w wc)
 case first =>
  have H := HC3.out; clear HC3; replace H := bE H; obtain ⟨t930, A40, H⟩ := H; replace H : (if t930 = true then ((impl_patternLetters.f k l0).bind fun t931 => (impl_areLengths.j0 k l1 ((l1.length : Int) != t931))) else (impl_areLengths.j0 k l1 true)) = some r := H; have A4 := am A40; clear A40; by_cases c5 : t930 = true
  ·subst c5; have H1 : ((impl_patternLetters.f k l0).bind fun t931 => (impl_areLengths.j0 k l1 ((l1.length : Int) != t931))) = some r := by rw [if_pos rfl] at H; exact H
   clear H; have H := H1; clear H1; replace H := bE H; obtain ⟨t931, A60, H⟩ := H; replace H : (impl_areLengths.j0 k l1 ((l1.length : Int) != t931)) = some r := H; have A6 := am A60; clear A60; have H' := am H; clear H; go_wp2_with (first | ((with_reducible refine gate_callee (f := 62) rfl ?_); refine goesL_ (some 8) rfl rfl Try.func62 (by kernel_rfl) rfl #[.slice A0 l0.length c0] rfl (by (try simp only [mT, mC, mN]); first | done | rfl) ?_; (with_reducible refine (impl_IsPattern.calls k _ _ l0 true _ ?side1 ?side2 A4.out).mono ?_); (case side1 => exact xC (HR0.out)); (case side2 => exact HC0.out); rintro e w' ⟨rfl, ⟨nd, rfl⟩⟩; refine ⟨_, rfl, ?_⟩) | (go_at_call 121; (with_reducible refine (impl_patternLetters.calls k _ _ l0 t931 _ ?side1 ?side2 A6.out).mono ?_); (case side1 => exact xC (HR0.out)); (case side2 => exact HC0.out); rintro e w' ⟨rfl, ⟨nd, rfl⟩⟩)); go_meet
   case rel => exact ⟨_, (((l1.length : Int) != t931)), (by first | rfl | (simp; done) | (simp [*]; done)), H', ⟨by first | omega | exact Nat.le_refl _⟩, by repeat (first | exact Drawn0.refl _ | apply Drawn0.step)⟩
  ·replace c5 := Bool.eq_false_iff.mpr c5; subst c5; have H1 : (impl_areLengths.j0 k l1 true) = some r := by rw [if_neg (show ¬ (false = true) by decide)] at H; exact H
   clear H; have H := H1; clear H1; have H' := am H; clear H; go_wp2_with (first | ((with_reducible refine gate_callee (f := 62) rfl ?_); refine goesL_ (some 8) rfl rfl Try.func62 (by kernel_rfl) rfl #[.slice A0 l0.length c0] rfl (by (try simp only [mT, mC, mN]); first | done | rfl) ?_; (with_reducible refine (impl_IsPattern.calls k _ _ l0 false _ ?side1 ?side2 A4.out).mono ?_); (case side1 => exact xC (HR0.out)); (case side2 => exact HC0.out); rintro e w' ⟨rfl, ⟨nd, rfl⟩⟩; refine ⟨_, rfl, ?_⟩)); go_meet
   case rel => exact ⟨_, (true), (by first | rfl | (simp; done) | (simp [*]; done)), H', ⟨by first | omega | exact Nat.le_refl _⟩, by repeat (first | exact Drawn0.refl _ | apply Drawn0.step)⟩
 case rest =>
  clear HC3
  try clear c1
  try clear p2
  try clear c5
  try clear c6
  obtain ⟨kq, x16_2, rfl, HA, HJ2, ⟨mc2, rfl⟩⟩ := hcut; cases kq with
  | zero => exact absurd HA.out (by simp [impl_areLengths.j0])
  | succ kj2 =>
   have H := HA.out; clear HA; simp only [impl_areLengths.j0] at H; by_cases c7 : x16_2 = true
   ·subst c7; have H1 : (some false) = some r := by rw [if_pos rfl] at H; exact H
    clear H; have H := H1; clear H1; obtain rfl := Option.some.inj H; go_wp2; go_ret; exact ⟨by first | rfl | (simp; done) | (simp [*]; done), by repeat (first | exact Drawn0.refl _ | apply Drawn0.step)⟩
   ·replace c7 := Bool.eq_false_iff.mpr c7; subst c7; have H1 : (impl_areLengths.l0 kj2 l1 (l1.length : Int) 0) = some r := by rw [if_neg (show ¬ (false = true) by decide)] at H; exact H
    clear H; have H := H1; clear H1; have H' := am H; clear H; go_wp2; go_loopg [19] kj2 (fun kq v19 w' => ∃ (x19_2 : Int), v19 = .int .i64 x19_2 ∧ Aside0 (impl_areLengths.l0 kq l1 (l1.length : Int) x19_2 = some r) ∧ Aside0 (kq ≤ kj2) ∧ Drawn0 w w')
    case atStart => exact ⟨(0), (by first | rfl | (simp; done) | (simp [*]; done)), H', ⟨Nat.le_refl _⟩, by repeat (first | exact Drawn0.refl _ | apply Drawn0.step)⟩
    case round =>
     clear H'
     try clear c1
     try clear c2
     try clear p2
     try clear c5
     try clear c6
     try clear c7
     try clear p2
     obtain ⟨x19_2, rfl, HA, HK2, ⟨m2, rfl⟩⟩ := hrel; cases gk with
     | zero => exact absurd HA.out (by simp [impl_areLengths.l0])
     | succ k2 =>
      have H := HA.out; clear HA; simp only [impl_areLengths.l0] at H; by_cases c8 : x19_2 < (l1.length : Int)
      ·rw [if_pos c8] at H; have c8b0 : decide (x19_2 < (l1.length : Int)) = true := decide_eq_true c8; clear c8; by_cases c9 : 0 ≤ x19_2
       ·rw [if_pos c9] at H; have c9b0 : decide (0 ≤ x19_2) = true := decide_eq_true c9; clear c9; by_cases c10 : x19_2 < (l1.length : Int)
        ·rw [if_pos c10] at H; have c10b0 : decide (x19_2 < (l1.length : Int)) = true := decide_eq_true c10; clear c10; by_cases c11 : (rd l1 x19_2) < 1
         ·rw [if_pos c11] at H; have c11b0 : decide ((rd l1 x19_2) < 1) = true := decide_eq_true c11; clear c11; obtain rfl := Option.some.inj H; have p932 : 0 ≤ (x19_2 : Int) := oD; have q932 : x19_2 < (l1.length : Int) := oD; obtain ⟨ad932, e932, hx932_0⟩ := Kd.at_int HR1.out x19_2 p932 q932; cases e932; replace p932 := eq_true p932; replace q932 := eq_true q932; go_wp2; go_ret; exact ⟨by first | rfl | (simp; done) | (simp [*]; done), by repeat (first | exact Drawn0.refl _ | apply Drawn0.step)⟩
         ·rw [if_neg c11] at H; have c11b0 : decide ((rd l1 x19_2) < 1) = false := decide_eq_false c11; clear c11; by_cases c12 : (rd l1 x19_2) > 40
          ·rw [if_pos c12] at H; have c12b0 : decide (40 < (rd l1 x19_2)) = true := decide_eq_true c12; clear c12; obtain rfl := Option.some.inj H; have p932 : 0 ≤ (x19_2 : Int) := oD; have q932 : x19_2 < (l1.length : Int) := oD; obtain ⟨ad932, e932, hx932_0⟩ := Kd.at_int HR1.out x19_2 p932 q932; cases e932; replace p932 := eq_true p932; replace q932 := eq_true q932; go_wp2; go_ret; exact ⟨by first | rfl | (simp; done) | (simp [*]; done), by repeat (first | exact Drawn0.refl _ | apply Drawn0.step)⟩
          ·rw [if_neg c12] at H; have c12b0 : decide (40 < (rd l1 x19_2)) = false := decide_eq_false c12; clear c12; have H' := am H; clear H; have p932 : 0 ≤ (x19_2 : Int) := oD; have q932 : x19_2 < (l1.length : Int) := oD; obtain ⟨ad932, e932, hx932_0⟩ := Kd.at_int HR1.out x19_2 p932 q932; cases e932; replace p932 := eq_true p932; replace q932 := eq_true q932; go_wp2; go_roundg k2
           case measure => have := HJ2.out; have := HK2.out; omega
           case rel => exact ⟨(wrap64 (x19_2 + 1)), (by first | rfl | (simp; done) | (simp [*]; done)), H', ⟨by have := HJ2.out; have := HK2.out; omega⟩, by repeat (first | exact Drawn0.refl _ | apply Drawn0.step)⟩
        ·rw [if_neg c10] at H; exact absurd H (by simp)
       ·rw [if_neg c9] at H; exact absurd H (by simp)
      ·rw [if_neg c8] at H; have c8b0 : decide (x19_2 < (l1.length : Int)) = false := decide_eq_false c8; clear c8; obtain rfl := Option.some.inj H; go_wp2; go_ret; exact ⟨by first | rfl | (simp; done) | (simp [*]; done), by repeat (first | exact Drawn0.refl _ | apply Drawn0.step)⟩
def cmp_isNaN_int.f (a0 : Int) : Option (Bool) := some (a0 != a0)
set_option maxHeartbeats 8000000 in
set_option maxRecDepth 100000 in
theorem cmp_isNaN_int.calls (a0 : Int) (r : Bool) (w : World) (h : cmp_isNaN_int.f a0 = some r) :
  Calls Try.prog 173 #[.int .i64 a0] w fun e w' => e = .returned (.bool r) ∧ Drawn0 w w' := by
 have H : (some (a0 != a0)) = some r := h; clear h; obtain rfl := Option.some.inj H; go_enter Try.func173, Try.ntmps173; go_wp2; go_ret; exact ⟨by first | rfl | (simp; done) | (simp [*]; done), by repeat (first | exact Drawn0.refl _ | apply Drawn0.step)⟩
def cmp_Compare_int.f (a0 : Int) (a1 : Int) : Option (Int) := (cmp_isNaN_int.f a0).bind fun t933 => ((cmp_isNaN_int.f a1).bind fun t934 => (if t933 = true then (if t934 = true then (some 0) else (some (-1))) else (if t934 = true then (some 1) else (if a0 < a1 then (some (-1)) else (if a0 > a1 then (some 1) else (some 0))))))
set_option maxHeartbeats 8000000 in
set_option maxRecDepth 100000 in
theorem cmp_Compare_int.calls (a0 : Int) (a1 : Int) (r : Int) (w : World) (h : cmp_Compare_int.f a0 a1 = some r) :
  Calls Try.prog 163 #[.int .i64 a0, .int .i64 a1] w fun e w' => e = .returned (.int .i64 r) ∧ Drawn0 w w' := by
 have H : ((cmp_isNaN_int.f a0).bind fun t933 => ((cmp_isNaN_int.f a1).bind fun t934 => (if t933 = true then (if t934 = true then (some 0) else (some (-1))) else (if t934 = true then (some 1) else (if a0 < a1 then (some (-1)) else (if a0 > a1 then (some 1) else (some 0))))))) = some r := h; clear h; replace H := bE H; obtain ⟨t933, A30, H⟩ := H; replace H : ((cmp_isNaN_int.f a1).bind fun t934 => (if t933 = true then (if t934 = true then (some 0) else (some (-1))) else (if t934 = true then (some 1) else (if a0 < a1 then (some (-1)) else (if a0 > a1 then (some 1) else (some 0)))))) = some r := H; have A3 := am A30; clear A30; replace H := bE H; obtain ⟨t934, A40, H⟩ := H; replace H : (if t933 = true then (if t934 = true then (some 0) else (some (-1))) else (if t934 = true then (some 1) else (if a0 < a1 then (some (-1)) else (if a0 > a1 then (some 1) else (some 0))))) = some r := H; have A4 := am A40; clear A40; by_cases c5 : t933 = true
 ·subst c5; have H1 : (if t934 = true then (some 0) else (some (-1))) = some r := by rw [if_pos rfl] at H; exact H
  clear H; have H := H1; clear H1; by_cases c6 : t934 = true
  ·subst c6; have H1 : (some 0) = some r := by rw [if_pos rfl] at H; exact H
   clear H; have H := H1; clear H1; obtain rfl := Option.some.inj H; go_enter Try.func163, Try.ntmps163; go_wp2_with (first | ((with_reducible refine gate_callee (f := 173) rfl ?_); refine goesL_ (some 8) rfl rfl Try.func173 (by kernel_rfl) rfl #[.int .i64 a0] rfl (by (try simp only [mT, mC, mN]); first | done | rfl) ?_; (with_reducible refine (cmp_isNaN_int.calls a0 true _ A3.out).mono ?_); rintro e w' ⟨rfl, ⟨nd, rfl⟩⟩; refine ⟨_, rfl, ?_⟩) | ((with_reducible refine gate_callee (f := 173) rfl ?_); refine goesL_ (some 10) rfl rfl Try.func173 (by kernel_rfl) rfl #[.int .i64 a1] rfl (by (try simp only [mT, mC, mN]); first | done | rfl) ?_; (with_reducible refine (cmp_isNaN_int.calls a1 true _ A4.out).mono ?_); rintro e w' ⟨rfl, ⟨nd, rfl⟩⟩; refine ⟨_, rfl, ?_⟩)); go_ret; exact ⟨by first | rfl | (simp; done) | (simp [*]; done), by repeat (first | exact Drawn0.refl _ | apply Drawn0.step)⟩
  ·replace c6 := Bool.eq_false_iff.mpr c6; subst c6; have H1 : (some (-1)) = some r := by rw [if_neg (show ¬ (false = true) by decide)] at H; exact H
   clear H; have H := H1; clear H1; obtain rfl := Option.some.inj H; go_enter Try.func163, Try.ntmps163; go_wp2_with (first | ((with_reducible refine gate_callee (f := 173) rfl ?_); refine goesL_ (some 8) rfl rfl Try.func173 (by kernel_rfl) rfl #[.int .i64 a0] rfl (by (try simp only [mT, mC, mN]); first | done | rfl) ?_; (with_reducible refine (cmp_isNaN_int.calls a0 true _ A3.out).mono ?_); rintro e w' ⟨rfl, ⟨nd, rfl⟩⟩; refine ⟨_, rfl, ?_⟩) | ((with_reducible refine gate_callee (f := 173) rfl ?_); refine goesL_ (some 10) rfl rfl Try.func173 (by kernel_rfl) rfl #[.int .i64 a1] rfl (by (try simp only [mT, mC, mN]); first | done | rfl) ?_; (with_reducible refine (cmp_isNaN_int.calls a1 false _ A4.out).mono ?_); rintro e w' ⟨rfl, ⟨nd, rfl⟩⟩; refine ⟨_, rfl, ?_⟩)); go_ret; exact ⟨by first | rfl | (simp; done) | (simp [*]; done), by repeat (first | exact Drawn0.refl _ | apply Drawn0.step)⟩
 ·replace c5 := Bool.eq_false_iff.mpr c5; subst c5; have H1 : (if t934 = true then (some 1) else (if a0 < a1 then (some (-1)) else (if a0 > a1 then (some 1) else (some 0)))) = some r := by rw [if_neg (show ¬ (false = true) by decide)] at H; exact H
  clear H; have H := H1; clear H1; by_cases c7 : t934 = true
  ·subst c7; have H1 : (some 1) = some r := by rw [if_pos rfl] at H; exact H
   clear H; have H := H1; clear H1; obtain rfl := Option.some.inj H; go_enter Try.func163, Try.ntmps163; go_wp2_with (first | ((with_reducible refine gate_callee (f := 173) rfl ?_); refine goesL_ (some 8) rfl rfl Try.func173 (by kernel_rfl) rfl #[.int .i64 a0] rfl (by (try simp only [mT, mC, mN]); first | done | rfl) ?_; (with_reducible refine (cmp_isNaN_int.calls a0 false _ A3.out).mono ?_); rintro e w' ⟨rfl, ⟨nd, rfl⟩⟩; refine ⟨_, rfl, ?_⟩) | ((with_reducible refine gate_callee (f := 173) rfl ?_); refine goesL_ (some 10) rfl rfl Try.func173 (by kernel_rfl) rfl #[.int .i64 a1] rfl (by (try simp only [mT, mC, mN]); first | done | rfl) ?_; (with_reducible refine (cmp_isNaN_int.calls a1 true _ A4.out).mono ?_); rintro e w' ⟨rfl, ⟨nd, rfl⟩⟩; refine ⟨_, rfl, ?_⟩)); go_ret; exact ⟨by first | rfl | (simp; done) | (simp [*]; done), by repeat (first | exact Drawn0.refl _ | apply Drawn0.step)⟩
  ·replace c7 := Bool.eq_false_iff.mpr c7; subst c7; have H1 : (if a0 < a1 then (some (-1)) else (if a0 > a1 then (some 1) else (some 0))) = some r := by rw [if_neg (show ¬ (false = true) by decide)] at H; exact H
   clear H; have H := H1; clear H1; by_cases c8 : a0 < a1
   ·rw [if_pos c8] at H; have c8b0 : decide (a0 < a1) = true := decide_eq_true c8; clear c8; obtain rfl := Option.some.inj H; go_enter Try.func163, Try.ntmps163; go_wp2_with (first | ((with_reducible refine gate_callee (f := 173) rfl ?_); refine goesL_ (some 8) rfl rfl Try.func173 (by kernel_rfl) rfl #[.int .i64 a0] rfl (by (try simp only [mT, mC, mN]); first | done | rfl) ?_; (with_reducible refine (cmp_isNaN_int.calls a0 false _ A3.out).mono ?_); rintro e w' ⟨rfl, ⟨nd, rfl⟩⟩; refine ⟨_, rfl, ?_⟩) | ((with_reducible refine gate_callee (f := 173) rfl ?_); refine goesL_ (some 10) rfl rfl Try.func173 (by kernel_rfl) rfl #[.int .i64 a1] rfl (by (try simp only [mT, mC, mN]); first | done | rfl) ?_; (with_reducible refine (cmp_isNaN_int.calls a1 false _ A4.out).mono ?_); rintro e w' ⟨rfl, ⟨nd, rfl⟩⟩; refine ⟨_, rfl, ?_⟩)); go_ret; exact ⟨by first | rfl | (simp; done) | (simp [*]; done), by repeat (first | exact Drawn0.refl _ | apply Drawn0.step)⟩
   ·rw [if_neg c8] at H; have c8b0 : decide (a0 < a1) = false := decide_eq_false c8; clear c8; by_cases c9 : a0 > a1
    ·rw [if_pos c9] at H; have c9b0 : decide (a1 < a0) = true := decide_eq_true c9; clear c9; obtain rfl := Option.some.inj H; go_enter Try.func163, Try.ntmps163; go_wp2_with (first | ((with_reducible refine gate_callee (f := 173) rfl ?_); refine goesL_ (some 8) rfl rfl Try.func173 (by kernel_rfl) rfl #[.int .i64 a0] rfl (by (try simp only [mT, mC, mN]); first | done | rfl) ?_; (with_reducible refine (cmp_isNaN_int.calls a0 false _ A3.out).mono ?_); rintro e w' ⟨rfl, ⟨nd, rfl⟩⟩; refine ⟨_, rfl, ?_⟩) | ((with_reducible refine gate_callee (f := 173) rfl ?_); refine goesL_ (some 10) rfl rfl Try.func173 (by kernel_rfl) rfl #[.int .i64 a1] rfl (by (try simp only [mT, mC, mN]); first | done | rfl) ?_; (with_reducible refine (cmp_isNaN_int.calls a1 false _ A4.out).mono ?_); rintro e w' ⟨rfl, ⟨nd, rfl⟩⟩; refine ⟨_, rfl, ?_⟩)); go_ret; exact ⟨by first | rfl | (simp; done) | (simp [*]; done), by repeat (first | exact Drawn0.refl _ | apply Drawn0.step)⟩
    ·rw [if_neg c9] at H; have c9b0 : decide (a1 < a0) = false := decide_eq_false c9; clear c9; obtain rfl := Option.some.inj H; go_enter Try.func163, Try.ntmps163; go_wp2_with (first | ((with_reducible refine gate_callee (f := 173) rfl ?_); refine goesL_ (some 8) rfl rfl Try.func173 (by kernel_rfl) rfl #[.int .i64 a0] rfl (by (try simp only [mT, mC, mN]); first | done | rfl) ?_; (with_reducible refine (cmp_isNaN_int.calls a0 false _ A3.out).mono ?_); rintro e w' ⟨rfl, ⟨nd, rfl⟩⟩; refine ⟨_, rfl, ?_⟩) | ((with_reducible refine gate_callee (f := 173) rfl ?_); refine goesL_ (some 10) rfl rfl Try.func173 (by kernel_rfl) rfl #[.int .i64 a1] rfl (by (try simp only [mT, mC, mN]); first | done | rfl) ?_; (with_reducible refine (cmp_isNaN_int.calls a1 false _ A4.out).mono ?_); rintro e w' ⟨rfl, ⟨nd, rfl⟩⟩; refine ⟨_, rfl, ?_⟩)); go_ret; exact ⟨by first | rfl | (simp; done) | (simp [*]; done), by repeat (first | exact Drawn0.refl _ | apply Drawn0.step)⟩
def slices_Compare_int_int.l0 : Nat → List Int → List Int → List Int → Int → Int → Option (Int)
 | 0, _, _, _, _, _ => none
 | k + 1, x0, x1, x9, x10, x11 => if x11 < x10 then (if 0 ≤ x11 then (if x11 < (x9.length : Int) then (if x11 ≥ (x1.length : Int) then (some 1) else (if x11 < (x1.length : Int) then ((cmp_Compare_int.f (rd x9 x11) (rd x1 x11)).bind fun t937 => (if t937 = 0 then (slices_Compare_int_int.l0 k x0 x1 x9 x10 (wrap64 (x11 + 1))) else (some t937))) else (none))) else (none)) else (none)) else (if (x0.length : Int) < (x1.length : Int) then (some (-1)) else (some 0))
def slices_Compare_int_int.f (k : Nat) (l0 : List Int) (l1 : List Int) : Option (Int) := slices_Compare_int_int.l0 k l0 l1 l0 (l0.length : Int) 0
set_option maxHeartbeats 8000000 in
set_option maxRecDepth 100000 in
theorem slices_Compare_int_int.calls (k : Nat) (A0 : Option Addr) (c0 : Nat) (l0 : List Int) (A1 : Option Addr) (c1 : Nat) (l1 : List Int) (r : Int) (w : World) (hr0 : Kd.C (Kd.int .i64) w A0 l0.length l0) (hc0 : l0.length ≤ c0) (hr1 : Kd.C (Kd.int .i64) w A1 l1.length l1) (hc1 : l1.length ≤ c1) (h : slices_Compare_int_int.f k l0 l1 = some r) :
  Calls Try.prog 154 #[.slice A0 l0.length c0, .slice A1 l1.length c1] w fun e w' => e = .returned (.int .i64 r) ∧ Drawn0 w w' := by
 have HR0 := am hr0; have HC0 := am hc0; clear hr0 hc0; have HR1 := am hr1; have HC1 := am hc1; clear hr1 hc1; have H : (slices_Compare_int_int.l0 k l0 l1 l0 (l0.length : Int) 0) = some r := h; clear h; have H' := am H; clear H; go_enter Try.func154, Try.ntmps154; go_wp2; go_loopg [11] k (fun kq v11 w' => ∃ (x11_1 : Int), v11 = .int .i64 x11_1 ∧ Aside0 (slices_Compare_int_int.l0 kq l0 l1 l0 (l0.length : Int) x11_1 = some r) ∧ Aside0 (kq ≤ k) ∧ Drawn0 w w')
 case atStart => exact ⟨(0), (by first | rfl | (simp; done) | (simp [*]; done)), H', ⟨Nat.le_refl _⟩, by repeat (first | exact Drawn0.refl _ | apply Drawn0.step)⟩
 case round =>
  clear H'
  try clear c1
  try clear p2
  obtain ⟨x11_1, rfl, HA, HK1, ⟨m1, rfl⟩⟩ := hrel; cases gk with
  | zero => exact absurd HA.out (by simp [slices_Compare_int_int.l0])
  | succ k1 =>
   have H := HA.out; clear HA; simp only [slices_Compare_int_int.l0] at H; by_cases c3 : x11_1 < (l0.length : Int)
   ·rw [if_pos c3] at H; have c3b0 : decide (x11_1 < (l0.length : Int)) = true := decide_eq_true c3; clear c3; by_cases c4 : 0 ≤ x11_1
    ·rw [if_pos c4] at H; have c4b0 : decide (0 ≤ x11_1) = true := decide_eq_true c4; clear c4; by_cases c5 : x11_1 < (l0.length : Int)
     ·rw [if_pos c5] at H; have c5b0 : decide (x11_1 < (l0.length : Int)) = true := decide_eq_true c5; clear c5; by_cases c6 : x11_1 ≥ (l1.length : Int)
      ·rw [if_pos c6] at H; have c6b0 : decide ((l1.length : Int) ≤ x11_1) = true := decide_eq_true c6; clear c6; obtain rfl := Option.some.inj H; have p935 : 0 ≤ (x11_1 : Int) := oD; have q935 : x11_1 < (l0.length : Int) := oD; obtain ⟨ad935, e935, hx935_0⟩ := Kd.at_int HR0.out x11_1 p935 q935; cases e935; replace p935 := eq_true p935; replace q935 := eq_true q935; go_wp2; go_ret; exact ⟨by first | rfl | (simp; done) | (simp [*]; done), by repeat (first | exact Drawn0.refl _ | apply Drawn0.step)⟩
      ·rw [if_neg c6] at H; have c6b0 : decide ((l1.length : Int) ≤ x11_1) = false := decide_eq_false c6; clear c6; by_cases c7 : x11_1 < (l1.length : Int)
       ·rw [if_pos c7] at H; have c7b0 : decide (x11_1 < (l1.length : Int)) = true := decide_eq_true c7; clear c7; replace H := bE H; obtain ⟨t937, A80, H⟩ := H; replace H : (if t937 = 0 then (slices_Compare_int_int.l0 k1 l0 l1 l0 (l0.length : Int) (wrap64 (x11_1 + 1))) else (some t937)) = some r := H; have A8 := am A80; clear A80; by_cases c9 : t937 = 0
        ·rw [if_pos c9] at H; have c9b0 : (t937 == 0) = true := beq_iff_eq.mpr c9; have c9b1 : (t937 != 0) = false := bne_eq_false_iff_eq.mpr c9; clear c9; have H' := am H; clear H; have p935 : 0 ≤ (x11_1 : Int) := oD; have q935 : x11_1 < (l0.length : Int) := oD; obtain ⟨ad935, e935, hx935_0⟩ := Kd.at_int HR0.out x11_1 p935 q935; cases e935; replace p935 := eq_true p935; replace q935 := eq_true q935; have p936 : 0 ≤ (x11_1 : Int) := oD; have q936 : x11_1 < (l1.length : Int) := oD; obtain ⟨ad936, e936, hx936_0⟩ := Kd.at_int HR1.out x11_1 p936 q936; cases e936; replace p936 := eq_true p936; replace q936 := eq_true q936; go_wp2_with (first | ((with_reducible refine gate_callee (f := 163) rfl ?_); refine goesL_ (some 26) rfl rfl Try.func163 (by kernel_rfl) rfl #[.int .i64 (rd l0 x11_1), .int .i64 (rd l1 x11_1)] rfl (by (try simp only [mT, mC, mN]); first | done | rfl) ?_; (with_reducible refine (cmp_Compare_int.calls (rd l0 x11_1) (rd l1 x11_1) t937 _ A8.out).mono ?_); rintro e w' ⟨rfl, ⟨nd, rfl⟩⟩; refine ⟨_, rfl, ?_⟩)); go_roundg k1
         case measure => have := HK1.out; omega
         case rel => exact ⟨(wrap64 (x11_1 + 1)), (by first | rfl | (simp; done) | (simp [*]; done)), H', ⟨by have := HK1.out; omega⟩, by repeat (first | exact Drawn0.refl _ | apply Drawn0.step)⟩
        ·rw [if_neg c9] at H; have c9b0 : (t937 == 0) = false := beq_eq_false_iff_ne.mpr c9; have c9b1 : (t937 != 0) = true := bne_iff_ne.mpr c9; obtain rfl := Option.some.inj H; have p935 : 0 ≤ (x11_1 : Int) := oD; have q935 : x11_1 < (l0.length : Int) := oD; obtain ⟨ad935, e935, hx935_0⟩ := Kd.at_int HR0.out x11_1 p935 q935; cases e935; replace p935 := eq_true p935; replace q935 := eq_true q935; have p936 : 0 ≤ (x11_1 : Int) := oD; have q936 : x11_1 < (l1.length : Int) := oD; obtain ⟨ad936, e936, hx936_0⟩ := Kd.at_int HR1.out x11_1 p936 q936; cases e936; replace p936 := eq_true p936; replace q936 := eq_true q936; go_wp2_with (first | ((with_reducible refine gate_callee (f := 163) rfl ?_); refine goesL_ (some 26) rfl rfl Try.func163 (by kernel_rfl) rfl #[.int .i64 (rd l0 x11_1), .int .i64 (rd l1 x11_1)] rfl (by (try simp only [mT, mC, mN]); first | done | rfl) ?_; (with_reducible refine (cmp_Compare_int.calls (rd l0 x11_1) (rd l1 x11_1) t937 _ A8.out).mono ?_); rintro e w' ⟨rfl, ⟨nd, rfl⟩⟩; refine ⟨_, rfl, ?_⟩)); go_ret; exact ⟨by first | rfl | (simp; done) | (simp [*]; done), by repeat (first | exact Drawn0.refl _ | apply Drawn0.step)⟩
       ·rw [if_neg c7] at H; exact absurd H (by simp)
     ·rw [if_neg c5] at H; exact absurd H (by simp)
    ·rw [if_neg c4] at H; exact absurd H (by simp)
   ·rw [if_neg c3] at H; have c3b0 : decide (x11_1 < (l0.length : Int)) = false := decide_eq_false c3; clear c3; by_cases c10 : (l0.length : Int) < (l1.length : Int)
    ·rw [if_pos c10] at H; have c10b0 : decide ((l0.length : Int) < (l1.length : Int)) = true := decide_eq_true c10; have c10n0 : decide (l0.length < l1.length) = true := decide_eq_true (by have h_ := of_decide_eq_true c10b0; omega); have c10b1 : decide (l0.length < l1.length) = true := decide_eq_true (Int.ofNat_lt.mp c10); clear c10; obtain rfl := Option.some.inj H; go_wp2; go_ret; exact ⟨by first | rfl | (simp; done) | (simp [*]; done), by repeat (first | exact Drawn0.refl _ | apply Drawn0.step)⟩
    ·rw [if_neg c10] at H; have c10b0 : decide ((l0.length : Int) < (l1.length : Int)) = false := decide_eq_false c10; have c10n0 : decide (l0.length < l1.length) = false := decide_eq_false (by have h_ := of_decide_eq_false c10b0; omega); have c10b1 : decide (l0.length < l1.length) = false := decide_eq_false (fun h => c10 (Int.ofNat_lt.mpr h)); clear c10; obtain rfl := Option.some.inj H; go_wp2; go_ret; exact ⟨by first | rfl | (simp; done) | (simp [*]; done), by repeat (first | exact Drawn0.refl _ | apply Drawn0.step)⟩
def impl_CompareWords.f (k : Nat) (l0 : List Int) (l1 : List Int) : Option (Int) := (slices_Compare_int_int.f k l0 l1).bind fun t938 => (some t938)
set_option maxHeartbeats 8000000 in
set_option maxRecDepth 100000 in
theorem impl_CompareWords.calls (k : Nat) (A0 : Option Addr) (c0 : Nat) (l0 : List Int) (A1 : Option Addr) (c1 : Nat) (l1 : List Int) (r : Int) (w : World) (hr0 : Kd.C (Kd.int .i64) w A0 l0.length l0) (hc0 : l0.length ≤ c0) (hr1 : Kd.C (Kd.int .i64) w A1 l1.length l1) (hc1 : l1.length ≤ c1) (h : impl_CompareWords.f k l0 l1 = some r) :
  Calls Try.prog 125 #[.slice A0 l0.length c0, .slice A1 l1.length c1] w fun e w' => e = .returned (.int .i64 r) ∧ Drawn0 w w' := by
 have HR0 := am hr0; have HC0 := am hc0; clear hr0 hc0; have HR1 := am hr1; have HC1 := am hc1; clear hr1 hc1; have H : ((slices_Compare_int_int.f k l0 l1).bind fun t938 => (some t938)) = some r := h; clear h; replace H := bE H; obtain ⟨t938, A30, H⟩ := H; replace H : (some t938) = some r := H; have A3 := am A30; clear A30; obtain rfl := Option.some.inj H; go_enter Try.func125, Try.ntmps125; go_wp2_with (first | ((with_reducible refine gate_callee (f := 154) rfl ?_); refine goesL_ (some 7) rfl rfl Try.func154 (by kernel_rfl) rfl #[.slice A0 l0.length c0, .slice A1 l1.length c1] rfl (by (try simp only [mT, mC, mN]); first | done | rfl) ?_; (with_reducible refine (slices_Compare_int_int.calls k _ _ l0 _ _ l1 t938 _ ?side1 ?side2 ?side3 ?side4 A3.out).mono ?_); (case side1 => exact xC (HR0.out)); (case side2 => exact HC0.out); (case side3 => exact xC (HR1.out)); (case side4 => exact HC1.out); rintro e w' ⟨rfl, ⟨nd, rfl⟩⟩; refine ⟨_, rfl, ?_⟩)); go_ret; exact ⟨by first | rfl | (simp; done) | (simp [*]; done), by repeat (first | exact Drawn0.refl _ | apply Drawn0.step)⟩
/-- Two words held against each other: 0 just where they are the same. -/
theorem cmp_val (u v : List Int) (hu : u.length ≤ 9223372036854775807) : ∃ (k : Nat) (c : Int), impl_CompareWords.f k u v = some c ∧ (c = 0 ↔ u = v) := by
 have key : ∀ i, i ≤ u.length → ∃ c : Int, Ev (fun k => slices_Compare_int_int.l0 k u v u (u.length : Int) (i : Int)) c ∧ (c = 0 ↔ u.drop i = v.drop i) := by
  refine K.down u.length ?_ ?_
  ·by_cases h : (u.length : Int) < (v.length : Int)
   ·refine ⟨-1, Ev.step (fun k => by simp only [slices_Compare_int_int.l0]; rw [if_neg (by omega), if_pos h]) (K.Ev.some _), ?_⟩; rw [List.drop_length, K.drop_eq v u.length (by omega)]; simp; omega
   ·refine ⟨0, Ev.step (fun k => by simp only [slices_Compare_int_int.l0]; rw [if_neg (by omega), if_neg h]) (K.Ev.some _), ?_⟩; rw [List.drop_length, List.drop_eq_nil_of_le (by omega)]; simp
  ·intro i hi ⟨c, hc, hcc⟩; by_cases h : i < v.length
   ·have hv : cmp_Compare_int.f (rd u (i : Int)) (rd v (i : Int)) = some (if rd u (i : Int) < rd v (i : Int) then -1 else if rd u (i : Int) > rd v (i : Int) then 1 else 0) := by
     unfold cmp_Compare_int.f cmp_isNaN_int.f; simp only [bne_self_eq_false, Option.bind_some, Bool.false_eq_true, if_false]; split
     ·rfl
     ·split <;> rfl
    by_cases e : rd u (i : Int) = rd v (i : Int)
    ·refine ⟨c, Ev.step (fun k => by simp only [slices_Compare_int_int.l0]; rw [if_pos (by omega), if_pos (by omega), if_pos (by omega), if_neg (by omega), if_pos (by omega), hv, if_neg (by omega), if_neg (by omega), Option.bind_some, if_pos rfl, K.wsucc (by omega)]) hc, ?_⟩; rw [hcc, K.drop_eq u i hi, K.drop_eq v i h, ← K.rd_get u i hi, ← K.rd_get v i h, e]; simp
    ·refine ⟨if rd u (i : Int) < rd v (i : Int) then -1 else 1, Ev.step (fun k => by simp only [slices_Compare_int_int.l0]; rw [if_pos (by omega), if_pos (by omega), if_pos (by omega), if_neg (by omega), if_pos (by omega), hv]) ?_, ?_⟩
     ·by_cases q : rd u (i : Int) < rd v (i : Int)
      ·rw [if_pos q, if_pos q]; exact Ev.bind (K.Ev.some _) (K.Ev.if_neg (by omega) (K.Ev.some _))
      ·rw [if_neg q, if_neg q, if_pos (by omega)]; exact Ev.bind (K.Ev.some _) (K.Ev.if_neg (by omega) (K.Ev.some _))
     ·rw [K.drop_eq u i hi, K.drop_eq v i h, ← K.rd_get u i hi, ← K.rd_get v i h]; constructor
      ·intro h1; split at h1 <;> omega
      ·intro h1; exact absurd (List.cons.inj h1).1 e
   ·refine ⟨1, Ev.step (fun k => by simp only [slices_Compare_int_int.l0]; rw [if_pos (by omega), if_pos (by omega), if_pos (by omega), if_pos (by omega)]) (K.Ev.some _), ?_⟩; rw [List.drop_eq_nil_of_le (show v.length ≤ i by omega), K.drop_eq u i hi]; simp; omega
 obtain ⟨c, hc, hcc⟩ := key 0 (by omega); obtain ⟨k, hk⟩ := hc.rounds; refine ⟨k, c, ?_, hcc⟩; unfold impl_CompareWords.f slices_Compare_int_int.f; have hk' : slices_Compare_int_int.l0 k u v u (u.length : Int) 0 = some c := hk; rw [hk']; rfl
/-- A pattern, held against a word from a place on; us: the words of the letters that have been met. -/
def mgo (w L : List Int) : List Int → Nat → List (Option (List Int)) → Bool
 | [], _, _ => true
 | x :: p, i, us =>
  let e := i + (L.getD x.toNat 0).toNat
  if w.length < e then false
  else match us.getD x.toNat none with
   | none => mgo w L p e (us.set x.toNat (some ((w.take e).drop i)))
   | some u => if u = (w.take e).drop i then mgo w L p e us else false
theorem mgo_cons (w L p : List Int) (x n i : Nat) (us : List (Option (List Int))) (hn : L.getD x 0 = (n : Int)) : mgo w L ((x : Int) :: p) i us = if w.length < i + n then false else match us.getD x none with
   | none => mgo w L p (i + n) (us.set x (some ((w.take (i + n)).drop i)))
   | some u => if u = (w.take (i + n)).drop i then mgo w L p (i + n) us else false := by
 simp only [mgo, Int.toNat_natCast, hn]
def matOk (w p : List Int) (L : List Int) : Prop := (∀ x ∈ p, 0 ≤ x ∧ x < (L.length : Int)) ∧ (∀ y ∈ L, 1 ≤ y ∧ y ≤ 40) ∧ w.length ≤ 1000000 ∧ p.length ≤ 1000000 ∧ L.length ≤ 1000000
instance (w p L : List Int) : Decidable (matOk w p L) := by unfold matOk; exact inferInstance
def impl_MatchAt.f (k : Nat) (l0 l1 : List Int) (a2 : Int) (l3 : List Int) : Option Bool := (impl_areLengths.f k l1 l3).bind fun t => if t = true ∧ 0 ≤ a2 ∧ a2 ≤ (l0.length : Int) then (if matOk l0 l1 l3 then some (mgo l0 l3 l1 a2.toNat (List.replicate l3.length none)) else none) else some false
/-- A slice's three words. -/
abbrev Sd := Option Addr × Nat × Nat
def sdv (d : Sd) : Value := .slice d.1 d.2.1 d.2.2
def WdOk (W : World) (d : Sd) : Option (List Int) → Prop
 | none => d = (none, 0, 0)
 | some u => ∃ ad c, d = (some ad, u.length, c) ∧ u.length ≤ c ∧ Kd.C (Kd.int .i64) W (some ad) u.length u
def WdsOk (W : World) (ds : List Sd) (us : List (Option (List Int))) : Prop := ds.length = us.length ∧ ∀ j, j < us.length → WdOk W (rdOf (none, 0, 0) ds (j : Int)) (us.getD j none)
theorem WdsOk.set {W : World} {ds : List Sd} {us : List (Option (List Int))} (h : WdsOk W ds us) (x : Nat) (ad : Addr) (c : Nat) (u : List Int) (hc : u.length ≤ c) (hC : Kd.C (Kd.int .i64) W (some ad) u.length u) : WdsOk W (ds.set x (some ad, u.length, c)) (us.set x (some u)) := by
 refine ⟨by rw [List.length_set, List.length_set]; exact h.1, fun j hj => ?_⟩; rw [List.length_set] at hj; have := h.2 j hj; unfold rdOf at this ⊢; rw [Int.toNat_natCast] at this ⊢; rw [List.getD_eq_getElem?_getD] at this ⊢; rw [List.getD_eq_getElem?_getD] at this ⊢; by_cases e : x = j
 ·subst e; rw [List.getElem?_set_self (by rw [h.1]; exact hj), List.getElem?_set_self hj]; exact ⟨ad, c, rfl, hc, hC⟩
 ·rw [List.getElem?_set_ne e, List.getElem?_set_ne e]; exact this
set_option maxHeartbeats 4000000 in
set_option maxRecDepth 100000 in
theorem impl_MatchAt.calls (k : Nat) (A0 : Option Addr) (c0 : Nat) (l0 : List Int) (A1 : Option Addr) (c1 : Nat) (l1 : List Int) (a2 : Int) (A3 : Option Addr) (c3 : Nat) (l3 : List Int) (r : Bool) (w : World) (hr0 : Kd.C (Kd.int .i64) w A0 l0.length l0) (hc0 : l0.length ≤ c0) (hr1 : Kd.C (Kd.int .i64) w A1 l1.length l1) (hc1 : l1.length ≤ c1) (hr3 : Kd.C (Kd.int .i64) w A3 l3.length l3) (hc3 : l3.length ≤ c3) (h : impl_MatchAt.f k l0 l1 a2 l3 = some r) :
  Calls Try.prog 66 #[.slice A0 l0.length c0, .slice A1 l1.length c1, .int .i64 a2, .slice A3 l3.length c3] w fun e w' => e = .returned (.bool r) ∧ Below w.heap.size w w' := by
 have HR0 := am hr0; have HC0 := am hc0; have HR1 := am hr1; have HC1 := am hc1; have HR3 := am hr3; have HC3 := am hc3; clear hr0 hc0 hr1 hc1 hr3 hc3; unfold impl_MatchAt.f at h; have h_ := Option.bind_eq_some_iff.mp h; clear h; obtain ⟨t, ht, h⟩ := h_; have HT := am ht; clear ht; have HNIL := am (fun W : World => (show (binOp .eql 22 (.slice none 0 0) (.slice none 0 0)).run Try.prog W = .ok (.bool true) W from by kernel_rfl)); by_cases hok : t = true ∧ 0 ≤ a2 ∧ a2 ≤ (l0.length : Int)
 ·rw [if_pos hok] at h; obtain ⟨rfl, h0, h1⟩ := hok; by_cases hm : matOk l0 l1 l3
  ·rw [if_pos hm] at h; obtain ⟨at0, rfl⟩ : ∃ n : Nat, a2 = (n : Int) := ⟨a2.toNat, by omega⟩; rw [Int.toNat_natCast] at h; have HG := am (Option.some.inj h); obtain ⟨hm1, hm2, hm3, hm4, hm5⟩ := hm; have HM1 := am hm1; have HM2 := am hm2; clear h hm1 hm2 h0; have h1' : at0 ≤ l0.length := by omega
   have hd1 : decide ((at0 : Int) < 0) = false := by simp
   have hd2 : decide ((l0.length : Int) < (at0 : Int)) = false := by simp; omega
   clear h1; go_enter Try.func66, Try.ntmps66; go_wp2_with fail; refine (impl_areLengths.calls k A1 c1 l1 A3 c3 l3 true w HR1.out HC1.out HR3.out HC3.out HT.out).mono ?_; rintro e_ w1 ⟨rfl, ⟨n1, rfl⟩⟩; go_wp2_with ((with_reducible refine gate_dst (N := 30) rfl ?_); refine Aside0.out ?_); refine am ?_; refine Kd.R_make (Kd.scalar sdv (fun _ => rfl)) (w0 := w) w.heap.size 22 rfl (N := 30) rfl 32 _ _ rfl (l3.length : Int) rfl rfl Try.underlying32 (.slice none 0 0) 24 (by kernel_rfl) rfl (by decide) (by omega) ((none, 0, 0) : Sd) (ok := fun _ => True) (okp := fun _ => True) rfl (fun _ hk => hk) trivial (by omega) (by rw [Int.toNat_natCast]; omega) (pw_below_drewN (Below.refl _ _) _) (Nat.le_refl _) ?_; intro v30 w2 ho2 hb2 _ _; rw [Int.toNat_natCast] at ho2; obtain ⟨A30, c30, rfl⟩ := Kd.R_slice ho2; rw [List.length_replicate] at *; have HO2 := am ho2; have HB2 := am hb2; clear ho2 hb2; go_wp2_with fail; go_loopw [2, 33] (fun v2 v33 wr => ∃ (i b : Nat) (us : List (Option (List Int))) (ds : List Sd), i ≤ l1.length ∧ v33 = .int .i64 i ∧ v2 = .int .i64 b ∧ Aside0 (mgo l0 l3 (l1.drop i) b us = r) ∧ b ≤ l0.length ∧ Aside0 (WdsOk w ds us) ∧ Aside0 (ds.length = l3.length) ∧ Aside0 (Kd.R (Kd.scalar sdv (fun _ => rfl)) 22 wr w.heap.size (fun _ => True) (.slice A30 l3.length c30) ds) ∧ Aside0 (Below w.heap.size w wr)) (fun _ v33 _ => l1.length - (intOf v33).toNat)
   case atStart =>
    refine ⟨0, at0, List.replicate l3.length none, List.replicate l3.length (none, 0, 0), Nat.zero_le _, rfl, rfl, HG, h1', ⟨by rw [List.length_replicate, List.length_replicate], fun j hj => ?_⟩, ⟨List.length_replicate⟩, HO2, HB2⟩; rw [List.length_replicate] at hj; unfold rdOf; rw [Int.toNat_natCast, List.getD_eq_getElem?_getD, List.getD_eq_getElem?_getD]; simp [hj, WdOk]
   case round =>
    clear HO2 HB2 HG; obtain ⟨i, b, us, ds, hi, rfl, rfl, HG, hb, HW, HD, HO, HB⟩ := hrel; by_cases hlt : i < l1.length
    ·obtain ⟨x, hx, hxl⟩ : ∃ x : Nat, l1[i] = (x : Int) ∧ x < l3.length := by
      have := HM1.out l1[i] (List.getElem_mem hlt); exact ⟨l1[i].toNat, by omega, by omega⟩
     obtain ⟨n, hn, hn1, hn2⟩ : ∃ n : Nat, l3[x] = (n : Int) ∧ 1 ≤ n ∧ n ≤ 40 := by
      have := HM2.out l3[x] (List.getElem_mem hxl); exact ⟨l3[x].toNat, by omega, by omega, by omega⟩
     obtain ⟨ad1, e1, hx1⟩ := Kd.at_int HR1.out (i : Int) (by omega) (by omega); subst e1; rw [Int.toNat_natCast, K.rd_get l1 i hlt, hx] at hx1; replace hx1 := pw_cell_below HB.out hx1; obtain ⟨ad3, e3, hx3⟩ := Kd.at_int HR3.out (x : Int) (by omega) (by omega); subst e3; rw [Int.toNat_natCast, K.rd_get l3 x hxl, hn] at hx3; replace hx3 := pw_cell_below HB.out hx3; have hg := HG.out; rw [K.drop_eq l1 i hlt, hx, mgo_cons _ _ _ x n _ _ (by rw [List.getD_eq_getElem?_getD, List.getElem?_eq_getElem hxl]; exact hn)] at hg; clear hx hn; by_cases hle : l0.length < b + n
     ·rw [if_pos hle] at hg; subst hg; have hd : decide ((l0.length : Int) < (b : Int) + (n : Int)) = true := by simp; omega
      go_wp2_with fail; go_ret; exact ⟨rfl, HB.out⟩
     ·rw [if_neg hle] at hg; have hd : decide ((l0.length : Int) < (b : Int) + (n : Int)) = false := by simp; omega
      obtain ⟨i0, hi0, _, hsz, _⟩ := info_parts info3; obtain ⟨A', hcut, hA', hC'⟩ := print_mid_of (P := Try.prog) (Value.int .i64) 0 22 3 .i64 .i64 Try.underlying22 hi0 hsz A0 c0 l0 (b : Int) ((b : Int) + (n : Int)) (by omega) (by omega) (by omega) HC0.out; have hrp := Kd.C_of_reads (h1 := fun _ => rfl) (hA' _ (Kd.reads_of_C HR0.out)); clear hi0 hsz hA'; rw [show ((b : Int) + (n : Int)).toNat = b + n from by omega, Int.toNat_natCast] at hcut hC' hrp; generalize hp : (l0.take (b + n)).drop b = part at *; have hpl : part.length = n := by rw [← hp, List.length_drop, List.length_take]; omega
      clear hp; obtain ⟨adp, rfl⟩ : ∃ ad, A' = some ad := by
       obtain ⟨ad, e, _⟩ := Kd.at_int hrp 0 (by omega) (by omega); exact ⟨ad, e⟩
      have HRP := am hrp; have HCP := am hC'; have HPL := am hpl; clear hrp hC' hpl; obtain ⟨g, cap, e30, hbg, hgl, _⟩ := Kd.R_form HO.out (by rw [HD.out]; omega); injection e30 with ea en ec; subst ea ec; clear en; obtain ⟨hxw, hfw⟩ := Kd.R_celln ((none, 0, 0) : Sd) HO.out (x : Int) (by omega) (by omega); rw [Int.toNat_natCast] at hxw hfw; have hw := HW.out.2 x (by rw [← HW.out.1, HD.out]; exact hxl); generalize rdOf ((none, 0, 0) : Sd) ds (x : Int) = dd at hxw hw; generalize hux : us.getD x none = ux at hw hg; clear hux; have HBG := am hbg; clear hbg hgl; cases ux with
      | none =>
       obtain rfl : dd = (none, 0, 0) := hw; have hg1 : mgo l0 l3 (l1.drop (i + 1)) (b + n) (us.set x (some part)) = r := hg; have HG1 := am hg1; clear hg hg1; have hxw' : wr.cell? ⟨g, x, none⟩ = some (.slice none 0 0) := hxw; clear hxw; have hnil := HNIL.out; have HP := am (Kd.R_putg HO.out (x : Int) ((some adp, part.length, c0 - b) : Sd)); go_wp2_with ((with_reducible refine gate_store (t := 22) (p := 59) rfl ?_); refine Aside0.out ?_); refine am ?_; refine store_event (t := 22) (p := 59) (v := ?vo) (w1 := (wr.setCell ⟨g, x, none⟩ (.slice (some adp) part.length (c0 - b)))) ?hg ?ho ?hn ?hr ?_
       case ho => rfl
       case hg => rfl
       case hn => rfl
       case hr => first | (go_simp; done) | (go_simp; rfl)
       intro w3 hw3; have HP2 := HP.out; rw [Int.toNat_natCast] at HP2; have HO3 := am (show Kd.R (Kd.scalar sdv (fun _ => rfl)) 22 w3 w.heap.size (fun _ => True) (.slice (some ⟨g, 0, none⟩) l3.length c30) (ds.set x (some adp, part.length, c0 - b)) from by rw [hw3]; exact HP2.1); have HB3 := am (show Below w.heap.size w w3 from by rw [hw3]; exact below_set HB.out HBG.out); clear HP2 HP hxw' hw3 HO HB hx1 hx3; obtain ⟨hxv, hfv⟩ := Kd.R_celln ((none, 0, 0) : Sd) HO3.out (x : Int) (by omega) (by omega); rw [Int.toNat_natCast, show rdOf ((none, 0, 0) : Sd) (ds.set x (some adp, part.length, c0 - b)) (x : Int) = (some adp, part.length, c0 - b) from by unfold rdOf; rw [Int.toNat_natCast, List.getD_eq_getElem?_getD, List.getElem?_set_self (by rw [HD.out]; exact hxl)]; rfl] at hxv; have hxv' : w3.cell? ⟨g, x, none⟩ = some (.slice (some adp) part.length (c0 - b)) := hxv; clear hxv hfv; obtain ⟨kc, cc, hcc, hc2⟩ := cmp_val part part (by have := HPL.out; omega); obtain rfl : cc = 0 := hc2.2 rfl; clear hc2; have HCC := am hcc; clear hcc; go_wp2_with fail; refine (impl_CompareWords.calls kc (some adp) (c0 - b) part (some adp) (c0 - b) part 0 w3 (Kd.C_below HRP.out HB3.out) HCP.out (Kd.C_below HRP.out HB3.out) HCP.out HCC.out).mono ?_; rintro e_ w4 ⟨rfl, ⟨n4, rfl⟩⟩; go_wp2_with fail; go_roundw
       case rel => exact ⟨i + 1, b + n, us.set x (some part), ds.set x (some adp, part.length, c0 - b), by omega, by go_num, by go_num, HG1, by omega, ⟨HW.out.set x adp (c0 - b) part HCP.out HRP.out⟩, ⟨by rw [List.length_set]; exact HD.out⟩, ⟨Kd.R_drewN HO3.out _⟩, ⟨pw_below_drewN HB3.out _⟩⟩
       case measure => simp [intOf]; omega
      | some u =>
       obtain ⟨adu, cu, rfl, hcu, hCu⟩ := hw; have hxw' : wr.cell? ⟨g, x, none⟩ = some (.slice (some adu) u.length cu) := hxw; clear hxw; have hnn : ∀ W : World, (binOp .eql 22 (.slice (some adu) u.length cu) (.slice none 0 0)).run Try.prog W = .ok (.bool false) W := fun W => by kernel_rfl
       have HCU := am hcu; have HRU := am hCu; clear hcu hCu; have hg1 : (if u = part then mgo l0 l3 (l1.drop (i + 1)) (b + n) us else false) = r := hg; have HG1 := am hg1; clear hg hg1; obtain ⟨kc, cc, hcc, hc2⟩ := cmp_val u part (Kd.C_max HRU.out); have HCC := am hcc; clear hcc; by_cases q : u = part
       ·obtain rfl : cc = 0 := hc2.2 q; clear hc2; rw [if_pos q] at HG1; clear q; go_wp2_with fail; refine (impl_CompareWords.calls kc (some adu) cu u (some adp) (c0 - b) part 0 wr (Kd.C_below HRU.out HB.out) HCU.out (Kd.C_below HRP.out HB.out) HCP.out HCC.out).mono ?_; rintro e_ w4 ⟨rfl, ⟨n4, rfl⟩⟩; go_wp2_with fail; go_roundw
        case rel => exact ⟨i + 1, b + n, us, ds, by omega, by go_num, by go_num, HG1, by omega, HW, HD, ⟨Kd.R_drewN HO.out _⟩, ⟨pw_below_drewN HB.out _⟩⟩
        case measure => simp [intOf]; omega
       ·have hcn : (cc != 0) = true := by
         rw [bne_iff_ne]; intro h0; exact q (hc2.1 h0)
        clear hc2; rw [if_neg q] at HG1; obtain rfl := HG1.out; clear q; go_wp2_with fail; refine (impl_CompareWords.calls kc (some adu) cu u (some adp) (c0 - b) part cc wr (Kd.C_below HRU.out HB.out) HCU.out (Kd.C_below HRP.out HB.out) HCP.out HCC.out).mono ?_; rintro e_ w4 ⟨rfl, ⟨n4, rfl⟩⟩; go_wp2_with fail; go_ret; exact ⟨rfl, pw_below_drewN HB.out _⟩
    ·have e : i = l1.length := by omega
     subst e; have hg := HG.out; rw [List.drop_length] at hg; obtain rfl : true = r := hg; go_wp2_with fail; go_ret; exact ⟨rfl, HB.out⟩
  ·rw [if_neg hm] at h; cases h
 ·rw [if_neg hok] at h; obtain rfl := Option.some.inj h; cases t with
  | false =>
   go_enter Try.func66, Try.ntmps66; go_wp2_with fail; refine (impl_areLengths.calls k A1 c1 l1 A3 c3 l3 false w HR1.out HC1.out HR3.out HC3.out HT.out).mono ?_; rintro e_ w1 ⟨rfl, ⟨n1, rfl⟩⟩; go_wp2_with fail; go_ret; exact ⟨rfl, pw_below_drewN (Below.refl _ _) _⟩
  | true =>
   by_cases h0 : a2 < 0
   ·have hd1 : decide (a2 < 0) = true := decide_eq_true h0; clear hok h0; go_enter Try.func66, Try.ntmps66; go_wp2_with fail; refine (impl_areLengths.calls k A1 c1 l1 A3 c3 l3 true w HR1.out HC1.out HR3.out HC3.out HT.out).mono ?_; rintro e_ w1 ⟨rfl, ⟨n1, rfl⟩⟩; go_wp2_with fail; go_ret; exact ⟨rfl, pw_below_drewN (Below.refl _ _) _⟩
   ·have hd1 : decide (a2 < 0) = false := decide_eq_false h0
    have hd2 : decide ((l0.length : Int) < a2) = true := decide_eq_true (by
     apply Int.not_le.1; intro h1; exact hok ⟨rfl, by omega, h1⟩)
    clear hok h0; go_enter Try.func66, Try.ntmps66; go_wp2_with fail; refine (impl_areLengths.calls k A1 c1 l1 A3 c3 l3 true w HR1.out HC1.out HR3.out HC3.out HT.out).mono ?_; rintro e_ w1 ⟨rfl, ⟨n1, rfl⟩⟩; go_wp2_with fail; go_ret; exact ⟨rfl, pw_below_drewN (Below.refl _ _) _⟩
def slices_Clone_int_int.f (l0 : List Int) : Option (List Int) := if l0.length < 17592186044416 then some l0 else none
set_option maxHeartbeats 1000000 in
set_option maxRecDepth 100000 in
theorem slices_Clone_int_int.calls (A0 : Option Addr) (c0 : Nat) (l0 : List Int) (r : List Int) (w : World) (hr0 : Kd.C (Kd.int .i64) w A0 l0.length l0) (hc0 : l0.length ≤ c0) (h : slices_Clone_int_int.f l0 = some r) :
  Calls Try.prog 152 #[.slice A0 l0.length c0] w fun e w' => ∃ v0_ : Value, e = .returned (v0_) ∧ Kd.R (Kd.int .i64) 3 w' w.heap.size (fun _ => True) v0_ r ∧ Below w.heap.size w w' := by
 unfold slices_Clone_int_int.f at h; split at h
 case isFalse => cases h
 rename_i hlen; obtain rfl := Option.some.inj h; clear h; have HLEN := am hlen; have HC := am hr0; have Hc := am hc0; clear hlen hr0 hc0; cases A0 with
 | none =>
  have e : l0 = [] := by
   cases l0 with
   | nil => rfl
   | cons x l =>
    obtain ⟨ad, he, _⟩ := Kd.at_int HC.out 0 (by omega) (by simp only [List.length_cons]; omega); cases he
  subst e; have hnil : ∀ W : World, (binOp .eql 22 (.slice none 0 c0) (.slice none 0 0)).run Try.prog W = .ok (.bool true) W := fun W => by kernel_rfl
  go_enter Try.func152, Try.ntmps152; go_wp2_with fail; go_ret; exact ⟨_, rfl, Kd.R_nil _ _ _ _ _, Below.refl _ _⟩
 | some a =>
  have hnil : ∀ W : World, (binOp .eql 22 (.slice (some a) l0.length c0) (.slice none 0 0)).run Try.prog W = .ok (.bool false) W := fun W => by kernel_rfl
  go_enter Try.func152, Try.ntmps152; go_wp2_with ((with_reducible refine gate_dst (N := 5) rfl ?_); refine Aside0.out ?_); refine am ?_; refine Kd.R_lit (Kd.int .i64) _ 3 ?hg (N := 5) ?hd (xs := ([] : List Int)) (inner := []) (ok := fun _ => True) (okp := fun _ => True) ?hr ?hp (fun _ hk => hk) trivial (Below.refl _ _) (Nat.le_refl _) (by simp) ?_
  case hd => rfl
  case hg => rfl
  case hr => first | (go_simp; done) | (go_simp; rfl)
  case hp => exact (Reps.none _ _)
  intro v5 w1 ho1 hb1 _ _; have HO1 := am ho1; have HB1 := am hb1; clear ho1 hb1; go_wp2_with ((with_reducible refine gate_builtin (b := .append) (xs := #[.tmp 5, .tmp 6]) rfl ?_); refine Aside0.out ?_); refine am ?_
  at_builtin
  refine Kd.R_append_rows (Kd.int .i64) (Rr := (Kd.int .i64).K w1) (w0 := w) w.heap.size rfl (.tmp 5) (.tmp 6) 22 3 (.int .i64 0) 8 rfl Try.underlying22 info3 rfl (by decide) (by omega) v5 [] l0 (some a) _ c0 (fun _ => True) (fun _ => False) rfl rfl HO1.out ?aR (fun _ _ h => h) (fun _ hk => hk.elim) (fun _ _ => trivial) HB1.out HB1.out.size ?aL ?_
  case aR => exact Kd.C_below HC.out HB1.out
  case aL => have := HLEN.out; simp only [List.length_nil]; omega
  intro v7 w2 ho2 hb2 _ _; rw [List.nil_append] at ho2; have HO2 := am ho2; have HB2 := am hb2; clear ho2 hb2 HO1 HB1; go_wp2_with fail; go_ret; exact ⟨_, rfl, HO2.out, HB2.out⟩
mutual
def impl_matchLengths.l0 : Nat → List Int → List Int → Int → List Int → Int → Option (List Int × Bool)
 | 0, _, _, _, _, _ => none
 | k + 1, x0, x1, x2, x3, x10 => if (wrap64 (x2 + x10)) ≤ (x0.length : Int) then ((slices_Clone_int_int.f x3).bind fun t941 => (if t941.length < 17592186044416 then ((impl_matchLengths.f k x0 x1 x2 (t941 ++ [x10])).bind fun bt947 => (if bt947.2 = true then (some (bt947.1, true)) else (impl_matchLengths.l0 k x0 x1 x2 x3 (wrap64 (x10 + 1))))) else (none))) else (some (([] : List Int), false))
def impl_matchLengths.f : Nat → List Int → List Int → Int → List Int → Option (List Int × Bool)
 | 0, _, _, _, _ => none
 | k + 1, l0, l1, a2, l3 => (impl_patternLetters.f k l1).bind fun t939 => (if (l3.length : Int) = t939 then ((impl_MatchAt.f k l0 l1 a2 l3).bind fun t940 => (some (l3, t940))) else (impl_matchLengths.l0 k l0 l1 a2 l3 1))
end
set_option maxHeartbeats 8000000 in
set_option maxRecDepth 100000 in
theorem impl_matchLengths.calls (k : Nat) : ∀ (A0 : Option Addr) (c0 : Nat) (l0 : List Int) (A1 : Option Addr) (c1 : Nat) (l1 : List Int) (a2 : Int) (P3_ : Nat → Prop) (u9000_ : Value) (l3 : List Int) (r1 : List Int) (r2 : Bool) (w0 w : World) (hB : Below w0.heap.size w0 w) (hr0 : ∀ W_, Kept w W_ (fun k_ => P3_ k_) → Kd.C (Kd.int .i64) W_ A0 l0.length l0) (hc0 : l0.length ≤ c0) (hr1 : ∀ W_, Kept w W_ (fun k_ => P3_ k_) → Kd.C (Kd.int .i64) W_ A1 l1.length l1) (hc1 : l1.length ≤ c1) (ho3 : Kd.R (Kd.int .i64) 3 w w0.heap.size P3_ u9000_ l3) (h : impl_matchLengths.f k l0 l1 a2 l3 = some (r1, r2)),
  Calls Try.prog 119 #[.slice A0 l0.length c0, .slice A1 l1.length c1, .int .i64 a2, u9000_] w fun e w' => ∃ v0_ : Value, e = .returned (.tuple #[v0_, .bool r2]) ∧ Kd.R (Kd.int .i64) 3 w' w0.heap.size (fun k_ => (P3_ k_ ∨ w.heap.size ≤ k_)) v0_ r1 ∧ Below w0.heap.size w0 w' ∧ Kept w w' (fun k_ => P3_ k_) := by
 induction k using Nat.strongRecOn with
 | _ k ih =>
 intro A0 c0 l0 A1 c1 l1 a2 P3_ u9000_ l3 r1 r2 w0 w hB hr0 hc0 hr1 hc1 ho3 h; cases k with
 | zero => exact absurd h (by simp [impl_matchLengths.f])
 | succ k =>
 simp only [impl_matchLengths.f] at h; have HR0 := am hr0; have HC0 := am hc0; clear hr0 hc0; have HR1 := am hr1; have HC1 := am hc1; clear hr1 hc1; have HO3 := am (show Kd.R (Kd.int .i64) 3 w w0.heap.size (fun k_ => (P3_ k_ ∨ w.heap.size ≤ k_)) u9000_ l3 from Kd.R_mono ho3 (fun k_ hk => (.inl hk))); have HK := am (Kept.refl w (fun k_ => P3_ k_)); have HW0 := am hB.size; have HB := am hB; clear hB; have H : ((impl_patternLetters.f k l1).bind fun t939 => (if (l3.length : Int) = t939 then ((impl_MatchAt.f k l0 l1 a2 l3).bind fun t940 => (some (l3, t940))) else (impl_matchLengths.l0 k l0 l1 a2 l3 1))) = some (r1, r2) := h; clear h; replace H := bE H; obtain ⟨t939, A50, H⟩ := H; replace H : (if (l3.length : Int) = t939 then ((impl_MatchAt.f k l0 l1 a2 l3).bind fun t940 => (some (l3, t940))) else (impl_matchLengths.l0 k l0 l1 a2 l3 1)) = some (r1, r2) := H; have A5 := am A50; clear A50; by_cases c6 : (l3.length : Int) = t939
 ·rw [if_pos c6] at H; have c6b0 : ((l3.length : Int) == t939) = true := beq_iff_eq.mpr c6; have c6b1 : ((l3.length : Int) != t939) = false := bne_eq_false_iff_eq.mpr c6; clear c6; replace H := bE H; obtain ⟨t940, A70, H⟩ := H; replace H : (some (l3, t940)) = some (r1, r2) := H; have A7 := am A70; clear A70; simp only [Option.some.injEq, Prod.mk.injEq] at H; obtain ⟨rfl, rfl⟩ := H; obtain ⟨Ao8, co8, eo8⟩ := Kd.R_slice HO3.out; subst eo8; go_enter Try.func119, Try.ntmps119; go_wp2_with (first | ((with_reducible refine gate_callee (f := 121) rfl ?_); refine goesL_ (some 16) rfl rfl Try.func121 (by kernel_rfl) rfl #[.slice A1 l1.length c1] rfl (by (try simp only [mT, mC, mN]); first | done | rfl) ?_; (with_reducible refine (impl_patternLetters.calls k _ _ l1 t939 _ ?side1 ?side2 A5.out).mono ?_); (case side1 => exact Kd.C_kept_now HR1.out (by repeat (first | (with_reducible first | exact HK.out | apply Kept.alloc | apply Kept.drewN | apply Kept.drew) | exact HK.out))); (case side2 => exact HC1.out); rintro e w' ⟨rfl, ⟨nd, rfl⟩⟩; refine ⟨_, rfl, ?_⟩) | ((with_reducible refine gate_callee (f := 66) rfl ?_); refine goesL_ (some 23) rfl rfl Try.func66 (by kernel_rfl) rfl #[.slice A0 l0.length c0, .slice A1 l1.length c1, .int .i64 a2, .slice Ao8 l3.length co8] rfl (by (try simp only [mT, mC, mN]); first | done | rfl) ?_; (with_reducible refine (impl_MatchAt.calls k _ _ l0 _ _ l1 a2 _ _ l3 t940 _ ?side1 ?side2 ?side3 ?side4 ?side5 ?side6 A7.out).mono ?_); (case side1 => exact Kd.C_kept_now HR0.out (by repeat (first | (with_reducible first | exact HK.out | apply Kept.alloc | apply Kept.drewN | apply Kept.drew) | exact HK.out))); (case side2 => exact HC0.out); (case side3 => exact Kd.C_kept_now HR1.out (by repeat (first | (with_reducible first | exact HK.out | apply Kept.alloc | apply Kept.drewN | apply Kept.drew) | exact HK.out))); (case side4 => exact HC1.out); (case side5 => exact xC ((Kd.R_reads' HO3.out).2.2)); (case side6 => exact (Kd.R_reads' HO3.out).2.1); rintro e w9 ⟨rfl, hb⟩; refine ⟨_, rfl, ?_⟩; replace HO3 := am (Kd.R_below (by exact rR HO3) hb); replace HK := am (Kept.below (S := (fun k_ => P3_ k_)) (by repeat (first | (with_reducible first | exact HK.out | apply Kept.alloc | apply Kept.drewN | apply Kept.drew) | exact HK.out)) hb); replace HB := bS HB hb; clear hb)); go_ret2; exact ⟨_, by first | rfl | (simp [errW_none, errW_some] <;> rfl) | (simp [*, errW_none, errW_some] <;> rfl), by exact rR HO3, by exact rB HB, by repeat (first | (with_reducible first | exact HK.out | apply Kept.alloc | apply Kept.drewN | apply Kept.drew) | exact HK.out)⟩
 ·rw [if_neg c6] at H; have c6b0 : ((l3.length : Int) == t939) = false := beq_eq_false_iff_ne.mpr c6; have c6b1 : ((l3.length : Int) != t939) = true := bne_iff_ne.mpr c6; have H' := am H; clear H; obtain ⟨Ao10, co10, eo10⟩ := Kd.R_slice HO3.out; subst eo10; go_enter Try.func119, Try.ntmps119; go_wp2_with (first | ((with_reducible refine gate_callee (f := 121) rfl ?_); refine goesL_ (some 16) rfl rfl Try.func121 (by kernel_rfl) rfl #[.slice A1 l1.length c1] rfl (by (try simp only [mT, mC, mN]); first | done | rfl) ?_; (with_reducible refine (impl_patternLetters.calls k _ _ l1 t939 _ ?side1 ?side2 A5.out).mono ?_); (case side1 => exact Kd.C_kept_now HR1.out (by repeat (first | (with_reducible first | exact HK.out | apply Kept.alloc | apply Kept.drewN | apply Kept.drew) | exact HK.out))); (case side2 => exact HC1.out); rintro e w' ⟨rfl, ⟨nd, rfl⟩⟩; refine ⟨_, rfl, ?_⟩)); go_loopg [10] k (fun kq v10 w' => ∃ (x10_1 : Int), v10 = .int .i64 x10_1 ∧ Aside0 (impl_matchLengths.l0 kq l0 l1 a2 l3 x10_1 = some (r1, r2)) ∧ Aside0 (kq ≤ k) ∧ Aside0 (Kd.R (Kd.int .i64) 3 w' w0.heap.size (fun k_ => (P3_ k_ ∨ w.heap.size ≤ k_)) (.slice Ao10 l3.length co10) l3) ∧ Aside0 (Kept w w' (fun k_ => P3_ k_)) ∧ Aside0 (Below w0.heap.size w0 w'))
  case atStart => exact ⟨(1), (by first | rfl | (simp; done) | (simp [*]; done)), H', ⟨Nat.le_refl _⟩, ⟨by exact rR HO3⟩, ⟨by repeat (first | (with_reducible first | exact HK.out | apply Kept.alloc | apply Kept.drewN | apply Kept.drew) | exact HK.out)⟩, ⟨by exact rB HB⟩⟩
  case round =>
   clear H'
   try clear c1
   try clear p2
   try clear c6
   try clear c6b0
   try clear c6b1
   obtain ⟨x10_1, rfl, HA, HK1, HO_3, HK, HB⟩ := hrel; cases gk with
   | zero => exact absurd HA.out (by simp [impl_matchLengths.l0])
   | succ k1 =>
    have H := HA.out; clear HA; simp only [impl_matchLengths.l0] at H; by_cases c11 : (wrap64 (a2 + x10_1)) ≤ (l0.length : Int)
    ·rw [if_pos c11] at H; have c11b0 : decide ((wrap64 (a2 + x10_1)) ≤ (l0.length : Int)) = true := decide_eq_true c11; clear c11; replace H := bE H; obtain ⟨t941, A120, H⟩ := H; replace H : (if t941.length < 17592186044416 then ((impl_matchLengths.f k1 l0 l1 a2 (t941 ++ [x10_1])).bind fun bt947 => (if bt947.2 = true then (some (bt947.1, true)) else (impl_matchLengths.l0 k1 l0 l1 a2 l3 (wrap64 (x10_1 + 1))))) else (none)) = some (r1, r2) := H; have A12 := am A120; clear A120; by_cases c13 : t941.length < 17592186044416
     ·rw [if_pos c13] at H; have LMc13 := am c13; clear c13; obtain ⟨y944, hy944⟩ : ∃ y_ : List Int, y_ = (t941 ++ [x10_1]) := ⟨_, rfl⟩; replace H : ((impl_matchLengths.f k1 l0 l1 a2 y944).bind fun bt947 => (if bt947.2 = true then (some (bt947.1, true)) else (impl_matchLengths.l0 k1 l0 l1 a2 l3 (wrap64 (x10_1 + 1))))) = some (r1, r2) := by rw [hy944]; first | exact H | exact (Option.bind_some _ _).symm.trans H
      have Ny944 := am hy944; clear hy944; replace H := bE H; obtain ⟨⟨t947, t950⟩, A140, H⟩ := H; replace H : (if t950 = true then (some (t947, true)) else (impl_matchLengths.l0 k1 l0 l1 a2 l3 (wrap64 (x10_1 + 1)))) = some (r1, r2) := H; have A14 := am A140; clear A140; by_cases c15 : t950 = true
      ·subst c15; have H1 : (some (t947, true)) = some (r1, r2) := by rw [if_pos rfl] at H; exact H
       clear H; have H := H1; clear H1; simp only [Option.some.injEq, Prod.mk.injEq] at H; obtain ⟨rfl, rfl⟩ := H; go_wp2_with (first | ((with_reducible refine gate_callee (f := 152) rfl ?_); refine goesL_ (some 37) rfl rfl Try.func152 (by kernel_rfl) rfl #[.slice Ao10 l3.length co10] rfl (by (try simp only [mT, mC, mN]); first | done | rfl) ?_; (with_reducible refine (slices_Clone_int_int.calls _ _ l3 t941 _ ?side1 ?side2 A12.out).mono ?_); (case side1 => exact xC ((Kd.R_reads' HO_3.out).2.2)); (case side2 => exact (Kd.R_reads' HO_3.out).2.1); rintro e w16 ⟨v942, rfl, ho0, hb⟩; refine ⟨_, rfl, ?_⟩; have HO943 := am (Kd.R_lower (Kd.R_new' (Kd.R_newM (M := fun k_ => (P3_ k_ ∨ w.heap.size ≤ k_)) ho0 (by first | exact HK.out.1 | exact (show Kept w _ (fun k_ => P3_ k_) from by repeat (first | (with_reducible first | exact HK.out | apply Kept.alloc | apply Kept.drewN | apply Kept.drew) | exact HK.out)).1) (fun k_ h_ => .inr h_)) (Kd.R_lt (by exact rR HO_3))) (bZ HB)); replace HO_3 := am (Kd.R_elder' (by exact rR HO_3) (Kd.R_base ho0) hb); replace HK := am (Kept.below (S := (fun k_ => P3_ k_)) (by repeat (first | (with_reducible first | exact HK.out | apply Kept.alloc | apply Kept.drewN | apply Kept.drew) | exact HK.out)) hb); replace HB := bS HB hb; clear hb ho0) | ((with_reducible refine gate_builtin (b := .append) (xs := #[.tmp 37, .tmp 39]) rfl ?_); at_builtin; refine Kd.R_append (Kd.int .i64) (w0 := w0) w0.heap.size rfl (.tmp 37) (.tmp 39) 22 3 (.int .i64 0) 8 rfl Try.underlying22 info3 rfl (by decide) (by omega) v942 t941 x10_1 [.int .i64 x10_1] (fun k_ => (P3_ k_ ∨ w.heap.size ≤ k_) ∧ some k_ ≠ (.slice Ao10 l3.length co10 : Value).ownBlock) (fun _ => False) rfl rfl ?aP (fun _ hk => hk.elim) ?aF ?aO ?aB ?aS ?aL ?_; (case aP => exact rfl); (case aB => exact (by exact rB HB)); (case aF => exact (fun k_ hk => ⟨(.inr (Nat.le_trans (by first | exact HK.out.1 | exact (show Kept w _ (fun k_ => P3_ k_) from by repeat (first | (with_reducible first | exact HK.out | apply Kept.alloc | apply Kept.drewN | apply Kept.drew) | exact HK.out)).1) hk)), Kd.fresh' (Kd.R_lt (by exact rR HO_3)) k_ hk⟩)); (case aO => exact (by exact xR (Kd.R_mono HO943.out (fun _ hk => ⟨hk.1.1, hk.2⟩)))); (case aS => exact (bZ HB)); (case aL => have := LMc13.out; omega); intro v945 w17 ho hb hg hat; rw [← Ny944.out] at ho; replace HO_3 := am (Kd.R_after (ok := (fun k_ => (P3_ k_ ∨ w.heap.size ≤ k_))) (by exact rR HO_3) hg hat); replace HB := am (hb); replace HK := am (Kept.of_grown (S := (fun k_ => P3_ k_)) hg (by repeat (first | (with_reducible first | exact HK.out | apply Kept.alloc | apply Kept.drewN | apply Kept.drew) | exact HK.out)) (fun k_ e_ => (HO943.out.1 k_ e_).1.1)); have HO946 := am (ho); clear HO943; clear ho hb hg hat; obtain ⟨Ao18, co18, eo18⟩ := Kd.R_slice HO946.out; subst eo18) | ((with_reducible refine gate_callee (f := 119) rfl ?_); refine goesL_ (some 41) rfl rfl Try.func119 (by kernel_rfl) rfl #[.slice A0 l0.length c0, .slice A1 l1.length c1, .int .i64 a2, .slice Ao18 y944.length co18] rfl (by (try simp only [mT, mC, mN]); first | done | rfl) ?_; (with_reducible refine (ih k1 (by have := HK1.out; omega) _ _ l0 _ _ l1 a2 (fun k_ => some k_ = (.slice Ao18 y944.length co18 : Value).ownBlock) (.slice Ao18 y944.length co18) y944 t947 true w0 _ ?side1 ?side2 ?side3 ?side4 ?side5 ?side6 A14.out).mono ?_); (case side1 => exact rB HB); (case side2 => exact Kd.C_kept_call HR0.out (by repeat (first | (with_reducible first | exact HK.out | apply Kept.alloc | apply Kept.drewN | apply Kept.drew) | exact HK.out)) (fun k_ hs_ => (fun e_ => (HO946.out.1 k_ e_.symm).1) hs_)); (case side3 => exact HC0.out); (case side4 => exact Kd.C_kept_call HR1.out (by repeat (first | (with_reducible first | exact HK.out | apply Kept.alloc | apply Kept.drewN | apply Kept.drew) | exact HK.out)) (fun k_ hs_ => (fun e_ => (HO946.out.1 k_ e_.symm).1) hs_)); (case side5 => exact HC1.out); (case side6 => exact Kd.R_tight rfl HO946.out); rintro e w19 ⟨v948, rfl, ho0, hb, hkp⟩; refine ⟨_, rfl, ?_⟩; have HO949 := am (Kd.R_mono (ok' := fun k_ => (P3_ k_ ∨ w.heap.size ≤ k_) ∧ some k_ ≠ (.slice Ao10 l3.length co10 : Value).ownBlock) ho0 (fun k_ hk_ => ⟨Or.elim hk_ (fun hs_ => (HO946.out.1 k_ (hs_).symm).1) (fun hn_ => (.inr (Nat.le_trans (by first | exact HK.out.1 | exact (show Kept w _ (fun k_ => P3_ k_) from by repeat (first | (with_reducible first | exact HK.out | apply Kept.alloc | apply Kept.drewN | apply Kept.drew) | exact HK.out)).1) hn_))), Or.elim hk_ (fun hs_ => fun e_ => (((HO_3.out).1 k_ e_.symm).2) hs_) (fun hn_ => (Kd.fresh' (Kd.R_lt (by exact rR HO_3)) k_ hn_))⟩)); replace HO_3 := am (Kd.R_mono (ok' := fun k_ => (P3_ k_ ∨ w.heap.size ≤ k_) ∧ some k_ ≠ (v948 : Value).ownBlock) (Kd.R_keptB (HO_3.out) hkp (fun k_ hk_ hs_ => (hk_.2) hs_)) (fun k_ hk_ => ⟨hk_.1.1, fun e_ => Or.elim (ho0.1 k_ e_.symm) (fun hs_ => hk_.2.1 hs_) (fun hn_ => Nat.not_le.2 hk_.2.2 hn_)⟩)); replace HK := am (Kept.then_ (S := (fun k_ => P3_ k_)) (by repeat (first | (with_reducible first | exact HK.out | apply Kept.alloc | apply Kept.drewN | apply Kept.drew) | exact HK.out)) hkp (fun k_ hs_ => (fun e_ => (HO946.out.1 k_ e_.symm).1) hs_)); replace HB := am (hb); clear HO946; clear hb hkp ho0)); go_ret2; exact ⟨_, by first | rfl | (simp [errW_none, errW_some] <;> rfl) | (simp [*, errW_none, errW_some] <;> rfl), by exact xR (Kd.R_mono HO949.out (fun _ hk => hk.1)), by exact rB HB, by repeat (first | (with_reducible first | exact HK.out | apply Kept.alloc | apply Kept.drewN | apply Kept.drew) | exact HK.out)⟩
      ·replace c15 := Bool.eq_false_iff.mpr c15; subst c15; have H1 : (impl_matchLengths.l0 k1 l0 l1 a2 l3 (wrap64 (x10_1 + 1))) = some (r1, r2) := by rw [if_neg (show ¬ (false = true) by decide)] at H; exact H
       clear H; have H := H1; clear H1; have H' := am H; clear H; go_wp2_with (first | ((with_reducible refine gate_callee (f := 152) rfl ?_); refine goesL_ (some 37) rfl rfl Try.func152 (by kernel_rfl) rfl #[.slice Ao10 l3.length co10] rfl (by (try simp only [mT, mC, mN]); first | done | rfl) ?_; (with_reducible refine (slices_Clone_int_int.calls _ _ l3 t941 _ ?side1 ?side2 A12.out).mono ?_); (case side1 => exact xC ((Kd.R_reads' HO_3.out).2.2)); (case side2 => exact (Kd.R_reads' HO_3.out).2.1); rintro e w20 ⟨v942, rfl, ho0, hb⟩; refine ⟨_, rfl, ?_⟩; have HO943 := am (Kd.R_lower (Kd.R_new' (Kd.R_newM (M := fun k_ => (P3_ k_ ∨ w.heap.size ≤ k_)) ho0 (by first | exact HK.out.1 | exact (show Kept w _ (fun k_ => P3_ k_) from by repeat (first | (with_reducible first | exact HK.out | apply Kept.alloc | apply Kept.drewN | apply Kept.drew) | exact HK.out)).1) (fun k_ h_ => .inr h_)) (Kd.R_lt (by exact rR HO_3))) (bZ HB)); replace HO_3 := am (Kd.R_elder' (by exact rR HO_3) (Kd.R_base ho0) hb); replace HK := am (Kept.below (S := (fun k_ => P3_ k_)) (by repeat (first | (with_reducible first | exact HK.out | apply Kept.alloc | apply Kept.drewN | apply Kept.drew) | exact HK.out)) hb); replace HB := bS HB hb; clear hb ho0) | ((with_reducible refine gate_builtin (b := .append) (xs := #[.tmp 37, .tmp 39]) rfl ?_); at_builtin; refine Kd.R_append (Kd.int .i64) (w0 := w0) w0.heap.size rfl (.tmp 37) (.tmp 39) 22 3 (.int .i64 0) 8 rfl Try.underlying22 info3 rfl (by decide) (by omega) v942 t941 x10_1 [.int .i64 x10_1] (fun k_ => (P3_ k_ ∨ w.heap.size ≤ k_) ∧ some k_ ≠ (.slice Ao10 l3.length co10 : Value).ownBlock) (fun _ => False) rfl rfl ?aP (fun _ hk => hk.elim) ?aF ?aO ?aB ?aS ?aL ?_; (case aP => exact rfl); (case aB => exact (by exact rB HB)); (case aF => exact (fun k_ hk => ⟨(.inr (Nat.le_trans (by first | exact HK.out.1 | exact (show Kept w _ (fun k_ => P3_ k_) from by repeat (first | (with_reducible first | exact HK.out | apply Kept.alloc | apply Kept.drewN | apply Kept.drew) | exact HK.out)).1) hk)), Kd.fresh' (Kd.R_lt (by exact rR HO_3)) k_ hk⟩)); (case aO => exact (by exact xR (Kd.R_mono HO943.out (fun _ hk => ⟨hk.1.1, hk.2⟩)))); (case aS => exact (bZ HB)); (case aL => have := LMc13.out; omega); intro v945 w21 ho hb hg hat; rw [← Ny944.out] at ho; replace HO_3 := am (Kd.R_after (ok := (fun k_ => (P3_ k_ ∨ w.heap.size ≤ k_))) (by exact rR HO_3) hg hat); replace HB := am (hb); replace HK := am (Kept.of_grown (S := (fun k_ => P3_ k_)) hg (by repeat (first | (with_reducible first | exact HK.out | apply Kept.alloc | apply Kept.drewN | apply Kept.drew) | exact HK.out)) (fun k_ e_ => (HO943.out.1 k_ e_).1.1)); have HO946 := am (ho); clear HO943; clear ho hb hg hat; obtain ⟨Ao22, co22, eo22⟩ := Kd.R_slice HO946.out; subst eo22) | ((with_reducible refine gate_callee (f := 119) rfl ?_); refine goesL_ (some 41) rfl rfl Try.func119 (by kernel_rfl) rfl #[.slice A0 l0.length c0, .slice A1 l1.length c1, .int .i64 a2, .slice Ao22 y944.length co22] rfl (by (try simp only [mT, mC, mN]); first | done | rfl) ?_; (with_reducible refine (ih k1 (by have := HK1.out; omega) _ _ l0 _ _ l1 a2 (fun k_ => some k_ = (.slice Ao22 y944.length co22 : Value).ownBlock) (.slice Ao22 y944.length co22) y944 t947 false w0 _ ?side1 ?side2 ?side3 ?side4 ?side5 ?side6 A14.out).mono ?_); (case side1 => exact rB HB); (case side2 => exact Kd.C_kept_call HR0.out (by repeat (first | (with_reducible first | exact HK.out | apply Kept.alloc | apply Kept.drewN | apply Kept.drew) | exact HK.out)) (fun k_ hs_ => (fun e_ => (HO946.out.1 k_ e_.symm).1) hs_)); (case side3 => exact HC0.out); (case side4 => exact Kd.C_kept_call HR1.out (by repeat (first | (with_reducible first | exact HK.out | apply Kept.alloc | apply Kept.drewN | apply Kept.drew) | exact HK.out)) (fun k_ hs_ => (fun e_ => (HO946.out.1 k_ e_.symm).1) hs_)); (case side5 => exact HC1.out); (case side6 => exact Kd.R_tight rfl HO946.out); rintro e w23 ⟨v948, rfl, ho0, hb, hkp⟩; refine ⟨_, rfl, ?_⟩; have HO949 := am (Kd.R_mono (ok' := fun k_ => (P3_ k_ ∨ w.heap.size ≤ k_) ∧ some k_ ≠ (.slice Ao10 l3.length co10 : Value).ownBlock) ho0 (fun k_ hk_ => ⟨Or.elim hk_ (fun hs_ => (HO946.out.1 k_ (hs_).symm).1) (fun hn_ => (.inr (Nat.le_trans (by first | exact HK.out.1 | exact (show Kept w _ (fun k_ => P3_ k_) from by repeat (first | (with_reducible first | exact HK.out | apply Kept.alloc | apply Kept.drewN | apply Kept.drew) | exact HK.out)).1) hn_))), Or.elim hk_ (fun hs_ => fun e_ => (((HO_3.out).1 k_ e_.symm).2) hs_) (fun hn_ => (Kd.fresh' (Kd.R_lt (by exact rR HO_3)) k_ hn_))⟩)); replace HO_3 := am (Kd.R_mono (ok' := fun k_ => (P3_ k_ ∨ w.heap.size ≤ k_) ∧ some k_ ≠ (v948 : Value).ownBlock) (Kd.R_keptB (HO_3.out) hkp (fun k_ hk_ hs_ => (hk_.2) hs_)) (fun k_ hk_ => ⟨hk_.1.1, fun e_ => Or.elim (ho0.1 k_ e_.symm) (fun hs_ => hk_.2.1 hs_) (fun hn_ => Nat.not_le.2 hk_.2.2 hn_)⟩)); replace HK := am (Kept.then_ (S := (fun k_ => P3_ k_)) (by repeat (first | (with_reducible first | exact HK.out | apply Kept.alloc | apply Kept.drewN | apply Kept.drew) | exact HK.out)) hkp (fun k_ hs_ => (fun e_ => (HO946.out.1 k_ e_.symm).1) hs_)); replace HB := am (hb); clear HO946; clear hb hkp ho0)); go_roundg k1
       case measure => have := HK1.out; omega
       case rel => exact ⟨(wrap64 (x10_1 + 1)), (by first | rfl | (simp; done) | (simp [*]; done)), H', ⟨by have := HK1.out; omega⟩, ⟨by exact xR (Kd.R_mono HO_3.out (fun _ hk => hk.1))⟩, ⟨by repeat (first | (with_reducible first | exact HK.out | apply Kept.alloc | apply Kept.drewN | apply Kept.drew) | exact HK.out)⟩, ⟨by exact rB HB⟩⟩
     ·rw [if_neg c13] at H; exact absurd H (by simp)
    ·rw [if_neg c11] at H; have c11b0 : decide ((wrap64 (a2 + x10_1)) ≤ (l0.length : Int)) = false := decide_eq_false c11; clear c11; simp only [Option.some.injEq, Prod.mk.injEq] at H; obtain ⟨rfl, rfl⟩ := H; go_wp2; go_ret2; exact ⟨_, by first | rfl | (simp [errW_none, errW_some] <;> rfl) | (simp [*, errW_none, errW_some] <;> rfl), by first | exact Kd.R_nil _ _ _ _ _ | exact Kd.N_nil _ _ _ _ _ | exact Kd.V_nil _ _ _ _ _ | exact Kd.Q_nil _ _ _ _ _ | exact Kd.S_nil _ _ _ _ _, by exact rB HB, by repeat (first | (with_reducible first | exact HK.out | apply Kept.alloc | apply Kept.drewN | apply Kept.drew) | exact HK.out)⟩
mutual
def impl_FindPattern.j0 : Nat → List Int → List Int → Bool → Option (Int × List Int × Bool)
 | 0, _, _, _ => none
 | k + 1, x0, x1, x16 => if x16 = true then (some (0, ([] : List Int), false)) else (impl_FindPattern.l0 k x0 x1 (x0.length : Int) 0)
def impl_FindPattern.l0 : Nat → List Int → List Int → Int → Int → Option (Int × List Int × Bool)
 | 0, _, _, _, _ => none
 | k + 1, x0, x1, x19, x20 => if x20 < x19 then ((impl_matchLengths.f k x0 x1 x20 ([] : List Int)).bind fun bt953 => (if bt953.2 = true then (some (x20, bt953.1, true)) else (impl_FindPattern.l0 k x0 x1 x19 (wrap64 (x20 + 1))))) else (some (0, ([] : List Int), false))
end
def impl_FindPattern.f (k : Nat) (l0 : List Int) (l1 : List Int) : Option (Int × List Int × Bool) := (impl_IsPattern.f k l1).bind fun t952 => (if t952 = true then (impl_FindPattern.j0 k l0 l1 (decide ((l0.length : Int) > 24))) else (impl_FindPattern.j0 k l0 l1 true))
set_option maxHeartbeats 8000000 in
set_option maxRecDepth 100000 in
theorem impl_FindPattern.calls (k : Nat) (A0 : Option Addr) (c0 : Nat) (l0 : List Int) (A1 : Option Addr) (c1 : Nat) (l1 : List Int) (r1 : Int) (r2 : List Int) (r3 : Bool) (w : World) (hr0 : Kd.C (Kd.int .i64) w A0 l0.length l0) (hc0 : l0.length ≤ c0) (hr1 : Kd.C (Kd.int .i64) w A1 l1.length l1) (hc1 : l1.length ≤ c1) (h : impl_FindPattern.f k l0 l1 = some (r1, r2, r3)) :
  Calls Try.prog 60 #[.slice A0 l0.length c0, .slice A1 l1.length c1] w fun e w' => ∃ v1_ : Value, e = .returned (.tuple #[.agg #[.int .i64 r1, v1_], .bool r3]) ∧ Kd.R (Kd.int .i64) 3 w' w.heap.size (fun _ => True) v1_ r2 ∧ Below w.heap.size w w' := by
 have hu75 := Try.underlying75; have HR0 := am hr0; have HC0 := am hc0; clear hr0 hc0; have HR1 := am hr1; have HC1 := am hc1; clear hr1 hc1; have HB := am (Below.refl w.heap.size w); have H : ((impl_IsPattern.f k l1).bind fun t952 => (if t952 = true then (impl_FindPattern.j0 k l0 l1 (decide ((l0.length : Int) > 24))) else (impl_FindPattern.j0 k l0 l1 true))) = some (r1, r2, r3) := h; clear h; have HC3 := am H; clear H; go_enter Try.func60, Try.ntmps60; go_upto_region 1 with (first | ((with_reducible refine gate_dst (N := 4) rfl ?_); (try (refine gate_guard (by rfl) ?_; dsimp only)); refine box_event ?hg (N := 4) ?hd (cs := #[.int .i64 0, .slice none 0 0]) (t := 75) ?hr ?_; (case hd | hg => rfl); (case hr => go_simp <;> rfl); intro gb951 hg w4 hbox hb; have BK951 := am (hbox); have GW951 := am ((by rw [hg]; exact (bZ HB) : w.heap.size ≤ gb951)); have GE951 := am ((by rw [hg]; exact (bZ HB) : w.heap.size ≤ gb951)); replace HB := bS HB hb; have qW951 := Ge.mk GW951.out; have qE951 := Ge.mk GE951.out; clear hb hbox hg)); (try simp only [Act.put, qa, qz, qs]); go_cut [16] (fun v16 wc => ∃ (kq : Nat) (x16_2 : Bool), v16 = .bool x16_2 ∧ Aside0 (impl_FindPattern.j0 kq l0 l1 x16_2 = some (r1, r2, r3)) ∧ Aside0 (kq ≤ k) ∧ Aside0 (wc.heap[gb951]? = some (.cells #[.int .i64 0, (.slice none 0 0)] 75 (0, 0))) ∧ Aside0 (Below w.heap.size w wc))
 case first =>
  have H := HC3.out; clear HC3; replace H := bE H; obtain ⟨t952, A50, H⟩ := H; replace H : (if t952 = true then (impl_FindPattern.j0 k l0 l1 (decide ((l0.length : Int) > 24))) else (impl_FindPattern.j0 k l0 l1 true)) = some (r1, r2, r3) := H; have A5 := am A50; clear A50; by_cases c6 : t952 = true
  ·subst c6; have H1 : (impl_FindPattern.j0 k l0 l1 (decide ((l0.length : Int) > 24))) = some (r1, r2, r3) := by rw [if_pos rfl] at H; exact H
   clear H; have H := H1; clear H1; have H' := am H; clear H; go_wp2_with (first | ((with_reducible refine gate_callee (f := 62) rfl ?_); refine goesL_ (some 10) rfl rfl Try.func62 (by kernel_rfl) rfl #[.slice A1 l1.length c1] rfl (by (try simp only [mT, mC, mN]); first | done | rfl) ?_; (with_reducible refine (impl_IsPattern.calls k _ _ l1 true _ ?side1 ?side2 A5.out).mono ?_); (case side1 => exact xC ((Kd.C_below HR1.out HB.out))); (case side2 => exact HC1.out); rintro e w' ⟨rfl, ⟨nd, rfl⟩⟩; refine ⟨_, rfl, ?_⟩)); go_meet
   case rel => exact ⟨_, (decide ((l0.length : Int) > 24)), (by first | rfl | (simp; done) | (simp [*]; done)), H', ⟨by first | omega | exact Nat.le_refl _⟩, ⟨by exact rX BK951⟩, ⟨by exact rB HB⟩⟩
  ·replace c6 := Bool.eq_false_iff.mpr c6; subst c6; have H1 : (impl_FindPattern.j0 k l0 l1 true) = some (r1, r2, r3) := by rw [if_neg (show ¬ (false = true) by decide)] at H; exact H
   clear H; have H := H1; clear H1; have H' := am H; clear H; go_wp2_with (first | ((with_reducible refine gate_callee (f := 62) rfl ?_); refine goesL_ (some 10) rfl rfl Try.func62 (by kernel_rfl) rfl #[.slice A1 l1.length c1] rfl (by (try simp only [mT, mC, mN]); first | done | rfl) ?_; (with_reducible refine (impl_IsPattern.calls k _ _ l1 false _ ?side1 ?side2 A5.out).mono ?_); (case side1 => exact xC ((Kd.C_below HR1.out HB.out))); (case side2 => exact HC1.out); rintro e w' ⟨rfl, ⟨nd, rfl⟩⟩; refine ⟨_, rfl, ?_⟩)); go_meet
   case rel => exact ⟨_, (true), (by first | rfl | (simp; done) | (simp [*]; done)), H', ⟨by first | omega | exact Nat.le_refl _⟩, ⟨by exact rX BK951⟩, ⟨by exact rB HB⟩⟩
 case rest =>
  clear HC3
  try clear c1
  try clear p2
  try clear c6
  obtain ⟨kq, x16_2, rfl, HA, HJ2, BK951, HB⟩ := hcut; cases kq with
  | zero => exact absurd HA.out (by simp [impl_FindPattern.j0])
  | succ kj2 =>
   have H := HA.out; clear HA; simp only [impl_FindPattern.j0] at H; by_cases c7 : x16_2 = true
   ·subst c7; have H1 : (some (0, ([] : List Int), false)) = some (r1, r2, r3) := by rw [if_pos rfl] at H; exact H
    clear H; have H := H1; clear H1; simp only [Option.some.injEq, Prod.mk.injEq] at H; obtain ⟨rfl, rfl, rfl⟩ := H; have hcz8_0 := z20 BK951; have hcz8_1 := z21 BK951; have hfz8_0 := blk_frozen BK951.out 0; have hfz8_1 := blk_frozen BK951.out 1; go_wp2; refine bodyPost_ret (results_ct rfl _ _ gb951 75 #[.int .i64 0, .slice none 0 0] (0, 0) _ rfl (by (with_reducible repeat (first | refine blk_drewN ?_ _ | refine blk_drew ?_ | refine blk_alloc ?_ _)); refine blk_put (cs := #[.int .i64 0, .slice none 0 0]) ?_ 1 _ rfl; (with_reducible repeat (first | refine blk_drewN ?_ _ | refine blk_drew ?_ | refine blk_alloc ?_ _)); refine blk_put (cs := #[.int .i64 0, .slice none 0 0]) ?_ 0 _ rfl; exact rX BK951) Try.underlying75 rfl (by kernel_rfl)) rfl ?_; exact ⟨_, by first | rfl | (simp [errW_none, errW_some] <;> rfl) | (simp [*, errW_none, errW_some] <;> rfl), by first | exact Kd.R_nil _ _ _ _ _ | exact Kd.N_nil _ _ _ _ _ | exact Kd.V_nil _ _ _ _ _ | exact Kd.Q_nil _ _ _ _ _ | exact Kd.S_nil _ _ _ _ _, by exact rB HB⟩
   ·replace c7 := Bool.eq_false_iff.mpr c7; subst c7; have H1 : (impl_FindPattern.l0 kj2 l0 l1 (l0.length : Int) 0) = some (r1, r2, r3) := by rw [if_neg (show ¬ (false = true) by decide)] at H; exact H
    clear H; have H := H1; clear H1; have H' := am H; clear H; go_wp2; go_loopg [20] kj2 (fun kq v20 w' => ∃ (x20_2 : Int) (x952000_2 : Int), v20 = .int .i64 x20_2 ∧ Aside0 (impl_FindPattern.l0 kq l0 l1 (l0.length : Int) x20_2 = some (r1, r2, r3)) ∧ Aside0 (kq ≤ kj2) ∧ Aside0 (w'.heap[gb951]? = some (.cells #[.int .i64 x952000_2, (.slice none 0 0)] 75 (0, 0))) ∧ Aside0 (Below w.heap.size w w'))
    case atStart => exact ⟨(0), (0), (by first | rfl | (simp; done) | (simp [*]; done)), H', ⟨Nat.le_refl _⟩, ⟨by exact rX BK951⟩, ⟨by exact rB HB⟩⟩
    case round =>
     clear H'
     try clear c1
     try clear p2
     try clear c6
     try clear c7
     try clear hcz8_0
     try clear hcz8_1
     try clear hfz8_0
     try clear hfz8_1
     try clear p2
     obtain ⟨x20_2, x952000_2, rfl, HA, HK2, BK951, HB⟩ := hrel; cases gk with
     | zero => exact absurd HA.out (by simp [impl_FindPattern.l0])
     | succ k2 =>
      have H := HA.out; clear HA; simp only [impl_FindPattern.l0] at H; by_cases c9 : x20_2 < (l0.length : Int)
      ·rw [if_pos c9] at H; have c9b0 : decide (x20_2 < (l0.length : Int)) = true := decide_eq_true c9; clear c9; replace H := bE H; obtain ⟨⟨t953, t956⟩, A100, H⟩ := H; replace H : (if t956 = true then (some (x20_2, t953, true)) else (impl_FindPattern.l0 k2 l0 l1 (l0.length : Int) (wrap64 (x20_2 + 1)))) = some (r1, r2, r3) := H; have A10 := am A100; clear A100; by_cases c11 : t956 = true
       ·subst c11; have H1 : (some (x20_2, t953, true)) = some (r1, r2, r3) := by rw [if_pos rfl] at H; exact H
        clear H; have H := H1; clear H1; simp only [Option.some.injEq, Prod.mk.injEq] at H; obtain ⟨rfl, rfl, rfl⟩ := H; go_wp2_with (first | ((with_reducible refine gate_callee (f := 119) rfl ?_); refine goesL_ (some 27) rfl rfl Try.func119 (by kernel_rfl) rfl #[.slice A0 l0.length c0, .slice A1 l1.length c1, .int .i64 x20_2, .slice none 0 0] rfl (by (try simp only [mT, mC, mN]); first | done | rfl) ?_; (refine (impl_matchLengths.calls k2 _ _ l0 _ _ l1 x20_2 (fun k_ => some k_ = (.slice none 0 0 : Value).ownBlock) (.slice none 0 0) ([] : List Int) t953 true w _ ?side1 ?side2 ?side3 ?side4 ?side5 ?side6 A10.out).mono ?_); (case side1 => exact rB HB); (case side2 => exact Kd.C_kept_came (Kd.heap_int .i64) HR0.out (by exact rB HB) (fun k_ hs_ => (fun e_ => by simp [Value.ownBlock] at e_) hs_)); (case side3 => exact HC0.out); (case side4 => exact Kd.C_kept_came (Kd.heap_int .i64) HR1.out (by exact rB HB) (fun k_ hs_ => (fun e_ => by simp [Value.ownBlock] at e_) hs_)); (case side5 => exact HC1.out); (case side6 => exact Kd.R_nil _ _ _ _ _); rintro e w12 ⟨v954, rfl, ho0, hb, hkp⟩; refine ⟨_, rfl, ?_⟩; replace BK951 := am (blk_kept (by exact rX BK951) hkp (fun hs_ => (fun e_ => by simp [Value.ownBlock] at e_) hs_)); have HO955 := am (Kd.R_mono (ok' := fun k_ => True) ho0 (fun k_ hk_ => trivial)); replace HB := am (hb); clear hb hkp ho0; obtain ⟨Ao13, co13, eo13⟩ := Kd.R_slice HO955.out; subst eo13; have hcz14_0 := z20 BK951; have hcz14_1 := z21 BK951; have hfz14_0 := blk_frozen BK951.out 0; have hfz14_1 := blk_frozen BK951.out 1)); refine bodyPost_ret (results_ct rfl _ _ gb951 75 #[.int .i64 x20_2, .slice Ao13 t953.length co13] (0, 0) _ rfl (by (with_reducible repeat (first | refine blk_drewN ?_ _ | refine blk_drew ?_ | refine blk_alloc ?_ _)); refine blk_put (cs := #[.int .i64 x20_2, .slice none 0 0]) ?_ 1 _ rfl; (with_reducible repeat (first | refine blk_drewN ?_ _ | refine blk_drew ?_ | refine blk_alloc ?_ _)); refine blk_put (cs := #[.int .i64 x952000_2, .slice none 0 0]) ?_ 0 _ rfl; exact rX BK951) Try.underlying75 rfl (by kernel_rfl)) rfl ?_; exact ⟨_, by first | rfl | (simp [errW_none, errW_some] <;> rfl) | (simp [*, errW_none, errW_some] <;> rfl), by exact xR (Kd.R_mono (Kd.R_far (p := ⟨gb951, 1, none⟩) (Kd.R_far (p := ⟨gb951, 0, none⟩) (Kd.R_types HO955.out BK951.out (by decide)) (fun _ hk => hk.2) (.int .i64 x20_2)) (fun _ hk => hk.2) (.slice Ao13 t953.length co13)) (fun _ hk => trivial)), by exact rB HB⟩
       ·replace c11 := Bool.eq_false_iff.mpr c11; subst c11; have H1 : (impl_FindPattern.l0 k2 l0 l1 (l0.length : Int) (wrap64 (x20_2 + 1))) = some (r1, r2, r3) := by rw [if_neg (show ¬ (false = true) by decide)] at H; exact H
        clear H; have H := H1; clear H1; have H' := am H; clear H; go_wp2_with (first | ((with_reducible refine gate_callee (f := 119) rfl ?_); refine goesL_ (some 27) rfl rfl Try.func119 (by kernel_rfl) rfl #[.slice A0 l0.length c0, .slice A1 l1.length c1, .int .i64 x20_2, .slice none 0 0] rfl (by (try simp only [mT, mC, mN]); first | done | rfl) ?_; (refine (impl_matchLengths.calls k2 _ _ l0 _ _ l1 x20_2 (fun k_ => some k_ = (.slice none 0 0 : Value).ownBlock) (.slice none 0 0) ([] : List Int) t953 false w _ ?side1 ?side2 ?side3 ?side4 ?side5 ?side6 A10.out).mono ?_); (case side1 => exact rB HB); (case side2 => exact Kd.C_kept_came (Kd.heap_int .i64) HR0.out (by exact rB HB) (fun k_ hs_ => (fun e_ => by simp [Value.ownBlock] at e_) hs_)); (case side3 => exact HC0.out); (case side4 => exact Kd.C_kept_came (Kd.heap_int .i64) HR1.out (by exact rB HB) (fun k_ hs_ => (fun e_ => by simp [Value.ownBlock] at e_) hs_)); (case side5 => exact HC1.out); (case side6 => exact Kd.R_nil _ _ _ _ _); rintro e w15 ⟨v954, rfl, ho0, hb, hkp⟩; refine ⟨_, rfl, ?_⟩; replace BK951 := am (blk_kept (by exact rX BK951) hkp (fun hs_ => (fun e_ => by simp [Value.ownBlock] at e_) hs_)); have HO955 := am (Kd.R_mono (ok' := fun k_ => True) ho0 (fun k_ hk_ => trivial)); replace HB := am (hb); clear hb hkp ho0)); go_roundg k2
        case measure => have := HJ2.out; have := HK2.out; omega
        case rel => exact ⟨(wrap64 (x20_2 + 1)), (x952000_2), (by first | rfl | (simp; done) | (simp [*]; done)), H', ⟨by have := HJ2.out; have := HK2.out; omega⟩, ⟨by exact rX BK951⟩, ⟨by exact rB HB⟩⟩
      ·rw [if_neg c9] at H; have c9b0 : decide (x20_2 < (l0.length : Int)) = false := decide_eq_false c9; clear c9; simp only [Option.some.injEq, Prod.mk.injEq] at H; obtain ⟨rfl, rfl, rfl⟩ := H; have hcz16_0 := z20 BK951; have hcz16_1 := z21 BK951; have hfz16_0 := blk_frozen BK951.out 0; have hfz16_1 := blk_frozen BK951.out 1; go_wp2; refine bodyPost_ret (results_ct rfl _ _ gb951 75 #[.int .i64 0, .slice none 0 0] (0, 0) _ rfl (by (with_reducible repeat (first | refine blk_drewN ?_ _ | refine blk_drew ?_ | refine blk_alloc ?_ _)); refine blk_put (cs := #[.int .i64 0, .slice none 0 0]) ?_ 1 _ rfl; (with_reducible repeat (first | refine blk_drewN ?_ _ | refine blk_drew ?_ | refine blk_alloc ?_ _)); refine blk_put (cs := #[.int .i64 x952000_2, .slice none 0 0]) ?_ 0 _ rfl; exact rX BK951) Try.underlying75 rfl (by kernel_rfl)) rfl ?_; exact ⟨_, by first | rfl | (simp [errW_none, errW_some] <;> rfl) | (simp [*, errW_none, errW_some] <;> rfl), by first | exact Kd.R_nil _ _ _ _ _ | exact Kd.N_nil _ _ _ _ _ | exact Kd.V_nil _ _ _ _ _ | exact Kd.Q_nil _ _ _ _ _ | exact Kd.S_nil _ _ _ _ _, by exact rB HB⟩
def impl_AvoidsPattern.f (k : Nat) (l0 : List Int) (l1 : List Int) : Option (Bool) := (impl_IsPattern.f k l1).bind fun t957 => (if t957 = true then (if (l0.length : Int) > 24 then (some false) else ((impl_FindPattern.f k l0 l1).bind fun bt958 => (some (!bt958.2.2)))) else (some false))
set_option maxHeartbeats 8000000 in
set_option maxRecDepth 100000 in
theorem impl_AvoidsPattern.calls (k : Nat) (A0 : Option Addr) (c0 : Nat) (l0 : List Int) (A1 : Option Addr) (c1 : Nat) (l1 : List Int) (r : Bool) (w : World) (hr0 : Kd.C (Kd.int .i64) w A0 l0.length l0) (hc0 : l0.length ≤ c0) (hr1 : Kd.C (Kd.int .i64) w A1 l1.length l1) (hc1 : l1.length ≤ c1) (h : impl_AvoidsPattern.f k l0 l1 = some r) :
  Calls Try.prog 55 #[.slice A0 l0.length c0, .slice A1 l1.length c1] w fun e w' => e = .returned (.bool r) ∧ Below w.heap.size w w' := by
 have hu75 := Try.underlying75; have HR0 := am hr0; have HC0 := am hc0; clear hr0 hc0; have HR1 := am hr1; have HC1 := am hc1; clear hr1 hc1; have HB := am (Below.refl w.heap.size w); have H : ((impl_IsPattern.f k l1).bind fun t957 => (if t957 = true then (if (l0.length : Int) > 24 then (some false) else ((impl_FindPattern.f k l0 l1).bind fun bt958 => (some (!bt958.2.2)))) else (some false))) = some r := h; clear h; replace H := bE H; obtain ⟨t957, A30, H⟩ := H; replace H : (if t957 = true then (if (l0.length : Int) > 24 then (some false) else ((impl_FindPattern.f k l0 l1).bind fun bt958 => (some (!bt958.2.2)))) else (some false)) = some r := H; have A3 := am A30; clear A30; by_cases c4 : t957 = true
 ·subst c4; have H1 : (if (l0.length : Int) > 24 then (some false) else ((impl_FindPattern.f k l0 l1).bind fun bt958 => (some (!bt958.2.2)))) = some r := by rw [if_pos rfl] at H; exact H
  clear H; have H := H1; clear H1; by_cases c5 : (l0.length : Int) > 24
  ·rw [if_pos c5] at H; have c5b0 : decide (24 < (l0.length : Int)) = true := decide_eq_true c5; have c5b1 : decide (24 < l0.length) = true := decide_eq_true (by omega); clear c5; obtain rfl := Option.some.inj H; go_enter Try.func55, Try.ntmps55; go_wp2_with (first | ((with_reducible refine gate_callee (f := 62) rfl ?_); refine goesL_ (some 8) rfl rfl Try.func62 (by kernel_rfl) rfl #[.slice A1 l1.length c1] rfl (by (try simp only [mT, mC, mN]); first | done | rfl) ?_; (with_reducible refine (impl_IsPattern.calls k _ _ l1 true _ ?side1 ?side2 A3.out).mono ?_); (case side1 => exact xC (HR1.out)); (case side2 => exact HC1.out); rintro e w' ⟨rfl, ⟨nd, rfl⟩⟩; refine ⟨_, rfl, ?_⟩)); go_ret; exact ⟨by first | rfl | (simp [errW_none, errW_some] <;> rfl) | (simp [*, errW_none, errW_some] <;> rfl), by exact rB HB⟩
  ·rw [if_neg c5] at H; have c5b0 : decide (24 < (l0.length : Int)) = false := decide_eq_false c5; have c5b1 : decide (24 < l0.length) = false := decide_eq_false (by omega); clear c5; replace H := bE H; obtain ⟨⟨t958, t959, t962⟩, A60, H⟩ := H; replace H : (some (!t962)) = some r := H; have A6 := am A60; clear A60; obtain rfl := Option.some.inj H; go_enter Try.func55, Try.ntmps55; go_wp2_with (first | ((with_reducible refine gate_callee (f := 62) rfl ?_); refine goesL_ (some 8) rfl rfl Try.func62 (by kernel_rfl) rfl #[.slice A1 l1.length c1] rfl (by (try simp only [mT, mC, mN]); first | done | rfl) ?_; (with_reducible refine (impl_IsPattern.calls k _ _ l1 true _ ?side1 ?side2 A3.out).mono ?_); (case side1 => exact xC (HR1.out)); (case side2 => exact HC1.out); rintro e w' ⟨rfl, ⟨nd, rfl⟩⟩; refine ⟨_, rfl, ?_⟩) | ((with_reducible refine gate_callee (f := 60) rfl ?_); refine goesL_ (some 18) rfl rfl Try.func60 (by kernel_rfl) rfl #[.slice A0 l0.length c0, .slice A1 l1.length c1] rfl (by (try simp only [mT, mC, mN]); first | done | rfl) ?_; (with_reducible refine (impl_FindPattern.calls k _ _ l0 _ _ l1 t958 t959 t962 _ ?side1 ?side2 ?side3 ?side4 A6.out).mono ?_); (case side1 => exact xC (HR0.out)); (case side2 => exact HC0.out); (case side3 => exact xC (HR1.out)); (case side4 => exact HC1.out); rintro e w7 ⟨v960, rfl, ho0, hb⟩; refine ⟨_, rfl, ?_⟩; have HO961 := am (Kd.R_lower ho0 (bZ HB)); replace HB := bS HB hb; clear hb ho0) | ((with_reducible refine gate_dst (N := 5) rfl ?_); (try (refine gate_guard (by rfl) ?_; dsimp only)); refine box_event ?hg (N := 5) ?hd (cs := #[.int .i64 0, .slice none 0 0]) (t := 75) ?hr ?_; (case hd | hg => rfl); (case hr => go_simp <;> rfl); intro gb963 hg w8 hbox hb; replace HO961 := am (Kd.R_below (by exact rR HO961) hb); have BK963 := am (hbox); have GW963 := am ((by rw [hg]; exact (bZ HB) : w.heap.size ≤ gb963)); have GE963 := am ((by rw [hg]; exact (bZ HB) : w.heap.size ≤ gb963)); replace HB := bS HB hb; have qW963 := Ge.mk GW963.out; have qE963 := Ge.mk GE963.out; clear hb hbox hg; have hcz9_0 := z20 BK963; have hcz9_1 := z21 BK963; have hfz9_0 := blk_frozen BK963.out 0; have hfz9_1 := blk_frozen BK963.out 1; obtain ⟨Ao10, co10, eo10⟩ := Kd.R_slice HO961.out; subst eo10)); go_ret; exact ⟨by first | rfl | (simp [errW_none, errW_some] <;> rfl) | (simp [*, errW_none, errW_some] <;> rfl), by exact rB HB⟩
 ·replace c4 := Bool.eq_false_iff.mpr c4; subst c4; have H1 : (some false) = some r := by rw [if_neg (show ¬ (false = true) by decide)] at H; exact H
  clear H; have H := H1; clear H1; obtain rfl := Option.some.inj H; go_enter Try.func55, Try.ntmps55; go_wp2_with (first | ((with_reducible refine gate_callee (f := 62) rfl ?_); refine goesL_ (some 8) rfl rfl Try.func62 (by kernel_rfl) rfl #[.slice A1 l1.length c1] rfl (by (try simp only [mT, mC, mN]); first | done | rfl) ?_; (with_reducible refine (impl_IsPattern.calls k _ _ l1 false _ ?side1 ?side2 A3.out).mono ?_); (case side1 => exact xC (HR1.out)); (case side2 => exact HC1.out); rintro e w' ⟨rfl, ⟨nd, rfl⟩⟩; refine ⟨_, rfl, ?_⟩)); go_ret; exact ⟨by first | rfl | (simp [errW_none, errW_some] <;> rfl) | (simp [*, errW_none, errW_some] <;> rfl), by exact rB HB⟩
def spec_l1Byte.f (s0_0 : List Int) (s0_1 : Int) (s0_2 : Int) : Option (Int × Int × Int) := if s0_1 < (s0_0.length : Int) then (if 0 ≤ s0_1 then (some (Go.bits .and .i64 (wrap64 ((Go.bits .and .i64 (Go.bits .xor .i64 ((wrap64 ((wrap64 (s0_2 * 6364136223846793005)) + 1442695040888963407)) / 8589934592) ((wrap64 ((wrap64 (s0_2 * 6364136223846793005)) + 1442695040888963407)) / 35184372088832)) 255) + (wrap64 (rd s0_0 s0_1)))) 255, wrap64 (s0_1 + 1), wrap64 ((wrap64 (s0_2 * 6364136223846793005)) + 1442695040888963407))) else (none)) else (some (Go.bits .and .i64 (Go.bits .xor .i64 ((wrap64 ((wrap64 (s0_2 * 6364136223846793005)) + 1442695040888963407)) / 8589934592) ((wrap64 ((wrap64 (s0_2 * 6364136223846793005)) + 1442695040888963407)) / 35184372088832)) 255, s0_1, wrap64 ((wrap64 (s0_2 * 6364136223846793005)) + 1442695040888963407)))
set_option maxHeartbeats 8000000 in
set_option maxRecDepth 100000 in
theorem spec_l1Byte.calls (g : Nat) (s0_0 : List Int) (s0_1 : Int) (s0_2 : Int) (r1 : Int) (r2 : Int) (r3 : Int) (w0 w : World) (hI : IsS125 w0 w g s0_0 s0_1 s0_2) (hB : Below w0.heap.size w0 w) (h : spec_l1Byte.f s0_0 s0_1 s0_2 = some (r1, r2, r3)) :
  Calls Try.prog 145 #[.pointer (some ⟨g, 0, none⟩)] w fun e w' => e = .returned (.int .i64 r1) ∧ IsS125 w0 w' g s0_0 r2 r3 ∧ Below w0.heap.size w0 w' ∧ KeepBut w w' g none := by
 have HI0 := am hI; have qI0 := Ge.mk (hI.ge); have HK := am (KeepBut.refl w g none); have HL := am hB.size; clear hI; have HW0 := am hB.size; have HB := am hB; clear hB; have H : (if s0_1 < (s0_0.length : Int) then (if 0 ≤ s0_1 then (some (Go.bits .and .i64 (wrap64 ((Go.bits .and .i64 (Go.bits .xor .i64 ((wrap64 ((wrap64 (s0_2 * 6364136223846793005)) + 1442695040888963407)) / 8589934592) ((wrap64 ((wrap64 (s0_2 * 6364136223846793005)) + 1442695040888963407)) / 35184372088832)) 255) + (wrap64 (rd s0_0 s0_1)))) 255, wrap64 (s0_1 + 1), wrap64 ((wrap64 (s0_2 * 6364136223846793005)) + 1442695040888963407))) else (none)) else (some (Go.bits .and .i64 (Go.bits .xor .i64 ((wrap64 ((wrap64 (s0_2 * 6364136223846793005)) + 1442695040888963407)) / 8589934592) ((wrap64 ((wrap64 (s0_2 * 6364136223846793005)) + 1442695040888963407)) / 35184372088832)) 255, s0_1, wrap64 ((wrap64 (s0_2 * 6364136223846793005)) + 1442695040888963407)))) = some (r1, r2, r3) := h; clear h; by_cases c2 : s0_1 < (s0_0.length : Int)
 ·rw [if_pos c2] at H; have c2b0 : decide (s0_1 < (s0_0.length : Int)) = true := decide_eq_true c2; clear c2; by_cases c3 : 0 ≤ s0_1
  ·rw [if_pos c3] at H; have c3b0 : decide (0 ≤ s0_1) = true := decide_eq_true c3; clear c3; simp only [Option.some.injEq, Prod.mk.injEq] at H; obtain ⟨rfl, rfl, rfl⟩ := H; obtain ⟨ASz4_0, cSz4_0, HGz4, hgz4, HSz4_0⟩ := HI0.out; have hcz4_0 := cellS125_0 HGz4; have hcz4_1 := cellS125_1 HGz4; have hcz4_2 := cellS125_2 HGz4; have hfz4_1 := blk_frozen HGz4 1; have hfz4_2 := blk_frozen HGz4 2; clear HGz4 hgz4; have p185 : 0 ≤ (s0_1 : Int) := oD; have q185 : s0_1 < (s0_0.length : Int) := oD; obtain ⟨ad185, e185, hx185_0⟩ := Kd.at_int HSz4_0 s0_1 p185 q185; cases e185; have hn185_0 : ad185.block ≠ g := Nat.ne_of_lt (Nat.lt_of_lt_of_le (by have := World.block_lt_of_cell? _ _ hx185_0; first | rwa [add_block] at this | exact this) (IsS125.ge HI0.out)); replace hx185_0 := pw_cell_below HB.out hx185_0; replace hx185_0 := (cell_far (p := ⟨g, 2, none⟩) (by first | (rw [add_block]; exact hn185_0) | (show (Addr.add _ _).block ≠ _; rw [add_block]; exact hn185_0) | exact hn185_0) (.int .i64 (wrap64 ((wrap64 (s0_2 * 6364136223846793005)) + 1442695040888963407)))).trans hx185_0; (try have hy185_0 := fun (n_ : Nat) => (show (((w.drewN n_).setCell ⟨g, 2, none⟩ (.int .i64 (wrap64 ((wrap64 (s0_2 * 6364136223846793005)) + 1442695040888963407))))).cell? _ = some _ from hx185_0)); clear hn185_0; replace p185 := eq_true p185; replace q185 := eq_true q185; go_enter Try.func145, Try.ntmps145; go_wp2
   repeat (go_quiet (fail); try go_wp2)
   go_ret; exact ⟨by first | rfl | (simp [errW_none, errW_some] <;> rfl) | (simp [*, errW_none, errW_some] <;> rfl), by repeat (first | (with_reducible first | exact HI0.out | apply IsS125.alloc | apply IsS125.drewN | apply IsS125.drew | apply IsS125.set_1 | apply IsS125.set_2) | exact HI0.out), by repeat (first | (with_reducible first | exact HB.out | apply below_alloc | apply pw_below_drewN | apply below_drew1 | refine below_set ?_ (IsS125.ge HI0.out)) | exact HB.out), by repeat (first | (with_reducible first | exact HK.out | apply KeepBut.set_ | apply keep_drewN | apply keep_drew | apply keep_alloc) | exact HK.out)⟩
  ·rw [if_neg c3] at H; exact absurd H (by simp)
 ·rw [if_neg c2] at H; have c2b0 : decide (s0_1 < (s0_0.length : Int)) = false := decide_eq_false c2; clear c2; simp only [Option.some.injEq, Prod.mk.injEq] at H; obtain ⟨rfl, rfl, rfl⟩ := H; obtain ⟨ASz5_0, cSz5_0, HGz5, hgz5, HSz5_0⟩ := HI0.out; have hcz5_0 := cellS125_0 HGz5; have hcz5_1 := cellS125_1 HGz5; have hcz5_2 := cellS125_2 HGz5; have hfz5_1 := blk_frozen HGz5 1; have hfz5_2 := blk_frozen HGz5 2; clear HGz5 hgz5; go_enter Try.func145, Try.ntmps145; go_wp2
  repeat (go_quiet (fail); try go_wp2)
  go_ret; exact ⟨by first | rfl | (simp [errW_none, errW_some] <;> rfl) | (simp [*, errW_none, errW_some] <;> rfl), by repeat (first | (with_reducible first | exact HI0.out | apply IsS125.alloc | apply IsS125.drewN | apply IsS125.drew | apply IsS125.set_1 | apply IsS125.set_2) | exact HI0.out), by repeat (first | (with_reducible first | exact HB.out | apply below_alloc | apply pw_below_drewN | apply below_drew1 | refine below_set ?_ (IsS125.ge HI0.out)) | exact HB.out), by repeat (first | (with_reducible first | exact HK.out | apply KeepBut.set_ | apply keep_drewN | apply keep_drew | apply keep_alloc) | exact HK.out)⟩
end Go.Proofs.Ythkkpdgadfhijaa.M
