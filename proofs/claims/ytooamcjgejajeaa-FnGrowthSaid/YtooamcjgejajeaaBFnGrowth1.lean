/- Texts of the claim on FnGrowth, joined (part 1 of 5): walks of the functions, what they come to, and in the last part the row. No condition of mine. -/
import Derived.Test.YtooamcjgejajeaaBFnGrowth0
import Derived.Test.YtooamcjgejajeaaProg
import Derived.Below
import Derived.Deep.Draws
import Derived.Deep.AppendLies
import Derived.Maps.AppendAt
import Derived.OwnWalk
import Derived.Laws.BytesArg
import Derived.Laws.MakeOwn
import Derived.Laws.OwnMore
import Derived.Deep.OwnRows
import Derived.Tactics
import Derived.Lib.ConvBytes
import Derived.Laws.Slices
import Derived.WalkKit
import Derived.KernelRfl
import Derived.RowKit3
import Derived.Deep.LoopGhost
import Derived.Deep.QuietTactic
import Derived.BigQuiet
import Derived.WideLaws
import Derived.Deep.DeepCutAuto
import Derived.Deep.CutBlock
import Derived.Deep.RegionHeld3
import Derived.Laws.Rows
import Derived.Lib.AppendStr
import Derived.ArgAppend
import Derived.Laws.IdiomCopy
import Derived.OrdersHeld
import Derived.Laws.BitsLemmas
import Derived.RowKit
/- Two words for the walks of this claim: a call of a function value that a slot holds. No condition. -/
namespace Go.Proofs.Ytooamcjgejajeaa.KW
open Go.Proofs.YtooamcjgejajeaaW.PrintWords Go.Proofs.YtooamcjgejajeaaW.PrintLast
variable {P : Program} {ops : Array Oper} {Q : Exit → Act → World → Prop}
theorem gate_calleeV {rest : List Oper} {o : Oper} {a : Act} {W : World} {t : Tmp} {as0 : Array Operand} {ts : Array TypeId} (_ho : o.op = .call { callee := .value (.tmp t), args := as0, argTypes := ts }) (h : wpList P ops Q (o :: rest) a W) : wpList P ops Q (o :: rest) a W := h
theorem goesV_ {rest : List Oper} {oi : Oper} {a : Act} {w : World} (N : Option Tmp) (hd : oi.dst = N) (hg : oi.guard = none) {t : Tmp} {f : FuncId} {cap : Array Value} {fn : Func} {as0 : Array Operand} {ts : Array TypeId}
  (hf : P.funcs[f]? = some fn) (hname : (fn.name == "runtime.NumGoroutine") = false) (hb : fn.body.isSome = true) (args : Array Value)
  (hop : oi.op = .call { callee := .value (.tmp t), args := as0, argTypes := ts }) (hv : a.eval (.tmp t) = .func (.func f) #[] cap) (hargs : as0.map a.eval ++ cap = args)
  (h : Calls P f args w fun e w' => ∃ v, e = .returned v ∧ wpList P ops Q rest (a.put N v) w') : wpList P ops Q (oi :: rest) a w := by
 refine wpList_plain hg fun K hK => ?_
 have he := enters_ hf hname hb args w; have hrun : (execOp a.eval oi).run P w = .ok (.enter f args) w := by
  unfold execOp; simp only [hop, resolve, hv]; simp [Deferred.ofValue, invoke, hargs, he]
 unfold Oper.wp; rw [hrun, Oper.upon_enter]; refine h.mono fun e w'' hh => ?_
 obtain ⟨v, rfl, hk⟩ := hh; subst hd; exact hK _ _ hk
end Go.Proofs.Ytooamcjgejajeaa.KW
/- Plain lemmas on rounds, lists and whole numbers, with no program in sight. No condition. -/
namespace Go.Proofs.Ytooamcjgejajeaa.K
open Go.RowKit Go.Proofs.YtooamcjgejajeaaW.PrintWords
/-- Induction downwards from n. -/
theorem down {P : Nat → Prop} (n : Nat) (h0 : P n) (hs : ∀ i, i < n → P (i + 1) → P i) : ∀ i, i ≤ n → P i := by
 intro i hi; obtain ⟨d, rfl⟩ : ∃ d, n = i + d := ⟨n - i, by omega⟩; clear hi
 induction d generalizing i with
 | zero => exact h0
 | succ d ih =>
  refine hs i (by omega) ?_; refine ih (i + 1) ?_ ?_
  ·rw [show i + 1 + d = i + (d + 1) from by omega]; exact h0
  ·intro j hj; exact hs j (by omega)
theorem wsucc {i : Nat} (h : i < 9223372036854775807) : wrap64 ((i : Int) + 1) = ((i + 1 : Nat) : Int) := by
 unfold wrap64; omega
theorem w_id {a : Int} (h1 : -9223372036854775808 ≤ a) (h2 : a ≤ 9223372036854775807) : wrap64 a = a := by
 unfold wrap64; omega
theorem rd_at (xs : List Int) (i : Nat) : rd xs (i : Int) = xs.getD i 0 := by simp [rd]
theorem rd_get (xs : List Int) (i : Nat) (h : i < xs.length) : rd xs (i : Int) = xs[i] := by
 rw [rd_at, List.getD_eq_getElem?_getD, List.getElem?_eq_getElem h]; rfl
theorem Ev.some {α : Type} (r : α) : Ev (fun _ => Option.some r) r := Ev.now r
theorem Ev.val {α : Type} {x : Option α} {r : α} (h : x = Option.some r) : Ev (fun _ => x) r := ⟨0, fun _ _ => h⟩
theorem Ev.if_pos {α : Type} {c : Prop} [Decidable c] {f g : Nat → Option α} {r : α} (h : c) (k : Ev f r) : Ev (fun n => if c then f n else g n) r :=
 Ev.congr (fun _ => _root_.if_pos h) k
theorem Ev.if_neg {α : Type} {c : Prop} [Decidable c] {f g : Nat → Option α} {r : α} (h : ¬ c) (k : Ev g r) : Ev (fun n => if c then f n else g n) r :=
 Ev.congr (fun _ => _root_.if_neg h) k
theorem Ev.ite {α : Type} {c : Prop} [Decidable c] {f g : Nat → Option α} {r : α} (h1 : c → Ev f r) (h2 : ¬ c → Ev g r) : Ev (fun n => if c then f n else g n) r := by
 by_cases h : c
 ·exact Ev.if_pos h (h1 h)
 ·exact Ev.if_neg h (h2 h)
theorem Ev.same {α : Type} {g : Nat → Option α} {r q : α} (h : Ev g r) (e : r = q) : Ev g q := e ▸ h
/-- A row told by its places. -/
def row (n : Nat) (f : Nat → Int) : List Int := (List.range n).map f
theorem row_length (n : Nat) (f : Nat → Int) : (row n f).length = n := by simp [row]
theorem row_getD (n : Nat) (f : Nat → Int) (i : Nat) (h : i < n) : (row n f).getD i 0 = f i := by
 simp [row, List.getD_eq_getElem?_getD, List.getElem?_map, List.getElem?_range h]
theorem rd_row (n : Nat) (f : Nat → Int) (i : Nat) (h : i < n) : rd (row n f) (i : Int) = f i := by rw [rd_at, row_getD n f i h]
theorem row_set (n : Nat) (f : Nat → Int) (i : Nat) (v : Int) : (row n f).set i v = row n (fun m => if m = i then v else f m) := by
 apply List.ext_getElem?; intro j; by_cases hj : j < n
 ·rw [List.getElem?_set]; by_cases e : i = j
  ·subst e; simp [row, hj]
  ·rw [_root_.if_neg e]; simp [row, List.getElem?_map, List.getElem?_range hj, Ne.symm e]
 ·rw [List.getElem?_eq_none (by rw [List.length_set, row_length]; omega), List.getElem?_eq_none (by rw [row_length]; omega)]
theorem row_congr (n : Nat) (f g : Nat → Int) (h : ∀ i, i < n → f i = g i) : row n f = row n g := by
 unfold row; exact List.map_congr_left (fun i hi => h i (List.mem_range.1 hi))
theorem row_of (xs : List Int) : row xs.length (fun i => xs.getD i 0) = xs := by
 apply List.ext_getElem?; intro j; by_cases hj : j < xs.length
 ·simp [row, hj]
 ·rw [List.getElem?_eq_none (by rw [row_length]; omega), List.getElem?_eq_none (by omega)]
theorem row_succ (n : Nat) (f : Nat → Int) : row (n + 1) f = row n f ++ [f n] := by simp [row, List.range_succ]
theorem row_replicate (n : Nat) (v : Int) : List.replicate n v = row n (fun _ => v) := by
 apply List.ext_getElem?; intro j; by_cases hj : j < n
 ·simp [row, hj]
 ·rw [List.getElem?_eq_none (by simp; omega), List.getElem?_eq_none (by rw [row_length]; omega)]
theorem drop_eq {α : Type} (xs : List α) (i : Nat) (h : i < xs.length) : xs.drop i = xs[i] :: xs.drop (i + 1) := List.drop_eq_getElem_cons h
theorem take_succ {α : Type} (xs : List α) (i : Nat) (h : i < xs.length) : xs.take (i + 1) = xs.take i ++ [xs[i]] := by
 rw [List.take_add_one, List.getElem?_eq_getElem h]; rfl
def total : List (List Int) → Nat
 | [] => 0
 | x :: xs => x.length + total xs
theorem total_mem (xs : List (List Int)) (x : List Int) (h : x ∈ xs) : x.length ≤ total xs := by
 induction xs with
 | nil => cases h
 | cons y ys ih => 
  rcases List.mem_cons.1 h with rfl | h
  ·simp only [total]; omega
  ·have := ih h; simp only [total]; omega
theorem total_at (xs : List (List Int)) (i : Nat) (h : i < xs.length) : xs[i].length ≤ total xs := total_mem xs _ (List.getElem_mem h)
end Go.Proofs.Ytooamcjgejajeaa.K
namespace Go.Proofs.Ytooamcjgejajeaa.M
open Go.RowKit Go.Proofs.Ytooamcjgejajeaa.KW Go.Proofs.YtooamcjgejajeaaW.PrintWords Go.Proofs.YtooamcjgejajeaaW.PrintLast Go.Proofs.YtooamcjgejajeaaW.PrintMore
attribute [local go_sem] max2_int min2_int max_two min_two max_three min_three max_four min_four
set_option linter.unusedVariables false
set_option linter.unusedSimpArgs false
def errW : Option Int → Value
 | none => .nilIface
 | some c => .iface 0 (.int .i64 c)
theorem errW_none : errW none = .nilIface := rfl
theorem errW_some (c : Int) : errW (some c) = .iface 0 (.int .i64 c) := rfl
theorem info3 : (Try.prog.info? 3).map (fun i => (i.zero, i.size, i.bytes)) = some (some (.int .i64 0), 1, 8) := by kernel_rfl
theorem info9 : (Try.prog.info? 9).map (fun i => (i.zero, i.size, i.bytes)) = some (some (.string ⟨#[]⟩), 1, 16) := by kernel_rfl
theorem info36 : (Try.prog.info? 36).map (fun i => (i.zero, i.size, i.bytes)) = some (some (.slice none 0 0), 1, 24) := by kernel_rfl
-- the values' own types
def rd_L1 (xs : List (List Int)) (i : Int) : (List Int) := xs.getD i.toNat ([] : List Int)
theorem at_L1 {w : World} {A : Option Addr} {n : Nat} {xs : List (List Int)} (h : Kd.C (Kd.slice 3 (Kd.int .i64)) w A n xs) (i : Int) (h0 : 0 ≤ i) (h1 : i < n) : ∃ ad A0 c0, A = some ad ∧ w.cell? (ad.add i.toNat) = some (.slice A0 (rd_L1 xs i).length c0) ∧ (rd_L1 xs i).length ≤ c0 ∧ (Kd.int .i64).C w A0 (rd_L1 xs i).length (rd_L1 xs i) := by
 obtain ⟨ad, c, e, _, hK, hc0⟩ := Kd.C_get h ([] : List Int) i h0 h1; have hc : ∀ j u, c[j]? = some u → w.cell? (ad.add (i.toNat * 1 + j)) = some u := hc0; obtain ⟨A0, c0, rfl, l0, g0⟩ := hK; exact ⟨ad, A0, c0, e, by have hq := hc 0 _ rfl; rwa [Nat.mul_one, Nat.add_zero] at hq, l0, g0⟩
end Go.Proofs.Ytooamcjgejajeaa.M
/- Short words for facts that events leave alone. No condition. -/
namespace Go.Proofs.Ytooamcjgejajeaa.KW
open Go.RowKit Go.Proofs.YtooamcjgejajeaaW.PrintWords Go.Proofs.YtooamcjgejajeaaW.PrintLast
class Ge (b g : Nat) : Prop where
 le : b ≤ g
class Nq (a b : Nat) : Prop where
 ne : a ≠ b
class Re (w w' : World) : Prop where
 r : Below w.heap.size w w'
class Rw (b : Nat) (w w' : World) : Prop where
 r : b ≤ w.heap.size → Below b w w'
class Rk (b g : Nat) (w w' : World) : Prop where
 r : w.heap.size ≤ w'.heap.size ∧ ∀ i, i < b → i < w.heap.size → i ≠ g → w'.heap[i]? = w.heap[i]?
class Rq (g : Nat) (w w' : World) : Prop where
 r : w.heap.size ≤ w'.heap.size ∧ (g < w.heap.size → w'.heap[g]? = w.heap[g]?)
variable {w w' w0 : World} {b g h j n : Nat} {o : Obj} {v : Value}
instance : Re w w := ⟨Below.refl _ _⟩
instance [q : Re w w'] : Re w (w'.alloc o) := ⟨below_alloc q.r o⟩
instance [q : Re w w'] : Re w (w'.drewN n) := ⟨pw_below_drewN q.r n⟩
instance [q : Re w w'] : Re w w'.drew := ⟨below_drew1 q.r⟩
instance : Rw b w w := ⟨fun _ => Below.refl _ _⟩
instance [q : Rw b w w'] : Rw b w (w'.alloc o) := ⟨fun hb => (q.r hb).alloc (Nat.le_trans hb (q.r hb).size) o⟩
instance [q : Rw b w w'] : Rw b w (w'.drewN n) := ⟨fun hb => pw_below_drewN (q.r hb) n⟩
instance [q : Rw b w w'] : Rw b w w'.drew := ⟨fun hb => (q.r hb).drew⟩
instance [q : Rw b w w'] [k : Ge b h] : Rw b w (w'.setCell ⟨h, j, none⟩ v) := ⟨fun hb => (q.r hb).setCell k.le _⟩
theorem heap_alloc_lt (w : World) (o : Obj) (i : Nat) (h : i < w.heap.size) : (w.alloc o).heap[i]? = w.heap[i]? := (below_alloc (Below.refl w.heap.size w) o).block i h
theorem size_alloc (w : World) (o : Obj) : w.heap.size ≤ (w.alloc o).heap.size := (below_alloc (Below.refl w.heap.size w) o).size
theorem size_set (w : World) (p : Addr) (v : Value) : w.heap.size ≤ (w.setCell p v).heap.size := by simp [World.setCell]
instance : Rk b g w w := ⟨Nat.le_refl _, fun _ _ _ _ => rfl⟩
instance [q : Rk b g w w'] : Rk b g w (w'.alloc o) := ⟨Nat.le_trans q.r.1 (size_alloc _ _), fun i h1 h2 h3 => (heap_alloc_lt _ _ _ (Nat.lt_of_lt_of_le h2 q.r.1)).trans (q.r.2 i h1 h2 h3)⟩
instance [q : Rk b g w w'] : Rk b g w (w'.drewN n) := ⟨q.r.1, fun i h1 h2 h3 => q.r.2 i h1 h2 h3⟩
instance [q : Rk b g w w'] : Rk b g w w'.drew := ⟨q.r.1, fun i h1 h2 h3 => q.r.2 i h1 h2 h3⟩
instance rkFar [q : Rk b g w w'] [k : Ge b h] : Rk b g w (w'.setCell ⟨h, j, none⟩ v) := ⟨Nat.le_trans q.r.1 (size_set _ _ _), fun i h1 h2 h3 => (Below.heap_setCell w' ⟨h, j, none⟩ v i (fun e => Nat.lt_irrefl _ (Nat.lt_of_lt_of_le h1 (e ▸ k.le)))).trans (q.r.2 i h1 h2 h3)⟩
instance rkOwn [q : Rk b g w w'] : Rk b g w (w'.setCell ⟨g, j, none⟩ v) := ⟨Nat.le_trans q.r.1 (size_set _ _ _), fun i h1 h2 h3 => (Below.heap_setCell w' ⟨g, j, none⟩ v i h3).trans (q.r.2 i h1 h2 h3)⟩
instance : Rq g w w := ⟨Nat.le_refl _, fun _ => rfl⟩
instance [q : Rq g w w'] : Rq g w (w'.alloc o) := ⟨Nat.le_trans q.r.1 (size_alloc _ _), fun h1 => (heap_alloc_lt _ _ _ (Nat.lt_of_lt_of_le h1 q.r.1)).trans (q.r.2 h1)⟩
instance [q : Rq g w w'] : Rq g w (w'.drewN n) := ⟨q.r.1, q.r.2⟩
instance [q : Rq g w w'] : Rq g w w'.drew := ⟨q.r.1, q.r.2⟩
instance [q : Rq g w w'] [k : Nq g h] : Rq g w (w'.setCell ⟨h, j, none⟩ v) := ⟨Nat.le_trans q.r.1 (size_set _ _ _), fun h1 => (Below.heap_setCell w' ⟨h, j, none⟩ v g k.ne).trans (q.r.2 h1)⟩
theorem mT {α β : Type} (f : α → β) (l : List α) : l.toArray.map f = (l.map f).toArray := by simp
theorem mC {α β : Type} (f : α → β) (x : α) (l : List α) : (x :: l).map f = f x :: l.map f := rfl
theorem mN {α β : Type} (f : α → β) : ([] : List α).map f = [] := rfl
def bL : Nat → Nat → List Bool
 | 0, _ => []
 | n + 1, k => (k % 2 == 1) :: bL n (k / 2)
def bA (n k : Nat) : Array Bool := (bL n k).toArray
theorem qa {α : Type} (l : List α) (i : Nat) (a : α) : l.toArray.setIfInBounds i a = (l.set i a).toArray := List.setIfInBounds_toArray ..
theorem qz {α : Type} {x a : α} {l : List α} : (x :: l).set 0 a = a :: l := rfl
theorem qs {α : Type} {x a : α} {l : List α} {n : Nat} : (x :: l).set (n + 1) a = x :: l.set n a := rfl
theorem am {p : Prop} (h : p) : Aside0 p := ⟨h⟩
theorem rB (h : Aside0 (Below w0.heap.size w0 w)) [q : Rw w0.heap.size w w'] : Below w0.heap.size w0 w' := h.out.trans (q.r h.out.size)
theorem rK (h : Aside0 (KeepBut w0 w g none)) [q : Rk w0.heap.size g w w'] : KeepBut w0 w' g none := ⟨Nat.le_trans h.out.1 q.r.1, fun i h1 h2 h3 => (q.r.2 i h1 (Nat.lt_of_lt_of_le h1 h.out.1) h2).trans (h.out.2 i h1 h2 h3)⟩
theorem xX (h : w.heap[g]? = some o) [q : Rq g w w'] : w'.heap[g]? = some o := (q.r.2 (blk_lt h)).trans h
theorem rX (h : Aside0 (w.heap[g]? = some o)) [q : Rq g w w'] : w'.heap[g]? = some o := xX h.out
theorem oD {p : Prop} [Decidable p] (h : decide p = true := by first | (with_reducible assumption) | assumption) : p := of_decide_eq_true h
theorem bE {α β : Type} {x : Option α} {f : α → Option β} {b : β} (h : x.bind f = some b) : ∃ a, x = some a ∧ f a = some b := Option.bind_eq_some_iff.mp h
theorem bK (h : Aside0 (w.heap[g]? = some o)) {w2 : World} (hb : Below w'.heap.size w' w2) [q : Rq g w w'] : Aside0 (w2.heap[g]? = some o) := ⟨blk_below (rX h) hb⟩
theorem bS (h : Aside0 (Below w0.heap.size w0 w)) {w2 : World} (hb : Below w'.heap.size w' w2) [q : Rw w0.heap.size w w'] : Aside0 (Below w0.heap.size w0 w2) := ⟨below_step (rB h) hb⟩
theorem bZ (h : Aside0 (Below w0.heap.size w0 w)) [q : Rw w0.heap.size w w'] : w0.heap.size ≤ w'.heap.size := below_size (rB h)
theorem kU (h : Aside0 (KeepBut w0 w g none)) {w2 : World} (hb : Below w'.heap.size w' w2) [q : Rk w0.heap.size g w w'] : Aside0 (KeepBut w0 w2 g none) := ⟨KeepBut.trans (rK h) (KeepBut.of_below hb g none) (.inl rfl)⟩
theorem kV (h : Aside0 (KeepBut w0 w g none)) {w2 : World} (hk : KeepBut w' w2 g none) [q : Rk w0.heap.size g w w'] : Aside0 (KeepBut w0 w2 g none) := ⟨KeepBut.trans (rK h) hk (.inl rfl)⟩
variable {a1 a2 a3 : Value} {t : TypeId}
theorem z10 (h : Aside0 (w.heap[g]? = some (.cells #[a1] t (0, 0)))) : w.cell? ⟨g, 0, none⟩ = some a1 := (blk_cell h.out 0).trans rfl
variable {α : Type} {d : Kd α} {e base : Nat} {ok : Nat → Prop} {u : Value} {xs : List α} {A : Option Addr}
theorem xR (h : d.R e w base ok u xs) [q : Re w w'] : d.R e w' base ok u xs := Kd.R_below h q.r
theorem rR (h : Aside0 (d.R e w base ok u xs)) [q : Re w w'] : d.R e w' base ok u xs := xR h.out
theorem xS (h : Kd.S d e w base ok u xs) [q : Re w w'] : Kd.S d e w' base ok u xs := Kd.S_below h q.r
theorem rS (h : Aside0 (Kd.S d e w base ok u xs)) [q : Re w w'] : Kd.S d e w' base ok u xs := xS h.out
theorem xN (h : Kd.N d e w base ok u xs) [q : Re w w'] : Kd.N d e w' base ok u xs := Kd.N_below h q.r
theorem rN (h : Aside0 (Kd.N d e w base ok u xs)) [q : Re w w'] : Kd.N d e w' base ok u xs := xN h.out
theorem xV (h : Kd.V d e w base ok u xs) [q : Re w w'] : Kd.V d e w' base ok u xs := Kd.V_below h q.r
theorem rV (h : Aside0 (Kd.V d e w base ok u xs)) [q : Re w w'] : Kd.V d e w' base ok u xs := xV h.out
theorem xC (h : d.C w A n xs) [q : Re w w'] : d.C w' A n xs := Kd.C_below h q.r
end Go.Proofs.Ytooamcjgejajeaa.KW
namespace Go.Proofs.Ytooamcjgejajeaa.M
open Go.RowKit Go.Proofs.Ytooamcjgejajeaa.KW Go.Proofs.YtooamcjgejajeaaW.PrintWords Go.Proofs.YtooamcjgejajeaaW.PrintLast Go.Proofs.YtooamcjgejajeaaW.PrintMore
attribute [local go_sem] max2_int min2_int max_two min_two max_three min_three max_four min_four
set_option linter.unusedVariables false
set_option linter.unusedSimpArgs false
/-- A state of type 114 at block g of W; what its slices lead to came in by w0. -/
def IsS114 (w0 W : World) (g : Nat) (f0 : List Int) (f1 : Int) (f2 : Int) : Prop := ∃ A0 c0, W.heap[g]? = some (.cells #[.slice A0 f0.length c0, .int .i64 f1, .int .i64 f2] 114 (0, 0)) ∧ w0.heap.size ≤ g ∧ Kd.C (Kd.int .u8) w0 A0 f0.length f0
theorem IsS114.grown {w0 W : World} {g : Nat} {f0 : List Int} {f1 : Int} {f2 : Int} {W1 : World} {row : Option Nat} (h : IsS114 w0 W g f0 f1 f2) (hw : W.grownBy W1 row) (hne : some g ≠ row) : IsS114 w0 W1 g f0 f1 f2 := by
 obtain ⟨A0, c0, hb, hg, hr0⟩ := h; exact ⟨A0, c0, blk_grown hb hw hne, hg, hr0⟩
theorem IsS114.own_neN {w0 W : World} {g : Nat} {f0 : List Int} {f1 : Int} {f2 : Int} {α : Type} {d : Kd α} {e : Nat} {base : Nat} {ok : Nat → Prop} {v : Value} {xs : List α} (h : IsS114 w0 W g f0 f1 f2) (ho : Kd.N d e W base ok v xs) (ht : e ≠ 114) : some g ≠ v.ownBlock := by
 obtain ⟨A0, c0, hb, hg, hr0⟩ := h; exact Kd.N_ne ho hb ht
theorem IsS114.fresh {w0 W : World} {g : Nat} {f0 : List Int} {f1 : Int} {f2 : Int} (h : IsS114 w0 W g f0 f1 f2) : ∀ k, W.heap.size ≤ k → k ≠ g := by
 obtain ⟨A0, c0, hb, hg, hr0⟩ := h; exact Kd.freshB hb
theorem IsS114.kept {w0 W : World} {g : Nat} {f0 : List Int} {f1 : Int} {f2 : Int} {W1 : World} {S : Nat → Prop} (h : IsS114 w0 W g f0 f1 f2) (hk : Kept W W1 S) (hne : ¬ S g) : IsS114 w0 W1 g f0 f1 f2 := by
 obtain ⟨A0, c0, hb, hg, hr0⟩ := h; exact ⟨A0, c0, blk_kept hb hk hne, hg, hr0⟩
theorem IsS114.below {w0 W : World} {g : Nat} {f0 : List Int} {f1 : Int} {f2 : Int} {W1 : World} (h : IsS114 w0 W g f0 f1 f2) (hw : Below W.heap.size W W1) : IsS114 w0 W1 g f0 f1 f2 := h.grown (grown_of_below hw none) (by simp)
theorem IsS114.alloc {w0 W : World} {g : Nat} {f0 : List Int} {f1 : Int} {f2 : Int} (h : IsS114 w0 W g f0 f1 f2) (o : Obj) : IsS114 w0 (W.alloc o) g f0 f1 f2 := h.below (below_alloc (Below.refl _ _) o)
theorem IsS114.drewN {w0 W : World} {g : Nat} {f0 : List Int} {f1 : Int} {f2 : Int} (h : IsS114 w0 W g f0 f1 f2) (m : Nat) : IsS114 w0 (W.drewN m) g f0 f1 f2 := h
theorem IsS114.drew {w0 W : World} {g : Nat} {f0 : List Int} {f1 : Int} {f2 : Int} (h : IsS114 w0 W g f0 f1 f2) : IsS114 w0 W.drew g f0 f1 f2 := h
theorem IsS114.at_ {w0 W : World} {g : Nat} {f0 : List Int} {f1 : Int} {f2 : Int} {w' : World} {m : Nat} (hq : W.drewN m = w') (h : IsS114 w0 W g f0 f1 f2) : IsS114 w0 w' g f0 f1 f2 := by subst hq; exact IsS114.drewN h m
theorem IsS114.apart {w0 W : World} {g : Nat} {f0 : List Int} {f1 : Int} {f2 : Int} {α : Type} {d : Kd α} {e : Nat} {base : Nat} {ok : Nat → Prop} {v : Value} {xs : List α} (h : IsS114 w0 W g f0 f1 f2) (ho : d.R e W base ok v xs) (ht : ∀ q, q ∈ e :: d.E → q ≠ 114) : d.R e W base (fun k => ok k ∧ k ≠ g) v xs := by
 obtain ⟨A0, c0, hb, hg, hr0⟩ := h; exact Kd.R_types ho hb ht
theorem IsS114.own_ne {w0 W : World} {g : Nat} {f0 : List Int} {f1 : Int} {f2 : Int} {α : Type} {d : Kd α} {e : Nat} {base : Nat} {ok : Nat → Prop} {v : Value} {xs : List α} (h : IsS114 w0 W g f0 f1 f2) (ho : d.R e W base ok v xs) (ht : e ≠ 114) : some g ≠ v.ownBlock := by
 obtain ⟨A0, c0, hb, hg, hr0⟩ := h; exact Kd.R_ne ho hb ht
theorem IsS114.apartQ {w0 W : World} {g : Nat} {f0 : List Int} {f1 : Int} {f2 : Int} {α : Type} {d : Kd α} {e : Nat} {base : Nat} {ok : Nat → Prop} {v : Value} {xs : List α} (h : IsS114 w0 W g f0 f1 f2) (ho : d.Q e W base ok v xs) (ht : ∀ q, q ∈ e :: d.E → q ≠ 114) : d.Q e W base (fun k => ok k ∧ k ≠ g) v xs := by
 obtain ⟨A0, c0, hb, hg, hr0⟩ := h; exact Kd.Q_types ho hb ht
theorem IsS114.own_neQ {w0 W : World} {g : Nat} {f0 : List Int} {f1 : Int} {f2 : Int} {α : Type} {d : Kd α} {e : Nat} {base : Nat} {ok : Nat → Prop} {v : Value} {xs : List α} (h : IsS114 w0 W g f0 f1 f2) (ho : d.Q e W base ok v xs) (ht : e ≠ 114) : some g ≠ v.ownBlock := by
 obtain ⟨A0, c0, hb, hg, hr0⟩ := h; exact Kd.Q_ne ho hb ht
theorem IsS114.apartS {w0 W : World} {g : Nat} {f0 : List Int} {f1 : Int} {f2 : Int} {α : Type} {d : Kd α} {e : Nat} {base : Nat} {ok : Nat → Prop} {v : Value} {xs : List α} (h : IsS114 w0 W g f0 f1 f2) (ho : d.S e W base ok v xs) (ht : ∀ q, q ∈ e :: d.E → q ≠ 114) : d.S e W base (fun k => ok k ∧ k ≠ g) v xs := by
 obtain ⟨A0, c0, hb, hg, hr0⟩ := h; exact Kd.S_types ho hb ht
theorem IsS114.own_neS {w0 W : World} {g : Nat} {f0 : List Int} {f1 : Int} {f2 : Int} {α : Type} {d : Kd α} {e : Nat} {base : Nat} {ok : Nat → Prop} {v : Value} {xs : List α} (h : IsS114 w0 W g f0 f1 f2) (ho : d.S e W base ok v xs) (ht : e ≠ 114) : some g ≠ v.ownBlock := by
 obtain ⟨A0, c0, hb, hg, hr0⟩ := h; exact Kd.S_ne ho hb ht
theorem IsS114.lt {w0 W : World} {g : Nat} {f0 : List Int} {f1 : Int} {f2 : Int} (h : IsS114 w0 W g f0 f1 f2) : g < W.heap.size := by
 obtain ⟨A0, c0, hb, hg, hr0⟩ := h; exact blk_lt hb
theorem IsS114.ge {w0 W : World} {g : Nat} {f0 : List Int} {f1 : Int} {f2 : Int} (h : IsS114 w0 W g f0 f1 f2) : w0.heap.size ≤ g := by
 obtain ⟨A0, c0, hb, hg, hr0⟩ := h; exact hg
theorem IsS114.ne_blk {w0 W : World} {g : Nat} {f0 : List Int} {f1 : Int} {f2 : Int} {a : Nat} {cs : Array Value} {t : TypeId} {fr : Nat × Nat} (h : IsS114 w0 W g f0 f1 f2) (hb2 : W.heap[a]? = some (.cells cs t fr)) (ht : t ≠ 114) : g ≠ a := by
 obtain ⟨A0, c0, hb, hg, hr0⟩ := h; rintro rfl; rw [hb] at hb2; injection hb2 with hb2; injection hb2 with _ ht2; exact ht ht2.symm
theorem IsS114.far {w0 W : World} {g : Nat} {f0 : List Int} {f1 : Int} {f2 : Int} {p : Addr} (h : IsS114 w0 W g f0 f1 f2) (hne : g ≠ p.block) (u : Value) : IsS114 w0 (W.setCell p u) g f0 f1 f2 := by
 obtain ⟨A0, c0, hb, hg, hr0⟩ := h; exact ⟨A0, c0, blk_far hb hne u, hg, hr0⟩
theorem cellS114_0 {W : World} {g : Nat} {A0 : Option Addr} {c0 : Nat} {f0 : List Int} {f1 : Int} {f2 : Int} (h : W.heap[g]? = some (.cells #[.slice A0 f0.length c0, .int .i64 f1, .int .i64 f2] 114 (0, 0))) : W.cell? ⟨g, 0, none⟩ = some (.slice A0 f0.length c0) := (blk_cell h 0).trans rfl
theorem cellS114_1 {W : World} {g : Nat} {A0 : Option Addr} {c0 : Nat} {f0 : List Int} {f1 : Int} {f2 : Int} (h : W.heap[g]? = some (.cells #[.slice A0 f0.length c0, .int .i64 f1, .int .i64 f2] 114 (0, 0))) : W.cell? ⟨g, 1, none⟩ = some (.int .i64 f1) := (blk_cell h 1).trans rfl
theorem IsS114.set_1 {w0 W : World} {g : Nat} {f0 : List Int} {f1 : Int} {f2 : Int} (h : IsS114 w0 W g f0 f1 f2) (x : Int) : IsS114 w0 (W.setCell ⟨g, 1, none⟩ (.int .i64 x)) g f0 x f2 := by
 obtain ⟨A0, c0, hb, hg, hr0⟩ := h; exact ⟨A0, c0, by simpa using blk_set hb 1 (.int .i64 x), hg, hr0⟩
theorem cellS114_2 {W : World} {g : Nat} {A0 : Option Addr} {c0 : Nat} {f0 : List Int} {f1 : Int} {f2 : Int} (h : W.heap[g]? = some (.cells #[.slice A0 f0.length c0, .int .i64 f1, .int .i64 f2] 114 (0, 0))) : W.cell? ⟨g, 2, none⟩ = some (.int .i64 f2) := (blk_cell h 2).trans rfl
theorem IsS114.set_2 {w0 W : World} {g : Nat} {f0 : List Int} {f1 : Int} {f2 : Int} (h : IsS114 w0 W g f0 f1 f2) (x : Int) : IsS114 w0 (W.setCell ⟨g, 2, none⟩ (.int .i64 x)) g f0 f1 x := by
 obtain ⟨A0, c0, hb, hg, hr0⟩ := h; exact ⟨A0, c0, by simpa using blk_set hb 2 (.int .i64 x), hg, hr0⟩
theorem IsS114.new (w0 W : World) (A0 : Option Addr) (c0 : Nat) (f0 : List Int) (f1 : Int) (f2 : Int) (hB : Below w0.heap.size w0 W) (hr0 : Kd.C (Kd.int .u8) w0 A0 f0.length f0) : IsS114 w0 (W.alloc (.cells #[.slice A0 f0.length c0, .int .i64 f1, .int .i64 f2] 114)) W.heap.size f0 f1 f2 := ⟨A0, c0, by simpa using heap_alloc_new W _, hB.size, hr0⟩
def spec_l1New.l0 : Nat → List Int → Int → Int → Option (List Int × Int × Int)
 | 0, _, _, _ => none
 | k + 1, x0, x3, x4 => if x4 < (x0.length : Int) then (if x4 < 4000 then (if 0 ≤ x4 then (spec_l1New.l0 k x0 (Go.bits .and .i64 (wrap64 ((wrap64 ((wrap64 (x3 * 131)) + (wrap64 (rd x0 x4)))) + 7)) 1073741823) (wrap64 (x4 + 1))) else (none)) else (some (x0, 0, x3))) else (some (x0, 0, x3))
def spec_l1New.f (k : Nat) (l0 : List Int) : Option (List Int × Int × Int) := spec_l1New.l0 k l0 (wrap64 (10101 + (l0.length : Int))) 0
set_option maxHeartbeats 8000000 in
set_option maxRecDepth 100000 in
theorem spec_l1New.calls (k : Nat) (A0 : Option Addr) (c0 : Nat) (l0 : List Int) (r1 : List Int) (r2 : Int) (r3 : Int) (w0 w : World) (hB : Below w0.heap.size w0 w) (hr0 : Kd.C (Kd.int .u8) w0 A0 l0.length l0) (hc0 : l0.length ≤ c0) (h : spec_l1New.f k l0 = some (r1, r2, r3)) :
  Calls Try.prog 126 #[.slice A0 l0.length c0] w fun e w' => ∃ g_ : Nat, e = .returned (.pointer (some ⟨g_, 0, none⟩)) ∧ IsS114 w0 w' g_ r1 r2 r3 ∧ Below w0.heap.size w0 w' ∧ Below w.heap.size w w' := by
 have hu114 := Try.underlying114; have HR0 := Aside0.mk hr0; have HC0 := Aside0.mk hc0; clear hr0 hc0; have HBW := Aside0.mk (Below.refl w.heap.size w); have HW0 := Aside0.mk hB.size; have HB := Aside0.mk hB; clear hB; have H : (spec_l1New.l0 k l0 (wrap64 (10101 + (l0.length : Int))) 0) = some (r1, r2, r3) := h; clear h; have H' := Aside0.mk H; clear H; go_enter Try.func126, Try.ntmps126; go_wp2; go_loopg [3, 4] k (fun kq v3 v4 w' => ∃ (x3_1 : Int) (x4_1 : Int), v3 = .int .i64 x3_1 ∧ v4 = .int .i64 x4_1 ∧ Aside0 (spec_l1New.l0 kq l0 x3_1 x4_1 = some (r1, r2, r3)) ∧ Aside0 (kq ≤ k) ∧ Aside0 (Below w0.heap.size w0 w') ∧ Aside0 (Below w.heap.size w w'))
 case atStart => exact ⟨(wrap64 (10101 + (l0.length : Int))), (0), (by first | rfl | (simp; done) | (simp [*]; done)), (by first | rfl | (simp; done) | (simp [*]; done)), H', ⟨Nat.le_refl _⟩, ⟨by repeat (first | (with_reducible first | exact HB.out | apply below_alloc | apply pw_below_drewN | apply below_drew1) | exact HB.out)⟩, ⟨by repeat (first | (with_reducible first | exact HBW.out | apply below_alloc | apply pw_below_drewN | apply below_drew1) | exact HBW.out)⟩⟩
 case round =>
  clear H'
  try clear c1
  obtain ⟨x3_1, x4_1, rfl, rfl, HA, HK1, HB, HBW⟩ := hrel; cases gk with
  | zero => exact absurd HA.out (by simp [spec_l1New.l0])
  | succ k1 =>
   have H := HA.out; clear HA; simp only [spec_l1New.l0] at H; by_cases c2 : x4_1 < (l0.length : Int)
   ·rw [if_pos c2] at H; have c2b0 : decide (x4_1 < (l0.length : Int)) = true := decide_eq_true c2; clear c2; by_cases c3 : x4_1 < 4000
    ·rw [if_pos c3] at H; have c3b0 : decide (x4_1 < 4000) = true := decide_eq_true c3; clear c3; by_cases c4 : 0 ≤ x4_1
     ·rw [if_pos c4] at H; have c4b0 : decide (0 ≤ x4_1) = true := decide_eq_true c4; clear c4; have H' := Aside0.mk H; clear H; have p677 : 0 ≤ (x4_1 : Int) := of_decide_eq_true (by first | (with_reducible assumption) | assumption); have q677 : x4_1 < (l0.length : Int) := of_decide_eq_true (by first | (with_reducible assumption) | assumption); obtain ⟨ad677, e677, hx677_0⟩ := Kd.at_int HR0.out x4_1 p677 q677; cases e677; replace hx677_0 := pw_cell_below HB.out hx677_0; replace p677 := eq_true p677; replace q677 := eq_true q677; go_wp2; go_roundg k1
      case measure => have := HK1.out; omega
      case rel => exact ⟨(Go.bits .and .i64 (wrap64 ((wrap64 ((wrap64 (x3_1 * 131)) + (wrap64 (rd l0 x4_1)))) + 7)) 1073741823), (wrap64 (x4_1 + 1)), (by first | rfl | (simp; done) | (simp [*]; done)), (by first | rfl | (simp; done) | (simp [*]; done)), H', ⟨by have := HK1.out; omega⟩, ⟨by repeat (first | (with_reducible first | exact HB.out | apply below_alloc | apply pw_below_drewN | apply below_drew1) | exact HB.out)⟩, ⟨by repeat (first | (with_reducible first | exact HBW.out | apply below_alloc | apply pw_below_drewN | apply below_drew1) | exact HBW.out)⟩⟩
     ·rw [if_neg c4] at H; exact absurd H (by simp)
    ·rw [if_neg c3] at H; have c3b0 : decide (x4_1 < 4000) = false := decide_eq_false c3; clear c3; simp only [Option.some.injEq, Prod.mk.injEq] at H; obtain ⟨rfl, rfl, rfl⟩ := H; go_wp2_with (first | ((with_reducible refine gate_dst (N := 31) rfl ?_); refine box_event ?hg (N := 31) ?hd (cs := #[.slice A0 l0.length c0, .int .i64 0, .int .i64 x3_1]) (t := 114) ?hr ?_; (case hd => rfl); (case hg => rfl); (case hr => first | (go_simp; done) | (go_simp; rfl)); intro gb678 hg w5 hbox hb; have n0_ := Aside0.mk (below_step HBW.out hb); have n1_ := Aside0.mk (below_step (by repeat (first | (with_reducible first | exact HB.out | apply below_alloc | apply pw_below_drewN | apply below_drew1) | exact HB.out)) hb); have n2_ := Aside0.mk (hbox); have n3_ := Aside0.mk ((by rw [hg]; exact (below_size (by repeat (first | (with_reducible first | exact HBW.out | apply below_alloc | apply pw_below_drewN | apply below_drew1) | exact HBW.out))) : w.heap.size ≤ gb678)); have n4_ := Aside0.mk ((Nat.le_trans HW0.out (by rw [hg]; exact (below_size (by repeat (first | (with_reducible first | exact HBW.out | apply below_alloc | apply pw_below_drewN | apply below_drew1) | exact HBW.out))) : w.heap.size ≤ gb678) : w0.heap.size ≤ gb678)); clear HBW; clear HB; have HBW := n0_; have HB := n1_; have BK678 := n2_; have GW678 := n3_; have GE678 := n4_; clear n0_ n1_ n2_ n3_ n4_; clear hb hbox hg)); go_ret; exact ⟨_, rfl, (show IsS114 w0 _ gb678 l0 0 x3_1 from ⟨_, _, by (with_reducible repeat (first | refine blk_drewN ?_ _ | refine blk_drew ?_ | refine blk_alloc ?_ _)); exact BK678.out, GE678.out, HR0.out⟩), by repeat (first | (with_reducible first | exact HB.out | apply below_alloc | apply pw_below_drewN | apply below_drew1 | refine below_set ?_ GE678.out) | exact HB.out), by repeat (first | (with_reducible first | exact HBW.out | apply below_alloc | apply pw_below_drewN | apply below_drew1 | refine below_set ?_ GW678.out) | exact HBW.out)⟩
   ·rw [if_neg c2] at H; have c2b0 : decide (x4_1 < (l0.length : Int)) = false := decide_eq_false c2; clear c2; simp only [Option.some.injEq, Prod.mk.injEq] at H; obtain ⟨rfl, rfl, rfl⟩ := H; go_wp2_with (first | ((with_reducible refine gate_dst (N := 31) rfl ?_); refine box_event ?hg (N := 31) ?hd (cs := #[.slice A0 l0.length c0, .int .i64 0, .int .i64 x3_1]) (t := 114) ?hr ?_; (case hd => rfl); (case hg => rfl); (case hr => first | (go_simp; done) | (go_simp; rfl)); intro gb679 hg w6 hbox hb; have n0_ := Aside0.mk (below_step HBW.out hb); have n1_ := Aside0.mk (below_step (by repeat (first | (with_reducible first | exact HB.out | apply below_alloc | apply pw_below_drewN | apply below_drew1) | exact HB.out)) hb); have n2_ := Aside0.mk (hbox); have n3_ := Aside0.mk ((by rw [hg]; exact (below_size (by repeat (first | (with_reducible first | exact HBW.out | apply below_alloc | apply pw_below_drewN | apply below_drew1) | exact HBW.out))) : w.heap.size ≤ gb679)); have n4_ := Aside0.mk ((Nat.le_trans HW0.out (by rw [hg]; exact (below_size (by repeat (first | (with_reducible first | exact HBW.out | apply below_alloc | apply pw_below_drewN | apply below_drew1) | exact HBW.out))) : w.heap.size ≤ gb679) : w0.heap.size ≤ gb679)); clear HBW; clear HB; have HBW := n0_; have HB := n1_; have BK679 := n2_; have GW679 := n3_; have GE679 := n4_; clear n0_ n1_ n2_ n3_ n4_; clear hb hbox hg)); go_ret; exact ⟨_, rfl, (show IsS114 w0 _ gb679 l0 0 x3_1 from ⟨_, _, by (with_reducible repeat (first | refine blk_drewN ?_ _ | refine blk_drew ?_ | refine blk_alloc ?_ _)); exact BK679.out, GE679.out, HR0.out⟩), by repeat (first | (with_reducible first | exact HB.out | apply below_alloc | apply pw_below_drewN | apply below_drew1 | refine below_set ?_ GE679.out) | exact HB.out), by repeat (first | (with_reducible first | exact HBW.out | apply below_alloc | apply pw_below_drewN | apply below_drew1 | refine below_set ?_ GW679.out) | exact HBW.out)⟩
end Go.Proofs.Ytooamcjgejajeaa.M
/- Short words for states that events leave alone. No condition. -/
namespace Go.Proofs.Ytooamcjgejajeaa.M
open Go.RowKit Go.Proofs.Ytooamcjgejajeaa.KW Go.Proofs.YtooamcjgejajeaaW.PrintWords Go.Proofs.YtooamcjgejajeaaW.PrintLast
theorem IsS114.m {w0 W : World} {g : Nat} {f0 : List Int} {f1 : Int} {f2 : Int} {W' : World} (h : Aside0 (IsS114 w0 W g f0 f1 f2)) [q : Rq g W W'] : IsS114 w0 W' g f0 f1 f2 := by
 obtain ⟨A0, c0, hb, hg, hr0⟩ := h.out; exact ⟨A0, c0, xX hb, hg, hr0⟩
end Go.Proofs.Ytooamcjgejajeaa.M
namespace Go.Proofs.Ytooamcjgejajeaa.M
open Go.RowKit Go.Proofs.Ytooamcjgejajeaa.KW Go.Proofs.YtooamcjgejajeaaW.PrintWords Go.Proofs.YtooamcjgejajeaaW.PrintLast Go.Proofs.YtooamcjgejajeaaW.PrintMore
attribute [local go_sem] max2_int min2_int max_two min_two max_three min_three max_four min_four
set_option linter.unusedVariables false
set_option linter.unusedSimpArgs false
def spec_l1In.f (a0 : Int) (a1 : Int) (a2 : Int) : Option (Bool) := if a0 ≥ a1 then (some (decide (a0 ≤ a2))) else (some false)
set_option maxHeartbeats 8000000 in
set_option maxRecDepth 100000 in
theorem spec_l1In.calls (a0 : Int) (a1 : Int) (a2 : Int) (r : Bool) (w : World) (h : spec_l1In.f a0 a1 a2 = some r) :
  Calls Try.prog 115 #[.int .i64 a0, .int .i64 a1, .int .i64 a2] w fun e w' => e = .returned (.bool r) ∧ Drawn0 w w' := by
 have H : (if a0 ≥ a1 then (some (decide (a0 ≤ a2))) else (some false)) = some r := h; clear h; by_cases c4 : a0 ≥ a1
 ·rw [if_pos c4] at H; have c4b0 : decide (a1 ≤ a0) = true := decide_eq_true c4; clear c4; obtain rfl := Option.some.inj H; go_enter Try.func115, Try.ntmps115; go_wp2; go_ret; exact ⟨by first | rfl | (simp; done) | (simp [*]; done), by repeat (first | exact Drawn0.refl _ | apply Drawn0.step)⟩
 ·rw [if_neg c4] at H; have c4b0 : decide (a1 ≤ a0) = false := decide_eq_false c4; clear c4; obtain rfl := Option.some.inj H; go_enter Try.func115, Try.ntmps115; go_wp2; go_ret; exact ⟨by first | rfl | (simp; done) | (simp [*]; done), by repeat (first | exact Drawn0.refl _ | apply Drawn0.step)⟩
def spec_IsWord.l0 : Nat → List Int → Int → Int → Option (Bool)
 | 0, _, _, _ => none
 | k + 1, x0, x1, x5 => if x5 < (x0.length : Int) then (if 0 ≤ x5 then (if (rd x0 x5) < 0 then (some false) else (if (rd x0 x5) ≥ x1 then (some false) else (spec_IsWord.l0 k x0 x1 (wrap64 (x5 + 1))))) else (none)) else ((spec_l1In.f x1 1 16).bind fun t107 => (if t107 = true then (some (decide ((x0.length : Int) ≤ 400))) else (some false)))
def spec_IsWord.f (k : Nat) (l0 : List Int) (a1 : Int) : Option (Bool) := spec_IsWord.l0 k l0 a1 0
set_option maxHeartbeats 8000000 in
set_option maxRecDepth 100000 in
theorem spec_IsWord.calls (k : Nat) (A0 : Option Addr) (c0 : Nat) (l0 : List Int) (a1 : Int) (r : Bool) (w : World) (hr0 : Kd.C (Kd.int .i64) w A0 l0.length l0) (hc0 : l0.length ≤ c0) (h : spec_IsWord.f k l0 a1 = some r) :
  Calls Try.prog 129 #[.slice A0 l0.length c0, .int .i64 a1] w fun e w' => e = .returned (.bool r) ∧ Drawn0 w w' := by
 have HR0 := am hr0; have HC0 := am hc0; clear hr0 hc0; have H : (spec_IsWord.l0 k l0 a1 0) = some r := h; clear h; have H' := am H; clear H; go_enter Try.func129, Try.ntmps129; go_wp2; go_loopg [5] k (fun kq v5 w' => ∃ (x5_1 : Int), v5 = .int .i64 x5_1 ∧ Aside0 (spec_IsWord.l0 kq l0 a1 x5_1 = some r) ∧ Aside0 (kq ≤ k) ∧ Drawn0 w w')
 case atStart => exact ⟨(0), (by first | rfl | (simp; done) | (simp [*]; done)), H', ⟨Nat.le_refl _⟩, by repeat (first | exact Drawn0.refl _ | apply Drawn0.step)⟩
 case round =>
  clear H'
  try clear c1
  try clear p2
  obtain ⟨x5_1, rfl, HA, HK1, ⟨m1, rfl⟩⟩ := hrel; cases gk with
  | zero => exact absurd HA.out (by simp [spec_IsWord.l0])
  | succ k1 =>
   have H := HA.out; clear HA; simp only [spec_IsWord.l0] at H; by_cases c3 : x5_1 < (l0.length : Int)
   ·rw [if_pos c3] at H; have c3b0 : decide (x5_1 < (l0.length : Int)) = true := decide_eq_true c3; clear c3; by_cases c4 : 0 ≤ x5_1
    ·rw [if_pos c4] at H; have c4b0 : decide (0 ≤ x5_1) = true := decide_eq_true c4; clear c4; by_cases c5 : (rd l0 x5_1) < 0
     ·rw [if_pos c5] at H; have c5b0 : decide ((rd l0 x5_1) < 0) = true := decide_eq_true c5; clear c5; obtain rfl := Option.some.inj H; have p105 : 0 ≤ (x5_1 : Int) := oD; have q105 : x5_1 < (l0.length : Int) := oD; obtain ⟨ad105, e105, hx105_0⟩ := Kd.at_int HR0.out x5_1 p105 q105; cases e105; replace p105 := eq_true p105; replace q105 := eq_true q105; go_wp2; go_ret; exact ⟨by first | rfl | (simp; done) | (simp [*]; done), by repeat (first | exact Drawn0.refl _ | apply Drawn0.step)⟩
     ·rw [if_neg c5] at H; have c5b0 : decide ((rd l0 x5_1) < 0) = false := decide_eq_false c5; clear c5; by_cases c6 : (rd l0 x5_1) ≥ a1
      ·rw [if_pos c6] at H; have c6b0 : decide (a1 ≤ (rd l0 x5_1)) = true := decide_eq_true c6; clear c6; obtain rfl := Option.some.inj H; have p105 : 0 ≤ (x5_1 : Int) := oD; have q105 : x5_1 < (l0.length : Int) := oD; obtain ⟨ad105, e105, hx105_0⟩ := Kd.at_int HR0.out x5_1 p105 q105; cases e105; replace p105 := eq_true p105; replace q105 := eq_true q105; have p106 : 0 ≤ (x5_1 : Int) := oD; have q106 : x5_1 < (l0.length : Int) := oD; obtain ⟨ad106, e106, hx106_0⟩ := Kd.at_int HR0.out x5_1 p106 q106; obtain rfl : ad105 = ad106 := (by injection e106); replace p106 := eq_true p106; replace q106 := eq_true q106; go_wp2; go_ret; exact ⟨by first | rfl | (simp; done) | (simp [*]; done), by repeat (first | exact Drawn0.refl _ | apply Drawn0.step)⟩
      ·rw [if_neg c6] at H; have c6b0 : decide (a1 ≤ (rd l0 x5_1)) = false := decide_eq_false c6; clear c6; have H' := am H; clear H; have p105 : 0 ≤ (x5_1 : Int) := oD; have q105 : x5_1 < (l0.length : Int) := oD; obtain ⟨ad105, e105, hx105_0⟩ := Kd.at_int HR0.out x5_1 p105 q105; cases e105; replace p105 := eq_true p105; replace q105 := eq_true q105; have p106 : 0 ≤ (x5_1 : Int) := oD; have q106 : x5_1 < (l0.length : Int) := oD; obtain ⟨ad106, e106, hx106_0⟩ := Kd.at_int HR0.out x5_1 p106 q106; obtain rfl : ad105 = ad106 := (by injection e106); replace p106 := eq_true p106; replace q106 := eq_true q106; go_wp2; go_roundg k1
       case measure => have := HK1.out; omega
       case rel => exact ⟨(wrap64 (x5_1 + 1)), (by first | rfl | (simp; done) | (simp [*]; done)), H', ⟨by have := HK1.out; omega⟩, by repeat (first | exact Drawn0.refl _ | apply Drawn0.step)⟩
    ·rw [if_neg c4] at H; exact absurd H (by simp)
   ·rw [if_neg c3] at H; have c3b0 : decide (x5_1 < (l0.length : Int)) = false := decide_eq_false c3; clear c3; replace H := bE H; obtain ⟨t107, A70, H⟩ := H; replace H : (if t107 = true then (some (decide ((l0.length : Int) ≤ 400))) else (some false)) = some r := H; have A7 := am A70; clear A70; by_cases c8 : t107 = true
    ·subst c8; have H1 : (some (decide ((l0.length : Int) ≤ 400))) = some r := by rw [if_pos rfl] at H; exact H
     clear H; have H := H1; clear H1; obtain rfl := Option.some.inj H; go_wp2_with (first | ((with_reducible refine gate_callee (f := 115) rfl ?_); refine goesL_ (some 26) rfl rfl Try.func115 (by kernel_rfl) rfl #[.int .i64 a1, .int .i64 1, .int .i64 16] rfl (by (try simp only [mT, mC, mN]); first | done | rfl) ?_; (with_reducible refine (spec_l1In.calls a1 1 16 true _ A7.out).mono ?_); rintro e w' ⟨rfl, ⟨nd, rfl⟩⟩; refine ⟨_, rfl, ?_⟩)); go_ret; exact ⟨by first | rfl | (simp; done) | (simp [*]; done), by repeat (first | exact Drawn0.refl _ | apply Drawn0.step)⟩
    ·replace c8 := Bool.eq_false_iff.mpr c8; subst c8; have H1 : (some false) = some r := by rw [if_neg (show ¬ (false = true) by decide)] at H; exact H
     clear H; have H := H1; clear H1; obtain rfl := Option.some.inj H; go_wp2_with (first | ((with_reducible refine gate_callee (f := 115) rfl ?_); refine goesL_ (some 26) rfl rfl Try.func115 (by kernel_rfl) rfl #[.int .i64 a1, .int .i64 1, .int .i64 16] rfl (by (try simp only [mT, mC, mN]); first | done | rfl) ?_; (with_reducible refine (spec_l1In.calls a1 1 16 false _ A7.out).mono ?_); rintro e w' ⟨rfl, ⟨nd, rfl⟩⟩; refine ⟨_, rfl, ?_⟩)); go_ret; exact ⟨by first | rfl | (simp; done) | (simp [*]; done), by repeat (first | exact Drawn0.refl _ | apply Drawn0.step)⟩
def spec_IsMorphism.l0 : Nat → Int → List (List Int) → Option (Bool)
 | 0, _, _ => none
 | k + 1, x3, x109000 => if x3 < (x109000.length : Int) then (if 0 ≤ x3 then ((spec_IsWord.f k (rd_L1 x109000 x3) (x109000.length : Int)).bind fun t110 => (if t110 = true then (if ((rd_L1 x109000 x3).length : Int) > 8 then (some false) else (spec_IsMorphism.l0 k (wrap64 (x3 + 1)) x109000)) else (some false))) else (none)) else ((spec_l1In.f (x109000.length : Int) 1 16).bind fun t112 => (some t112))
def spec_IsMorphism.f (k : Nat) (l0_0 : List (List Int)) : Option (Bool) := spec_IsMorphism.l0 k 0 l0_0
set_option maxHeartbeats 8000000 in
set_option maxRecDepth 100000 in
theorem spec_IsMorphism.calls (k : Nat) (A0_0 : Option Addr) (c0_0 : Nat) (l0_0 : List (List Int)) (r : Bool) (w : World) (hr0_0 : Kd.C (Kd.slice 3 (Kd.int .i64)) w A0_0 l0_0.length l0_0) (hc0_0 : l0_0.length ≤ c0_0) (h : spec_IsMorphism.f k l0_0 = some r) :
  Calls Try.prog 109 #[.agg #[.slice A0_0 l0_0.length c0_0]] w fun e w' => e = .returned (.bool r) ∧ Below w.heap.size w w' := by
 have hu28 := Try.underlying28; have HR0_0 := am hr0_0; have HC0_0 := am hc0_0; clear hr0_0 hc0_0; have HB := am (Below.refl w.heap.size w); have H : (spec_IsMorphism.l0 k 0 l0_0) = some r := h; clear h; have H' := am H; clear H; go_enter Try.func109, Try.ntmps109; go_wp2_with (first | ((with_reducible refine gate_dst (N := 1) rfl ?_); (try (refine gate_guard (by rfl) ?_; dsimp only)); refine box_event ?hg (N := 1) ?hd (cs := #[.slice A0_0 l0_0.length c0_0]) (t := 28) ?hr ?_; (case hd | hg => rfl); (case hr => go_simp <;> rfl); intro gb108 hg w2 hbox hb; have BK108 := am (hbox); have GW108 := am ((by rw [hg]; exact (bZ HB) : w.heap.size ≤ gb108)); have GE108 := am ((by rw [hg]; exact (bZ HB) : w.heap.size ≤ gb108)); replace HB := bS HB hb; have qW108 := Ge.mk GW108.out; have qE108 := Ge.mk GE108.out; clear hb hbox hg))
 repeat (go_quiet (first | ((with_reducible refine gate_dst (N := 1) rfl ?_); (try (refine gate_guard (by rfl) ?_; dsimp only)); refine box_event ?hg (N := 1) ?hd (cs := #[.slice A0_0 l0_0.length c0_0]) (t := 28) ?hr ?_; (case hd | hg => rfl); (case hr => go_simp <;> rfl); intro gb108 hg w2 hbox hb; have BK108 := am (hbox); have GW108 := am ((by rw [hg]; exact (bZ HB) : w.heap.size ≤ gb108)); have GE108 := am ((by rw [hg]; exact (bZ HB) : w.heap.size ≤ gb108)); replace HB := bS HB hb; have qW108 := Ge.mk GW108.out; have qE108 := Ge.mk GE108.out; clear hb hbox hg)); try go_wp2_with (first | ((with_reducible refine gate_dst (N := 1) rfl ?_); (try (refine gate_guard (by rfl) ?_; dsimp only)); refine box_event ?hg (N := 1) ?hd (cs := #[.slice A0_0 l0_0.length c0_0]) (t := 28) ?hr ?_; (case hd | hg => rfl); (case hr => go_simp <;> rfl); intro gb108 hg w2 hbox hb; have BK108 := am (hbox); have GW108 := am ((by rw [hg]; exact (bZ HB) : w.heap.size ≤ gb108)); have GE108 := am ((by rw [hg]; exact (bZ HB) : w.heap.size ≤ gb108)); replace HB := bS HB hb; have qW108 := Ge.mk GW108.out; have qE108 := Ge.mk GE108.out; clear hb hbox hg)))
 go_loopg [3] k (fun kq v3 w' => ∃ (x3_1 : Int), v3 = .int .i64 x3_1 ∧ Aside0 (spec_IsMorphism.l0 kq x3_1 l0_0 = some r) ∧ Aside0 (kq ≤ k) ∧ Aside0 (w'.heap[gb108]? = some (.cells #[(.slice A0_0 l0_0.length c0_0)] 28 (0, 0))) ∧ Aside0 (Below w.heap.size w w'))
 case atStart => exact ⟨(0), (by first | rfl | (simp; done) | (simp [*]; done)), H', ⟨Nat.le_refl _⟩, ⟨by exact rX BK108⟩, ⟨by exact rB HB⟩⟩
 case round =>
  clear H'
  try clear c1
  try clear p2
  obtain ⟨x3_1, rfl, HA, HK1, BK108, HB⟩ := hrel; cases gk with
  | zero => exact absurd HA.out (by simp [spec_IsMorphism.l0])
  | succ k1 =>
   have H := HA.out; clear HA; simp only [spec_IsMorphism.l0] at H; by_cases c3 : x3_1 < (l0_0.length : Int)
   ·rw [if_pos c3] at H; have c3b0 : decide (x3_1 < (l0_0.length : Int)) = true := decide_eq_true c3; clear c3; by_cases c4 : 0 ≤ x3_1
    ·rw [if_pos c4] at H; have c4b0 : decide (0 ≤ x3_1) = true := decide_eq_true c4; clear c4; replace H := bE H; obtain ⟨t110, A50, H⟩ := H; replace H : (if t110 = true then (if ((rd_L1 l0_0 x3_1).length : Int) > 8 then (some false) else (spec_IsMorphism.l0 k1 (wrap64 (x3_1 + 1)) l0_0)) else (some false)) = some r := H; have A5 := am A50; clear A50; by_cases c6 : t110 = true
     ·subst c6; have H1 : (if ((rd_L1 l0_0 x3_1).length : Int) > 8 then (some false) else (spec_IsMorphism.l0 k1 (wrap64 (x3_1 + 1)) l0_0)) = some r := by rw [if_pos rfl] at H; exact H
      clear H; have H := H1; clear H1; by_cases c7 : ((rd_L1 l0_0 x3_1).length : Int) > 8
      ·rw [if_pos c7] at H; have c7b0 : decide (8 < ((rd_L1 l0_0 x3_1).length : Int)) = true := decide_eq_true c7; have c7b1 : decide (8 < (rd_L1 l0_0 x3_1).length) = true := decide_eq_true (by omega); clear c7; obtain rfl := Option.some.inj H; have hcz8_0 := z10 BK108; have hfz8_0 := blk_frozen BK108.out 0; have p109 : 0 ≤ (x3_1 : Int) := oD; have q109 : x3_1 < (l0_0.length : Int) := oD; obtain ⟨ad109, A109_0, c109_0, e109, hx109_0, hl109_0, hi109_0⟩ := at_L1 HR0_0.out x3_1 p109 q109; cases e109; replace hx109_0 := (HB.out.cell (World.block_lt_of_cell? w _ hx109_0)).trans hx109_0; have HR109_0 := am hi109_0; have HC109_0 := am hl109_0; clear hi109_0 hl109_0; replace p109 := eq_true p109; replace q109 := eq_true q109; go_wp2_with (first | (go_at_call 129; (with_reducible refine (spec_IsWord.calls k1 _ _ (rd_L1 l0_0 x3_1) (l0_0.length : Int) true _ ?side1 ?side2 A5.out).mono ?_); (case side1 => exact xC ((Kd.C_below HR109_0.out HB.out))); (case side2 => exact HC109_0.out); rintro e w' ⟨rfl, ⟨nd, rfl⟩⟩; (try first | exact ⟨rfl, _, World.drewN_drewN _ _ _⟩ | exact ⟨rfl, _, Eq.trans (World.drewN_drewN _ _ _) (congrArg (World.drewN _) (Nat.add_assoc _ _ _))⟩); have p111 : 0 ≤ (x3_1 : Int) := oD; have q111 : x3_1 < (l0_0.length : Int) := oD; obtain ⟨ad111, A111_0, c111_0, e111, hx111_0, hl111_0, hi111_0⟩ := at_L1 HR0_0.out x3_1 p111 q111; obtain rfl : ad109 = ad111 := (by injection e111); replace hx111_0 := (HB.out.cell (World.block_lt_of_cell? w _ hx111_0)).trans hx111_0; have HR111_0 := am hi111_0; have HC111_0 := am hl111_0; clear hi111_0 hl111_0; replace p111 := eq_true p111; replace q111 := eq_true q111; have ea_ := Option.some.inj (hx109_0.symm.trans hx111_0); injection ea_ with ea_ en_ ec_; subst ea_; subst ec_; clear en_))
       repeat (go_quiet (first | (go_at_call 129; (with_reducible refine (spec_IsWord.calls k1 _ _ (rd_L1 l0_0 x3_1) (l0_0.length : Int) true _ ?side1 ?side2 A5.out).mono ?_); (case side1 => exact xC ((Kd.C_below HR109_0.out HB.out))); (case side2 => exact HC109_0.out); rintro e w' ⟨rfl, ⟨nd, rfl⟩⟩; (try first | exact ⟨rfl, _, World.drewN_drewN _ _ _⟩ | exact ⟨rfl, _, Eq.trans (World.drewN_drewN _ _ _) (congrArg (World.drewN _) (Nat.add_assoc _ _ _))⟩); have p111 : 0 ≤ (x3_1 : Int) := oD; have q111 : x3_1 < (l0_0.length : Int) := oD; obtain ⟨ad111, A111_0, c111_0, e111, hx111_0, hl111_0, hi111_0⟩ := at_L1 HR0_0.out x3_1 p111 q111; obtain rfl : ad109 = ad111 := (by injection e111); replace hx111_0 := (HB.out.cell (World.block_lt_of_cell? w _ hx111_0)).trans hx111_0; have HR111_0 := am hi111_0; have HC111_0 := am hl111_0; clear hi111_0 hl111_0; replace p111 := eq_true p111; replace q111 := eq_true q111; have ea_ := Option.some.inj (hx109_0.symm.trans hx111_0); injection ea_ with ea_ en_ ec_; subst ea_; subst ec_; clear en_)); try go_wp2_with (first | (go_at_call 129; (with_reducible refine (spec_IsWord.calls k1 _ _ (rd_L1 l0_0 x3_1) (l0_0.length : Int) true _ ?side1 ?side2 A5.out).mono ?_); (case side1 => exact xC ((Kd.C_below HR109_0.out HB.out))); (case side2 => exact HC109_0.out); rintro e w' ⟨rfl, ⟨nd, rfl⟩⟩; (try first | exact ⟨rfl, _, World.drewN_drewN _ _ _⟩ | exact ⟨rfl, _, Eq.trans (World.drewN_drewN _ _ _) (congrArg (World.drewN _) (Nat.add_assoc _ _ _))⟩); have p111 : 0 ≤ (x3_1 : Int) := oD; have q111 : x3_1 < (l0_0.length : Int) := oD; obtain ⟨ad111, A111_0, c111_0, e111, hx111_0, hl111_0, hi111_0⟩ := at_L1 HR0_0.out x3_1 p111 q111; obtain rfl : ad109 = ad111 := (by injection e111); replace hx111_0 := (HB.out.cell (World.block_lt_of_cell? w _ hx111_0)).trans hx111_0; have HR111_0 := am hi111_0; have HC111_0 := am hl111_0; clear hi111_0 hl111_0; replace p111 := eq_true p111; replace q111 := eq_true q111; have ea_ := Option.some.inj (hx109_0.symm.trans hx111_0); injection ea_ with ea_ en_ ec_; subst ea_; subst ec_; clear en_)))
       go_ret; exact ⟨by first | rfl | (simp [errW_none, errW_some] <;> rfl) | (simp [*, errW_none, errW_some] <;> rfl), by exact rB HB⟩
      ·rw [if_neg c7] at H; have c7b0 : decide (8 < ((rd_L1 l0_0 x3_1).length : Int)) = false := decide_eq_false c7; have c7b1 : decide (8 < (rd_L1 l0_0 x3_1).length) = false := decide_eq_false (by omega); clear c7; have H' := am H; clear H; have hcz9_0 := z10 BK108; have hfz9_0 := blk_frozen BK108.out 0; have p109 : 0 ≤ (x3_1 : Int) := oD; have q109 : x3_1 < (l0_0.length : Int) := oD; obtain ⟨ad109, A109_0, c109_0, e109, hx109_0, hl109_0, hi109_0⟩ := at_L1 HR0_0.out x3_1 p109 q109; cases e109; replace hx109_0 := (HB.out.cell (World.block_lt_of_cell? w _ hx109_0)).trans hx109_0; have HR109_0 := am hi109_0; have HC109_0 := am hl109_0; clear hi109_0 hl109_0; replace p109 := eq_true p109; replace q109 := eq_true q109; go_wp2_with (first | (go_at_call 129; (with_reducible refine (spec_IsWord.calls k1 _ _ (rd_L1 l0_0 x3_1) (l0_0.length : Int) true _ ?side1 ?side2 A5.out).mono ?_); (case side1 => exact xC ((Kd.C_below HR109_0.out HB.out))); (case side2 => exact HC109_0.out); rintro e w' ⟨rfl, ⟨nd, rfl⟩⟩; (try first | exact ⟨rfl, _, World.drewN_drewN _ _ _⟩ | exact ⟨rfl, _, Eq.trans (World.drewN_drewN _ _ _) (congrArg (World.drewN _) (Nat.add_assoc _ _ _))⟩); have p111 : 0 ≤ (x3_1 : Int) := oD; have q111 : x3_1 < (l0_0.length : Int) := oD; obtain ⟨ad111, A111_0, c111_0, e111, hx111_0, hl111_0, hi111_0⟩ := at_L1 HR0_0.out x3_1 p111 q111; obtain rfl : ad109 = ad111 := (by injection e111); replace hx111_0 := (HB.out.cell (World.block_lt_of_cell? w _ hx111_0)).trans hx111_0; have HR111_0 := am hi111_0; have HC111_0 := am hl111_0; clear hi111_0 hl111_0; replace p111 := eq_true p111; replace q111 := eq_true q111; have ea_ := Option.some.inj (hx109_0.symm.trans hx111_0); injection ea_ with ea_ en_ ec_; subst ea_; subst ec_; clear en_))
       repeat (go_quiet (first | (go_at_call 129; (with_reducible refine (spec_IsWord.calls k1 _ _ (rd_L1 l0_0 x3_1) (l0_0.length : Int) true _ ?side1 ?side2 A5.out).mono ?_); (case side1 => exact xC ((Kd.C_below HR109_0.out HB.out))); (case side2 => exact HC109_0.out); rintro e w' ⟨rfl, ⟨nd, rfl⟩⟩; (try first | exact ⟨rfl, _, World.drewN_drewN _ _ _⟩ | exact ⟨rfl, _, Eq.trans (World.drewN_drewN _ _ _) (congrArg (World.drewN _) (Nat.add_assoc _ _ _))⟩); have p111 : 0 ≤ (x3_1 : Int) := oD; have q111 : x3_1 < (l0_0.length : Int) := oD; obtain ⟨ad111, A111_0, c111_0, e111, hx111_0, hl111_0, hi111_0⟩ := at_L1 HR0_0.out x3_1 p111 q111; obtain rfl : ad109 = ad111 := (by injection e111); replace hx111_0 := (HB.out.cell (World.block_lt_of_cell? w _ hx111_0)).trans hx111_0; have HR111_0 := am hi111_0; have HC111_0 := am hl111_0; clear hi111_0 hl111_0; replace p111 := eq_true p111; replace q111 := eq_true q111; have ea_ := Option.some.inj (hx109_0.symm.trans hx111_0); injection ea_ with ea_ en_ ec_; subst ea_; subst ec_; clear en_)); try go_wp2_with (first | (go_at_call 129; (with_reducible refine (spec_IsWord.calls k1 _ _ (rd_L1 l0_0 x3_1) (l0_0.length : Int) true _ ?side1 ?side2 A5.out).mono ?_); (case side1 => exact xC ((Kd.C_below HR109_0.out HB.out))); (case side2 => exact HC109_0.out); rintro e w' ⟨rfl, ⟨nd, rfl⟩⟩; (try first | exact ⟨rfl, _, World.drewN_drewN _ _ _⟩ | exact ⟨rfl, _, Eq.trans (World.drewN_drewN _ _ _) (congrArg (World.drewN _) (Nat.add_assoc _ _ _))⟩); have p111 : 0 ≤ (x3_1 : Int) := oD; have q111 : x3_1 < (l0_0.length : Int) := oD; obtain ⟨ad111, A111_0, c111_0, e111, hx111_0, hl111_0, hi111_0⟩ := at_L1 HR0_0.out x3_1 p111 q111; obtain rfl : ad109 = ad111 := (by injection e111); replace hx111_0 := (HB.out.cell (World.block_lt_of_cell? w _ hx111_0)).trans hx111_0; have HR111_0 := am hi111_0; have HC111_0 := am hl111_0; clear hi111_0 hl111_0; replace p111 := eq_true p111; replace q111 := eq_true q111; have ea_ := Option.some.inj (hx109_0.symm.trans hx111_0); injection ea_ with ea_ en_ ec_; subst ea_; subst ec_; clear en_)))
       go_roundg k1
       case measure => have := HK1.out; omega
       case rel => exact ⟨(wrap64 (x3_1 + 1)), (by first | rfl | (simp; done) | (simp [*]; done)), H', ⟨by have := HK1.out; omega⟩, ⟨by exact rX BK108⟩, ⟨by exact rB HB⟩⟩
     ·replace c6 := Bool.eq_false_iff.mpr c6; subst c6; have H1 : (some false) = some r := by rw [if_neg (show ¬ (false = true) by decide)] at H; exact H
      clear H; have H := H1; clear H1; obtain rfl := Option.some.inj H; have hcz10_0 := z10 BK108; have hfz10_0 := blk_frozen BK108.out 0; have p109 : 0 ≤ (x3_1 : Int) := oD; have q109 : x3_1 < (l0_0.length : Int) := oD; obtain ⟨ad109, A109_0, c109_0, e109, hx109_0, hl109_0, hi109_0⟩ := at_L1 HR0_0.out x3_1 p109 q109; cases e109; replace hx109_0 := (HB.out.cell (World.block_lt_of_cell? w _ hx109_0)).trans hx109_0; have HR109_0 := am hi109_0; have HC109_0 := am hl109_0; clear hi109_0 hl109_0; replace p109 := eq_true p109; replace q109 := eq_true q109; go_wp2_with (first | (go_at_call 129; (with_reducible refine (spec_IsWord.calls k1 _ _ (rd_L1 l0_0 x3_1) (l0_0.length : Int) false _ ?side1 ?side2 A5.out).mono ?_); (case side1 => exact xC ((Kd.C_below HR109_0.out HB.out))); (case side2 => exact HC109_0.out); rintro e w' ⟨rfl, ⟨nd, rfl⟩⟩; (try first | exact ⟨rfl, _, World.drewN_drewN _ _ _⟩ | exact ⟨rfl, _, Eq.trans (World.drewN_drewN _ _ _) (congrArg (World.drewN _) (Nat.add_assoc _ _ _))⟩)))
      repeat (go_quiet (first | (go_at_call 129; (with_reducible refine (spec_IsWord.calls k1 _ _ (rd_L1 l0_0 x3_1) (l0_0.length : Int) false _ ?side1 ?side2 A5.out).mono ?_); (case side1 => exact xC ((Kd.C_below HR109_0.out HB.out))); (case side2 => exact HC109_0.out); rintro e w' ⟨rfl, ⟨nd, rfl⟩⟩; (try first | exact ⟨rfl, _, World.drewN_drewN _ _ _⟩ | exact ⟨rfl, _, Eq.trans (World.drewN_drewN _ _ _) (congrArg (World.drewN _) (Nat.add_assoc _ _ _))⟩))); try go_wp2_with (first | (go_at_call 129; (with_reducible refine (spec_IsWord.calls k1 _ _ (rd_L1 l0_0 x3_1) (l0_0.length : Int) false _ ?side1 ?side2 A5.out).mono ?_); (case side1 => exact xC ((Kd.C_below HR109_0.out HB.out))); (case side2 => exact HC109_0.out); rintro e w' ⟨rfl, ⟨nd, rfl⟩⟩; (try first | exact ⟨rfl, _, World.drewN_drewN _ _ _⟩ | exact ⟨rfl, _, Eq.trans (World.drewN_drewN _ _ _) (congrArg (World.drewN _) (Nat.add_assoc _ _ _))⟩))))
      go_ret; exact ⟨by first | rfl | (simp [errW_none, errW_some] <;> rfl) | (simp [*, errW_none, errW_some] <;> rfl), by exact rB HB⟩
    ·rw [if_neg c4] at H; exact absurd H (by simp)
   ·rw [if_neg c3] at H; have c3b0 : decide (x3_1 < (l0_0.length : Int)) = false := decide_eq_false c3; clear c3; replace H := bE H; obtain ⟨t112, A110, H⟩ := H; replace H : (some t112) = some r := H; have A11 := am A110; clear A110; obtain rfl := Option.some.inj H; have hcz12_0 := z10 BK108; have hfz12_0 := blk_frozen BK108.out 0; go_wp2_with (first | (go_at_call 115; (with_reducible refine (spec_l1In.calls (l0_0.length : Int) 1 16 t112 _ A11.out).mono ?_); rintro e w' ⟨rfl, ⟨nd, rfl⟩⟩; (try first | exact ⟨rfl, _, World.drewN_drewN _ _ _⟩ | exact ⟨rfl, _, Eq.trans (World.drewN_drewN _ _ _) (congrArg (World.drewN _) (Nat.add_assoc _ _ _))⟩)))
    repeat (go_quiet (first | (go_at_call 115; (with_reducible refine (spec_l1In.calls (l0_0.length : Int) 1 16 t112 _ A11.out).mono ?_); rintro e w' ⟨rfl, ⟨nd, rfl⟩⟩; (try first | exact ⟨rfl, _, World.drewN_drewN _ _ _⟩ | exact ⟨rfl, _, Eq.trans (World.drewN_drewN _ _ _) (congrArg (World.drewN _) (Nat.add_assoc _ _ _))⟩))); try go_wp2_with (first | (go_at_call 115; (with_reducible refine (spec_l1In.calls (l0_0.length : Int) 1 16 t112 _ A11.out).mono ?_); rintro e w' ⟨rfl, ⟨nd, rfl⟩⟩; (try first | exact ⟨rfl, _, World.drewN_drewN _ _ _⟩ | exact ⟨rfl, _, Eq.trans (World.drewN_drewN _ _ _) (congrArg (World.drewN _) (Nat.add_assoc _ _ _))⟩))))
    go_ret; exact ⟨by first | rfl | (simp [errW_none, errW_some] <;> rfl) | (simp [*, errW_none, errW_some] <;> rfl), by exact rB HB⟩
def spec_CountLetters.l0 : Nat → List Int → Int → Int → Int → Option (Int)
 | 0, _, _, _, _ => none
 | k + 1, x0, x1, x5, x6 => if x6 < (x0.length : Int) then (if 0 ≤ x6 then (if (rd x0 x6) = x1 then (spec_CountLetters.l0 k x0 x1 (wrap64 (x5 + 1)) (wrap64 (x6 + 1))) else (spec_CountLetters.l0 k x0 x1 x5 (wrap64 (x6 + 1)))) else (none)) else (some x5)
def spec_CountLetters.f (k : Nat) (l0 : List Int) (a1 : Int) : Option (Int) := spec_CountLetters.l0 k l0 a1 0 0
set_option maxHeartbeats 8000000 in
set_option maxRecDepth 100000 in
theorem spec_CountLetters.calls (k : Nat) (A0 : Option Addr) (c0 : Nat) (l0 : List Int) (a1 : Int) (r : Int) (w : World) (hr0 : Kd.C (Kd.int .i64) w A0 l0.length l0) (hc0 : l0.length ≤ c0) (h : spec_CountLetters.f k l0 a1 = some r) :
  Calls Try.prog 111 #[.slice A0 l0.length c0, .int .i64 a1] w fun e w' => e = .returned (.int .i64 r) ∧ Drawn0 w w' := by
 have HR0 := am hr0; have HC0 := am hc0; clear hr0 hc0; have H : (spec_CountLetters.l0 k l0 a1 0 0) = some r := h; clear h; have H' := am H; clear H; go_enter Try.func111, Try.ntmps111; go_wp2; go_loopg [5, 6] k (fun kq v5 v6 w' => ∃ (x5_1 : Int) (x6_1 : Int), v5 = .int .i64 x5_1 ∧ v6 = .int .i64 x6_1 ∧ Aside0 (spec_CountLetters.l0 kq l0 a1 x5_1 x6_1 = some r) ∧ Aside0 (kq ≤ k) ∧ Drawn0 w w')
 case atStart => exact ⟨(0), (0), (by first | rfl | (simp; done) | (simp [*]; done)), (by first | rfl | (simp; done) | (simp [*]; done)), H', ⟨Nat.le_refl _⟩, by repeat (first | exact Drawn0.refl _ | apply Drawn0.step)⟩
 case round =>
  clear H'
  try clear c1
  try clear p2
  obtain ⟨x5_1, x6_1, rfl, rfl, HA, HK1, ⟨m1, rfl⟩⟩ := hrel; cases gk with
  | zero => exact absurd HA.out (by simp [spec_CountLetters.l0])
  | succ k1 =>
   have H := HA.out; clear HA; simp only [spec_CountLetters.l0] at H; by_cases c3 : x6_1 < (l0.length : Int)
   ·rw [if_pos c3] at H; have c3b0 : decide (x6_1 < (l0.length : Int)) = true := decide_eq_true c3; clear c3; by_cases c4 : 0 ≤ x6_1
    ·rw [if_pos c4] at H; have c4b0 : decide (0 ≤ x6_1) = true := decide_eq_true c4; clear c4; by_cases c5 : (rd l0 x6_1) = a1
     ·rw [if_pos c5] at H; have c5b0 : ((rd l0 x6_1) == a1) = true := beq_iff_eq.mpr c5; have c5b1 : ((rd l0 x6_1) != a1) = false := bne_eq_false_iff_eq.mpr c5; clear c5; have H' := am H; clear H; have p113 : 0 ≤ (x6_1 : Int) := oD; have q113 : x6_1 < (l0.length : Int) := oD; obtain ⟨ad113, e113, hx113_0⟩ := Kd.at_int HR0.out x6_1 p113 q113; cases e113; replace p113 := eq_true p113; replace q113 := eq_true q113; go_wp2; go_roundg k1
      case measure => have := HK1.out; omega
      case rel => exact ⟨(wrap64 (x5_1 + 1)), (wrap64 (x6_1 + 1)), (by first | rfl | (simp; done) | (simp [*]; done)), (by first | rfl | (simp; done) | (simp [*]; done)), H', ⟨by have := HK1.out; omega⟩, by repeat (first | exact Drawn0.refl _ | apply Drawn0.step)⟩
     ·rw [if_neg c5] at H; have c5b0 : ((rd l0 x6_1) == a1) = false := beq_eq_false_iff_ne.mpr c5; have c5b1 : ((rd l0 x6_1) != a1) = true := bne_iff_ne.mpr c5; have H' := am H; clear H; have p113 : 0 ≤ (x6_1 : Int) := oD; have q113 : x6_1 < (l0.length : Int) := oD; obtain ⟨ad113, e113, hx113_0⟩ := Kd.at_int HR0.out x6_1 p113 q113; cases e113; replace p113 := eq_true p113; replace q113 := eq_true q113; go_wp2; go_roundg k1
      case measure => have := HK1.out; omega
      case rel => exact ⟨(x5_1), (wrap64 (x6_1 + 1)), (by first | rfl | (simp; done) | (simp [*]; done)), (by first | rfl | (simp; done) | (simp [*]; done)), H', ⟨by have := HK1.out; omega⟩, by repeat (first | exact Drawn0.refl _ | apply Drawn0.step)⟩
    ·rw [if_neg c4] at H; exact absurd H (by simp)
   ·rw [if_neg c3] at H; have c3b0 : decide (x6_1 < (l0.length : Int)) = false := decide_eq_false c3; clear c3; obtain rfl := Option.some.inj H; go_wp2; go_ret; exact ⟨by first | rfl | (simp; done) | (simp [*]; done), by repeat (first | exact Drawn0.refl _ | apply Drawn0.step)⟩
mutual
def spec_IncidenceOf.l0 : Nat → List (List Int) → Int → List (List Int) → Option ((List (List Int)) × Bool)
 | 0, _, _, _ => none
 | k + 1, x4, x5, x115000 => if x5 < (x115000.length : Int) then ((spec_IsMorphism.f k x115000).bind fun t118 => (spec_IncidenceOf.j1 k x4 x5 t118 x115000)) else (spec_IncidenceOf.j1 k x4 x5 false x115000)
def spec_IncidenceOf.j1 : Nat → List (List Int) → Int → Bool → List (List Int) → Option ((List (List Int)) × Bool)
 | 0, _, _, _, _ => none
 | k + 1, x4, x5, x17, x115000 => if x17 = true then (spec_IncidenceOf.l1 k x4 x5 (([] : List Int)) 0 x115000) else ((spec_IsMorphism.f k x115000).bind fun t119 => (some (x4, t119)))
def spec_IncidenceOf.l1 : Nat → List (List Int) → Int → List Int → Int → List (List Int) → Option ((List (List Int)) × Bool)
 | 0, _, _, _, _, _ => none
 | k + 1, x4, x5, x6, x7, x115000 => if x7 < (x115000.length : Int) then (if 0 ≤ x5 then (if x5 < (x115000.length : Int) then ((spec_CountLetters.f k (rd_L1 x115000 x5) x7).bind fun t124 => (if x6.length < 17592186044416 then (spec_IncidenceOf.l1 k x4 x5 (x6 ++ [t124]) (wrap64 (x7 + 1)) x115000) else (none))) else (none)) else (none)) else (if x4.length < 5864062014805 then (spec_IncidenceOf.l0 k (x4 ++ [x6]) (wrap64 (x5 + 1)) x115000) else (none))
end
def spec_IncidenceOf.f (k : Nat) (l0_0 : List (List Int)) : Option ((List (List Int)) × Bool) := spec_IncidenceOf.l0 k (([] : List (List Int))) 0 l0_0
set_option maxHeartbeats 8000000 in
set_option maxRecDepth 100000 in
theorem spec_IncidenceOf.calls (k : Nat) (A0_0 : Option Addr) (c0_0 : Nat) (l0_0 : List (List Int)) (r1 : List (List Int)) (r2 : Bool) (w : World) (hr0_0 : Kd.C (Kd.slice 3 (Kd.int .i64)) w A0_0 l0_0.length l0_0) (hc0_0 : l0_0.length ≤ c0_0) (h : spec_IncidenceOf.f k l0_0 = some (r1, r2)) :
  Calls Try.prog 16 #[.agg #[.slice A0_0 l0_0.length c0_0]] w fun e w' => ∃ v0_ : Value, e = .returned (.tuple #[v0_, .bool r2]) ∧ Kd.S (Kd.slice 3 (Kd.int .i64)) 36 w' w.heap.size (fun _ => True) v0_ r1 ∧ Below w.heap.size w w' := by
 have hu28 := Try.underlying28; have HR0_0 := am hr0_0; have HC0_0 := am hc0_0; clear hr0_0 hc0_0; have HB := am (Below.refl w.heap.size w); have H : (spec_IncidenceOf.l0 k (([] : List (List Int))) 0 l0_0) = some (r1, r2) := h; clear h; obtain ⟨y115, hy115⟩ : ∃ y_ : List (List Int), y_ = (([] : List (List Int))) := ⟨_, rfl⟩; replace H : (spec_IncidenceOf.l0 k y115 0 l0_0) = some (r1, r2) := by rw [hy115]; first | exact H | exact (Option.bind_some _ _).symm.trans H
 have Ny115 := am hy115; clear hy115; have H' := am H; clear H; go_enter Try.func16, Try.ntmps16; go_wp2_with (first | ((with_reducible refine gate_dst (N := 1) rfl ?_); refine box_event ?hg (N := 1) ?hd (cs := #[.slice A0_0 l0_0.length c0_0]) (t := 28) ?hr ?_; (case hd | hg => rfl); (case hr => go_simp <;> rfl); intro gb114 hg w2 hbox hb; have BK114 := am (hbox); have GW114 := am ((by rw [hg]; exact (bZ HB) : w.heap.size ≤ gb114)); have GE114 := am ((by rw [hg]; exact (bZ HB) : w.heap.size ≤ gb114)); replace HB := bS HB hb; have qW114 := Ge.mk GW114.out; have qE114 := Ge.mk GE114.out; clear hb hbox hg) | ((with_reducible refine gate_dst (N := 8) rfl ?_); refine Kd.S_lit (Kd.slice 3 (Kd.int .i64)) _ 36 ?hg (N := 8) ?hd (xs := ([] : List (List Int))) (inner := []) (ok := fun _ => True) (okp := fun _ => True) ?hr ?hp (fun _ hk => hk) trivial (Below.refl _ _) (Nat.le_refl _) (by simp) ?_; (case hd | hg => rfl); (case hr => go_simp <;> rfl); (case hp => exact (Reps.none _ _)); intro v116 w3 ho4 hb hg_ hnew_; clear hg_ hnew_; (first | rw [← Ny115.out] at ho4 | (simp only [Int.reduceToNat] at ho4; rw [← Ny115.out] at ho4)); have HO117 := am (Kd.S_lower ho4 (bZ HB)); replace BK114 := bK BK114 hb; replace HB := bS HB hb; clear hb ho4)); go_loopg [4, 5] k (fun kq v4 v5 w' => ∃ (x4_1 : List (List Int)) (x5_1 : Int), v5 = .int .i64 x5_1 ∧ Aside0 (spec_IncidenceOf.l0 kq x4_1 x5_1 l0_0 = some (r1, r2)) ∧ Aside0 (kq ≤ k) ∧ Aside0 (Kd.S (Kd.slice 3 (Kd.int .i64)) 36 w' w.heap.size (fun _ => True) v4 x4_1) ∧ Aside0 (w'.heap[gb114]? = some (.cells #[(.slice A0_0 l0_0.length c0_0)] 28 (0, 0))) ∧ Aside0 (Below w.heap.size w w'))
 case atStart => exact ⟨(y115), (0), (by first | rfl | (simp; done) | (simp [*]; done)), H', ⟨Nat.le_refl _⟩, ⟨by exact rS HO117⟩, ⟨by exact rX BK114⟩, ⟨by exact rB HB⟩⟩
 case round =>
  clear H'
  try clear c1
  try clear p2
  obtain ⟨x4_1, x5_1, rfl, HA, HK1, HO_4, BK114, HB⟩ := hrel; cases gk with
  | zero => exact absurd HA.out (by simp [spec_IncidenceOf.l0])
  | succ k1 =>
   have H := HA.out; clear HA; simp only [spec_IncidenceOf.l0] at H; have HC5 := am H; clear H; go_upto_region 3 with (fail); go_cut [17] (fun v17 wc => ∃ (kq : Nat) (x17_4 : Bool), v17 = .bool x17_4 ∧ Aside0 (spec_IncidenceOf.j1 kq x4_1 x5_1 x17_4 l0_0 = some (r1, r2)) ∧ Aside0 (kq ≤ k1) ∧ Aside0 (Kd.S (Kd.slice 3 (Kd.int .i64)) 36 wc w.heap.size (fun _ => True) u4 x4_1) ∧ Aside0 (wc.heap[gb114]? = some (.cells #[(.slice A0_0 l0_0.length c0_0)] 28 (0, 0))) ∧ Aside0 (Below w.heap.size w wc))
   case first =>
    have H := HC5.out; clear HC5; by_cases c6 : x5_1 < (l0_0.length : Int)
    ·rw [if_pos c6] at H; have c6b0 : decide (x5_1 < (l0_0.length : Int)) = true := decide_eq_true c6; clear c6
     (first | rw [c6b0] | (simp only [i64_w, i32_w]; rw [c6b0]) | skip)
     replace H := bE H; obtain ⟨t118, A70, H⟩ := H; replace H : (spec_IncidenceOf.j1 k1 x4_1 x5_1 t118 l0_0) = some (r1, r2) := H; have A7 := am A70; clear A70; have H' := am H; clear H; have hcz8_0 := z10 BK114; have hfz8_0 := blk_frozen BK114.out 0; go_wp2_with (first | (go_at_call 109; (with_reducible refine (spec_IsMorphism.calls k1 _ _ l0_0 t118 _ ?side1 ?side2 A7.out).mono ?_); (case side1 => exact xC ((Kd.C_below HR0_0.out HB.out))); (case side2 => exact HC0_0.out); rintro e w9 ⟨rfl, hb⟩; replace HO_4 := am (Kd.S_below (by exact rS HO_4) hb); replace BK114 := bK BK114 hb; replace HB := bS HB hb; clear hb)); go_meet
     case rel => exact ⟨_, (t118), (by first | rfl | (simp; done) | (simp [*]; done)), H', ⟨by have := HK1.out; first | omega | exact Nat.le_refl _⟩, ⟨by exact rS HO_4⟩, ⟨by exact rX BK114⟩, ⟨by exact rB HB⟩⟩
    ·rw [if_neg c6] at H; have c6b0 : decide (x5_1 < (l0_0.length : Int)) = false := decide_eq_false c6; clear c6
     (first | rw [c6b0] | (simp only [i64_w, i32_w]; rw [c6b0]) | skip)
     have H' := am H; clear H; have hcz10_0 := z10 BK114; have hfz10_0 := blk_frozen BK114.out 0; go_wp2; go_meet
     case rel => exact ⟨_, (false), (by first | rfl | (simp; done) | (simp [*]; done)), H', ⟨by have := HK1.out; first | omega | exact Nat.le_refl _⟩, ⟨by exact rS HO_4⟩, ⟨by exact rX BK114⟩, ⟨by exact rB HB⟩⟩
   case rest =>
    clear HC5
    try clear c1
    try clear p2
    try clear c6
    try clear c6b0
    try clear hcz10_0
    try clear hcz8_0
    try clear hfz10_0
    try clear hfz8_0
    try clear p2
    obtain ⟨kq, x17_4, rfl, HA, HJ4, HO_4, BK114, HB⟩ := hcut; cases kq with
    | zero => exact absurd HA.out (by simp [spec_IncidenceOf.j1])
    | succ kj4 =>
     have H := HA.out; clear HA; simp only [spec_IncidenceOf.j1] at H; by_cases c11 : x17_4 = true
     ·subst c11; have H1 : (spec_IncidenceOf.l1 kj4 x4_1 x5_1 (([] : List Int)) 0 l0_0) = some (r1, r2) := by rw [if_pos rfl] at H; exact H
      clear H; have H := H1; clear H1; obtain ⟨y120, hy120⟩ : ∃ y_ : List Int, y_ = (([] : List Int)) := ⟨_, rfl⟩; replace H : (spec_IncidenceOf.l1 kj4 x4_1 x5_1 y120 0 l0_0) = some (r1, r2) := by rw [hy120]; first | exact H | exact (Option.bind_some _ _).symm.trans H
      have Ny120 := am hy120; clear hy120; have H' := am H; clear H; go_wp2_with (first | ((with_reducible refine gate_dst (N := 20) rfl ?_); refine Kd.R_lit (Kd.int .i64) _ 3 ?hg (N := 20) ?hd (xs := ([] : List Int)) (inner := []) (ok := fun _ => True) (okp := fun _ => True) ?hr ?hp (fun _ hk => hk) trivial (Below.refl _ _) (Nat.le_refl _) (by simp) ?_; (case hd | hg => rfl); (case hr => go_simp <;> rfl); (case hp => exact (Reps.none _ _)); intro v121 w12 ho13 hb hg_ hnew_; clear hg_ hnew_; (first | rw [← Ny120.out] at ho13 | (simp only [Int.reduceToNat] at ho13; rw [← Ny120.out] at ho13)); replace HO_4 := am (Kd.S_elder' (by exact rS HO_4) (Kd.R_base ho13) hb); have HO122 := am (Kd.R_lower ho13 (bZ HB)); replace BK114 := bK BK114 hb; replace HB := bS HB hb; clear hb ho13)); go_loopg [6, 7] kj4 (fun kq v6 v7 w' => ∃ (x6_3 : List Int) (x7_3 : Int), v7 = .int .i64 x7_3 ∧ Aside0 (spec_IncidenceOf.l1 kq x4_1 x5_1 x6_3 x7_3 l0_0 = some (r1, r2)) ∧ Aside0 (kq ≤ kj4) ∧ Aside0 (Kd.S (Kd.slice 3 (Kd.int .i64)) 36 w' w.heap.size (fun k_ => some k_ ≠ (v6 : Value).ownBlock) u4 x4_1) ∧ Aside0 (Kd.R (Kd.int .i64) 3 w' w.heap.size (fun _ => True) v6 x6_3) ∧ Aside0 (w'.heap[gb114]? = some (.cells #[(.slice A0_0 l0_0.length c0_0)] 28 (0, 0))) ∧ Aside0 (Below w.heap.size w w'))
      case atStart => exact ⟨(y120), (0), (by first | rfl | (simp; done) | (simp [*]; done)), H', ⟨Nat.le_refl _⟩, ⟨by exact xS (Kd.S_mono HO_4.out (fun _ hk => hk.2))⟩, ⟨by exact rR HO122⟩, ⟨by exact rX BK114⟩, ⟨by exact rB HB⟩⟩
      case round =>
       clear H'
       try clear c1
       try clear p2
       try clear c6
       try clear c6b0
       try clear c11
       try clear hcz10_0
       try clear hcz8_0
       try clear hfz10_0
       try clear hfz8_0
       try clear p2
       obtain ⟨x6_3, x7_3, rfl, HA, HK3, HO_4, HO_6, BK114, HB⟩ := hrel; cases gk with
       | zero => exact absurd HA.out (by simp [spec_IncidenceOf.l1])
       | succ k3 =>
        have H := HA.out; clear HA; simp only [spec_IncidenceOf.l1] at H; by_cases c14 : x7_3 < (l0_0.length : Int)
        ·rw [if_pos c14] at H; have c14b0 : decide (x7_3 < (l0_0.length : Int)) = true := decide_eq_true c14; clear c14; by_cases c15 : 0 ≤ x5_1
         ·rw [if_pos c15] at H; have c15b0 : decide (0 ≤ x5_1) = true := decide_eq_true c15; clear c15; by_cases c16 : x5_1 < (l0_0.length : Int)
          ·rw [if_pos c16] at H; have c16b0 : decide (x5_1 < (l0_0.length : Int)) = true := decide_eq_true c16; clear c16; replace H := bE H; obtain ⟨t124, A170, H⟩ := H; replace H : (if x6_3.length < 17592186044416 then (spec_IncidenceOf.l1 k3 x4_1 x5_1 (x6_3 ++ [t124]) (wrap64 (x7_3 + 1)) l0_0) else (none)) = some (r1, r2) := H; have A17 := am A170; clear A170; by_cases c18 : x6_3.length < 17592186044416
           ·rw [if_pos c18] at H; have LMc18 := am c18; clear c18; obtain ⟨y125, hy125⟩ : ∃ y_ : List Int, y_ = (x6_3 ++ [t124]) := ⟨_, rfl⟩; replace H : (spec_IncidenceOf.l1 k3 x4_1 x5_1 y125 (wrap64 (x7_3 + 1)) l0_0) = some (r1, r2) := by rw [hy125]; first | exact H | exact (Option.bind_some _ _).symm.trans H
            have Ny125 := am hy125; clear hy125; have H' := am H; clear H; have hcz19_0 := z10 BK114; have hfz19_0 := blk_frozen BK114.out 0; have p123 : 0 ≤ (x5_1 : Int) := oD; have q123 : x5_1 < (l0_0.length : Int) := oD; obtain ⟨ad123, A123_0, c123_0, e123, hx123_0, hl123_0, hi123_0⟩ := at_L1 HR0_0.out x5_1 p123 q123; cases e123; replace hx123_0 := (HB.out.cell (World.block_lt_of_cell? w _ hx123_0)).trans hx123_0; have HR123_0 := am hi123_0; have HC123_0 := am hl123_0; clear hi123_0 hl123_0; replace p123 := eq_true p123; replace q123 := eq_true q123; go_wp2_with (first | ((with_reducible refine gate_callee (f := 111) rfl ?_); refine goesL_ (some 35) rfl rfl Try.func111 (by kernel_rfl) rfl #[.slice A123_0 (rd_L1 l0_0 x5_1).length c123_0, .int .i64 x7_3] rfl (by (try simp only [mT, mC, mN]); first | done | rfl) ?_; (with_reducible refine (spec_CountLetters.calls k3 _ _ (rd_L1 l0_0 x5_1) x7_3 t124 _ ?side1 ?side2 A17.out).mono ?_); (case side1 => exact xC ((Kd.C_below HR123_0.out HB.out))); (case side2 => exact HC123_0.out); rintro e w' ⟨rfl, ⟨nd, rfl⟩⟩; refine ⟨_, rfl, ?_⟩) | ((with_reducible refine gate_builtin (b := .append) (xs := #[.tmp 28, .tmp 36]) rfl ?_); at_builtin; refine Kd.R_append (Kd.int .i64) (w0 := w) w.heap.size rfl (.tmp 28) (.tmp 36) 36 3 (.int .i64 0) 8 rfl Try.underlying36 info3 rfl (by decide) (by omega) u6 x6_3 t124 [.int .i64 t124] (fun _ => True) (fun _ => False) rfl rfl ?aP (fun _ hk => hk.elim) ?aF ?aO ?aB ?aS ?aL ?_; (case aP => exact rfl); (case aB => exact (by exact rB HB)); (case aF => exact (fun _ _ => trivial)); (case aO => exact (by exact rR HO_6)); (case aS => exact (bZ HB)); (case aL => have := LMc18.out; omega); intro v126 w20 ho hb hg hat; rw [← Ny125.out] at ho; replace HO_4 := am (Kd.S_after (ok := (fun _ => True)) (by exact xS (Kd.S_mono HO_4.out (fun _ hk => ⟨trivial, hk⟩))) hg hat); replace BK114 := am (blk_grown (g := gb114) (o := .cells #[.slice (some ad123) l0_0.length c0_0] 28 (0, 0)) (by exact rX BK114) hg (Kd.R_ne HO_6.out BK114.out (by decide))); replace HB := am (hb); have HO127 := am (ho); clear HO_6; clear ho hb hg hat)); go_roundg k3
            case measure => have := HK1.out; have := HJ4.out; have := HK3.out; omega
            case rel => exact ⟨(y125), (wrap64 (x7_3 + 1)), (by first | rfl | (simp; done) | (simp [*]; done)), H', ⟨by have := HK1.out; have := HJ4.out; have := HK3.out; omega⟩, ⟨by exact xS (Kd.S_mono HO_4.out (fun _ hk => hk.2))⟩, ⟨by exact rR HO127⟩, ⟨by exact rX BK114⟩, ⟨by exact rB HB⟩⟩
           ·rw [if_neg c18] at H; exact absurd H (by simp)
          ·rw [if_neg c16] at H; exact absurd H (by simp)
         ·rw [if_neg c15] at H; exact absurd H (by simp)
        ·rw [if_neg c14] at H; have c14b0 : decide (x7_3 < (l0_0.length : Int)) = false := decide_eq_false c14; clear c14; by_cases c21 : x4_1.length < 5864062014805
         ·rw [if_pos c21] at H; have LMc21 := am c21; clear c21; obtain ⟨y128, hy128⟩ : ∃ y_ : List (List Int), y_ = (x4_1 ++ [x6_3]) := ⟨_, rfl⟩; replace H : (spec_IncidenceOf.l0 k3 y128 (wrap64 (x5_1 + 1)) l0_0) = some (r1, r2) := by rw [hy128]; first | exact H | exact (Option.bind_some _ _).symm.trans H
          have Ny128 := am hy128; clear hy128; have H' := am H; clear H; have hcz22_0 := z10 BK114; have hfz22_0 := blk_frozen BK114.out 0; obtain ⟨Ao24, co24, eo24⟩ := Kd.R_slice HO_6.out; subst eo24; go_wp2_with (first | ((with_reducible refine gate_builtin (b := .append) (xs := #[.tmp 38, .tmp 40]) rfl ?_); at_builtin; refine Kd.S_append (Kd.slice 3 (Kd.int .i64)) (w0 := w) w.heap.size rfl (.tmp 38) (.tmp 40) 22 36 (.slice none 0 0) 24 rfl Try.underlying22 info36 rfl (by decide) (by omega) u4 x4_1 x6_3 [.slice Ao24 x6_3.length co24] (fun _ => True) (fun k_ => some k_ = (.slice Ao24 x6_3.length co24 : Value).ownBlock) rfl rfl ?aP (fun k_ hk_ => ((Kd.R_mono (ok' := fun k_ => ((fun _ => True)) k_ ∧ some k_ ≠ (u4 : Value).ownBlock) (Kd.R_apart' (HO_6.out) (Kd.S_typed HO_4.out) (by decide)) (fun k_ hk => ⟨trivial, hk.2⟩))).1 k_ hk_.symm) ?aF ?aO ?aB ?aS ?aL ?_; (case aP => exact Kd.M_row (Kd.R_mono (Kd.R_tight rfl (Kd.R_mono (ok' := fun k_ => ((fun _ => True)) k_ ∧ some k_ ≠ (u4 : Value).ownBlock) (Kd.R_apart' (HO_6.out) (Kd.S_typed HO_4.out) (by decide)) (fun k_ hk => ⟨trivial, hk.2⟩))) (fun _ h_ => h_))); (case aB => exact (by exact rB HB)); (case aF => exact (fun _ _ => trivial)); (case aO => exact (by exact xS (Kd.S_mono HO_4.out (fun k_ hk => ⟨trivial, fun e_ => hk e_⟩)))); (case aS => exact (bZ HB)); (case aL => have := LMc21.out; omega); intro v129 w23 ho hb hg hat; rw [← Ny128.out] at ho; replace BK114 := am (blk_grown (g := gb114) (o := .cells #[.slice A0_0 l0_0.length c0_0] 28 (0, 0)) (by exact rX BK114) hg (Kd.S_ne HO_4.out BK114.out (by decide))); replace HB := am (hb); have HO130 := am (ho); clear HO_4 HO_6; clear ho hb hg hat)); go_roundg k3
          case measure => have := HK1.out; have := HJ4.out; have := HK3.out; omega
          case rel => exact ⟨(y128), (wrap64 (x5_1 + 1)), (by first | rfl | (simp; done) | (simp [*]; done)), H', ⟨by have := HK1.out; have := HJ4.out; have := HK3.out; omega⟩, ⟨by exact rS HO130⟩, ⟨by exact rX BK114⟩, ⟨by exact rB HB⟩⟩
         ·rw [if_neg c21] at H; exact absurd H (by simp)
     ·replace c11 := Bool.eq_false_iff.mpr c11; subst c11; have H1 : ((spec_IsMorphism.f kj4 l0_0).bind fun t119 => (some (x4_1, t119))) = some (r1, r2) := by rw [if_neg (show ¬ (false = true) by decide)] at H; exact H
      clear H; have H := H1; clear H1; replace H := bE H; obtain ⟨t119, A250, H⟩ := H; replace H : (some (x4_1, t119)) = some (r1, r2) := H; have A25 := am A250; clear A250; simp only [Option.some.injEq, Prod.mk.injEq] at H; obtain ⟨rfl, rfl⟩ := H; have hcz26_0 := z10 BK114; have hfz26_0 := blk_frozen BK114.out 0; go_wp2_with (first | ((with_reducible refine gate_callee (f := 109) rfl ?_); refine goesL_ (some 44) rfl rfl Try.func109 (by kernel_rfl) rfl #[.agg #[.slice A0_0 l0_0.length c0_0]] rfl (by (try simp only [mT, mC, mN]); first | done | rfl) ?_; (with_reducible refine (spec_IsMorphism.calls kj4 _ _ l0_0 t119 _ ?side1 ?side2 A25.out).mono ?_); (case side1 => exact xC ((Kd.C_below HR0_0.out HB.out))); (case side2 => exact HC0_0.out); rintro e w27 ⟨rfl, hb⟩; refine ⟨_, rfl, ?_⟩; replace HO_4 := am (Kd.S_below (by exact rS HO_4) hb); replace BK114 := bK BK114 hb; replace HB := bS HB hb; clear hb)); go_ret2; exact ⟨_, by first | rfl | (simp [errW_none, errW_some] <;> rfl) | (simp [*, errW_none, errW_some] <;> rfl), by exact rS HO_4, by exact rB HB⟩
def impl_areLetters.l0 : Nat → Int → List Int → Int → Int → Option (Bool)
 | 0, _, _, _, _ => none
 | k + 1, x1, x7, x8, x9 => if x9 < x8 then (if 0 ≤ x9 then (if x9 < (x7.length : Int) then (if (rd x7 x9) < 0 then (some false) else (if (rd x7 x9) ≥ x1 then (some false) else (impl_areLetters.l0 k x1 x7 x8 (wrap64 (x9 + 1))))) else (none)) else (none)) else (some true)
def impl_areLetters.f (k : Nat) (l0 : List Int) (a1 : Int) : Option (Bool) := impl_areLetters.l0 k a1 l0 (l0.length : Int) 0
set_option maxHeartbeats 8000000 in
set_option maxRecDepth 100000 in
theorem impl_areLetters.calls (k : Nat) (A0 : Option Addr) (c0 : Nat) (l0 : List Int) (a1 : Int) (r : Bool) (w : World) (hr0 : Kd.C (Kd.int .i64) w A0 l0.length l0) (hc0 : l0.length ≤ c0) (h : impl_areLetters.f k l0 a1 = some r) :
  Calls Try.prog 159 #[.slice A0 l0.length c0, .int .i64 a1] w fun e w' => e = .returned (.bool r) ∧ Drawn0 w w' := by
 have HR0 := am hr0; have HC0 := am hc0; clear hr0 hc0; have H : (impl_areLetters.l0 k a1 l0 (l0.length : Int) 0) = some r := h; clear h; have H' := am H; clear H; go_enter Try.func159, Try.ntmps159; go_wp2; go_loopg [9] k (fun kq v9 w' => ∃ (x9_1 : Int), v9 = .int .i64 x9_1 ∧ Aside0 (impl_areLetters.l0 kq a1 l0 (l0.length : Int) x9_1 = some r) ∧ Aside0 (kq ≤ k) ∧ Drawn0 w w')
 case atStart => exact ⟨(0), (by first | rfl | (simp; done) | (simp [*]; done)), H', ⟨Nat.le_refl _⟩, by repeat (first | exact Drawn0.refl _ | apply Drawn0.step)⟩
 case round =>
  clear H'
  try clear c1
  try clear p2
  obtain ⟨x9_1, rfl, HA, HK1, ⟨m1, rfl⟩⟩ := hrel; cases gk with
  | zero => exact absurd HA.out (by simp [impl_areLetters.l0])
  | succ k1 =>
   have H := HA.out; clear HA; simp only [impl_areLetters.l0] at H; by_cases c3 : x9_1 < (l0.length : Int)
   ·rw [if_pos c3] at H; have c3b0 : decide (x9_1 < (l0.length : Int)) = true := decide_eq_true c3; clear c3; by_cases c4 : 0 ≤ x9_1
    ·rw [if_pos c4] at H; have c4b0 : decide (0 ≤ x9_1) = true := decide_eq_true c4; clear c4; by_cases c5 : x9_1 < (l0.length : Int)
     ·rw [if_pos c5] at H; have c5b0 : decide (x9_1 < (l0.length : Int)) = true := decide_eq_true c5; clear c5; by_cases c6 : (rd l0 x9_1) < 0
      ·rw [if_pos c6] at H; have c6b0 : decide ((rd l0 x9_1) < 0) = true := decide_eq_true c6; clear c6; obtain rfl := Option.some.inj H; have p150 : 0 ≤ (x9_1 : Int) := oD; have q150 : x9_1 < (l0.length : Int) := oD; obtain ⟨ad150, e150, hx150_0⟩ := Kd.at_int HR0.out x9_1 p150 q150; cases e150; replace p150 := eq_true p150; replace q150 := eq_true q150; go_wp2; go_ret; exact ⟨by first | rfl | (simp; done) | (simp [*]; done), by repeat (first | exact Drawn0.refl _ | apply Drawn0.step)⟩
      ·rw [if_neg c6] at H; have c6b0 : decide ((rd l0 x9_1) < 0) = false := decide_eq_false c6; clear c6; by_cases c7 : (rd l0 x9_1) ≥ a1
       ·rw [if_pos c7] at H; have c7b0 : decide (a1 ≤ (rd l0 x9_1)) = true := decide_eq_true c7; clear c7; obtain rfl := Option.some.inj H; have p150 : 0 ≤ (x9_1 : Int) := oD; have q150 : x9_1 < (l0.length : Int) := oD; obtain ⟨ad150, e150, hx150_0⟩ := Kd.at_int HR0.out x9_1 p150 q150; cases e150; replace p150 := eq_true p150; replace q150 := eq_true q150; go_wp2; go_ret; exact ⟨by first | rfl | (simp; done) | (simp [*]; done), by repeat (first | exact Drawn0.refl _ | apply Drawn0.step)⟩
       ·rw [if_neg c7] at H; have c7b0 : decide (a1 ≤ (rd l0 x9_1)) = false := decide_eq_false c7; clear c7; have H' := am H; clear H; have p150 : 0 ≤ (x9_1 : Int) := oD; have q150 : x9_1 < (l0.length : Int) := oD; obtain ⟨ad150, e150, hx150_0⟩ := Kd.at_int HR0.out x9_1 p150 q150; cases e150; replace p150 := eq_true p150; replace q150 := eq_true q150; go_wp2; go_roundg k1
        case measure => have := HK1.out; omega
        case rel => exact ⟨(wrap64 (x9_1 + 1)), (by first | rfl | (simp; done) | (simp [*]; done)), H', ⟨by have := HK1.out; omega⟩, by repeat (first | exact Drawn0.refl _ | apply Drawn0.step)⟩
     ·rw [if_neg c5] at H; exact absurd H (by simp)
    ·rw [if_neg c4] at H; exact absurd H (by simp)
   ·rw [if_neg c3] at H; have c3b0 : decide (x9_1 < (l0.length : Int)) = false := decide_eq_false c3; clear c3; obtain rfl := Option.some.inj H; go_wp2; go_ret; exact ⟨by first | rfl | (simp; done) | (simp [*]; done), by repeat (first | exact Drawn0.refl _ | apply Drawn0.step)⟩
mutual
def impl_IsMorphism.j0 : Nat → Int → Bool → List (List Int) → Option (Bool)
 | 0, _, _, _ => none
 | k + 1, x3, x14, x152000 => if x14 = true then (some false) else (impl_IsMorphism.l0 k x3 x152000 (x152000.length : Int) 0)
def impl_IsMorphism.l0 : Nat → Int → List (List Int) → Int → Int → Option (Bool)
 | 0, _, _, _, _ => none
 | k + 1, x3, x16, x17, x18 => if x18 < x17 then (if 0 ≤ x18 then (if x18 < (x16.length : Int) then (if ((rd_L1 x16 x18).length : Int) > 8 then (some false) else ((impl_areLetters.f k (rd_L1 x16 x18) x3).bind fun t153 => (if t153 = true then (impl_IsMorphism.l0 k x3 x16 x17 (wrap64 (x18 + 1))) else (some false)))) else (none)) else (none)) else (some true)
end
def impl_IsMorphism.f (k : Nat) (l0_0 : List (List Int)) : Option (Bool) := if (l0_0.length : Int) < 1 then (impl_IsMorphism.j0 k (l0_0.length : Int) true l0_0) else (impl_IsMorphism.j0 k (l0_0.length : Int) (decide ((l0_0.length : Int) > 16)) l0_0)
set_option maxHeartbeats 8000000 in
set_option maxRecDepth 100000 in
theorem impl_IsMorphism.calls (k : Nat) (A0_0 : Option Addr) (c0_0 : Nat) (l0_0 : List (List Int)) (r : Bool) (w : World) (hr0_0 : Kd.C (Kd.slice 3 (Kd.int .i64)) w A0_0 l0_0.length l0_0) (hc0_0 : l0_0.length ≤ c0_0) (h : impl_IsMorphism.f k l0_0 = some r) :
  Calls Try.prog 108 #[.agg #[.slice A0_0 l0_0.length c0_0]] w fun e w' => e = .returned (.bool r) ∧ Below w.heap.size w w' := by
 have hu28 := Try.underlying28; have HR0_0 := am hr0_0; have HC0_0 := am hc0_0; clear hr0_0 hc0_0; have HB := am (Below.refl w.heap.size w); have H : (if (l0_0.length : Int) < 1 then (impl_IsMorphism.j0 k (l0_0.length : Int) true l0_0) else (impl_IsMorphism.j0 k (l0_0.length : Int) (decide ((l0_0.length : Int) > 16)) l0_0)) = some r := h; clear h; have HC2 := am H; clear H; go_enter Try.func108, Try.ntmps108; go_upto_region 2 with (first | ((with_reducible refine gate_dst (N := 1) rfl ?_); refine box_event ?hg (N := 1) ?hd (cs := #[.slice A0_0 l0_0.length c0_0]) (t := 28) ?hr ?_; (case hd | hg => rfl); (case hr => go_simp <;> rfl); intro gb151 hg w3 hbox hb; have BK151 := am (hbox); have GW151 := am ((by rw [hg]; exact (bZ HB) : w.heap.size ≤ gb151)); have GE151 := am ((by rw [hg]; exact (bZ HB) : w.heap.size ≤ gb151)); replace HB := bS HB hb; have qW151 := Ge.mk GW151.out; have qE151 := Ge.mk GE151.out; clear hb hbox hg; have hcz4_0 := z10 BK151; have hfz4_0 := blk_frozen BK151.out 0)); (try simp only [Act.put, qa, qz, qs]); go_cut [14] (fun v14 wc => ∃ (kq : Nat) (x14_1 : Bool), v14 = .bool x14_1 ∧ Aside0 (impl_IsMorphism.j0 kq (l0_0.length : Int) x14_1 l0_0 = some r) ∧ Aside0 (kq ≤ k) ∧ Aside0 (wc.heap[gb151]? = some (.cells #[(.slice A0_0 l0_0.length c0_0)] 28 (0, 0))) ∧ Aside0 (Below w.heap.size w wc))
 case first =>
  have H := HC2.out; clear HC2; by_cases c5 : (l0_0.length : Int) < 1
  ·rw [if_pos c5] at H; have c5b0 : decide ((l0_0.length : Int) < 1) = true := decide_eq_true c5; have c5b1 : decide (l0_0.length < 1) = true := decide_eq_true (by omega); clear c5
   (first | rw [c5b0] | (simp only [i64_w, i32_w]; rw [c5b0]) | skip)
   have H' := am H; clear H; go_wp2; go_meet
   case rel => exact ⟨_, (true), (by first | rfl | (simp; done) | (simp [*]; done)), H', ⟨by first | omega | exact Nat.le_refl _⟩, ⟨by exact rX BK151⟩, ⟨by exact rB HB⟩⟩
  ·rw [if_neg c5] at H; have c5b0 : decide ((l0_0.length : Int) < 1) = false := decide_eq_false c5; have c5b1 : decide (l0_0.length < 1) = false := decide_eq_false (by omega); clear c5
   (first | rw [c5b0] | (simp only [i64_w, i32_w]; rw [c5b0]) | skip)
   have H' := am H; clear H; go_wp2; go_meet
   case rel => exact ⟨_, (decide ((l0_0.length : Int) > 16)), (by first | rfl | (simp; done) | (simp [*]; done)), H', ⟨by first | omega | exact Nat.le_refl _⟩, ⟨by exact rX BK151⟩, ⟨by exact rB HB⟩⟩
 case rest =>
  clear HC2
  try clear c1
  try clear p2
  try clear c5
  try clear c5b0
  try clear c5b1
  try clear hcz4_0
  try clear hfz4_0
  obtain ⟨kq, x14_1, rfl, HA, HJ1, BK151, HB⟩ := hcut; cases kq with
  | zero => exact absurd HA.out (by simp [impl_IsMorphism.j0])
  | succ kj1 =>
   have H := HA.out; clear HA; simp only [impl_IsMorphism.j0] at H; by_cases c6 : x14_1 = true
   ·subst c6; have H1 : (some false) = some r := by rw [if_pos rfl] at H; exact H
    clear H; have H := H1; clear H1; obtain rfl := Option.some.inj H; go_wp2; go_ret; exact ⟨by first | rfl | (simp [errW_none, errW_some] <;> rfl) | (simp [*, errW_none, errW_some] <;> rfl), by exact rB HB⟩
   ·replace c6 := Bool.eq_false_iff.mpr c6; subst c6; have H1 : (impl_IsMorphism.l0 kj1 (l0_0.length : Int) l0_0 (l0_0.length : Int) 0) = some r := by rw [if_neg (show ¬ (false = true) by decide)] at H; exact H
    clear H; have H := H1; clear H1; have H' := am H; clear H; have hcz7_0 := z10 BK151; have hfz7_0 := blk_frozen BK151.out 0; go_wp2; go_loopg [18] kj1 (fun kq v18 w' => ∃ (x18_2 : Int), v18 = .int .i64 x18_2 ∧ Aside0 (impl_IsMorphism.l0 kq (l0_0.length : Int) l0_0 (l0_0.length : Int) x18_2 = some r) ∧ Aside0 (kq ≤ kj1) ∧ Aside0 (w'.heap[gb151]? = some (.cells #[(.slice A0_0 l0_0.length c0_0)] 28 (0, 0))) ∧ Aside0 (Below w.heap.size w w'))
    case atStart => exact ⟨(0), (by first | rfl | (simp; done) | (simp [*]; done)), H', ⟨Nat.le_refl _⟩, ⟨by exact rX BK151⟩, ⟨by exact rB HB⟩⟩
    case round =>
     clear H'
     try clear c1
     try clear p2
     try clear c5
     try clear c5b0
     try clear c5b1
     try clear c6
     try clear hcz4_0
     try clear hcz7_0
     try clear hfz4_0
     try clear hfz7_0
     try clear p2
     obtain ⟨x18_2, rfl, HA, HK2, BK151, HB⟩ := hrel; cases gk with
     | zero => exact absurd HA.out (by simp [impl_IsMorphism.l0])
     | succ k2 =>
      have H := HA.out; clear HA; simp only [impl_IsMorphism.l0] at H; by_cases c8 : x18_2 < (l0_0.length : Int)
      ·rw [if_pos c8] at H; have c8b0 : decide (x18_2 < (l0_0.length : Int)) = true := decide_eq_true c8; clear c8; by_cases c9 : 0 ≤ x18_2
       ·rw [if_pos c9] at H; have c9b0 : decide (0 ≤ x18_2) = true := decide_eq_true c9; clear c9; by_cases c10 : x18_2 < (l0_0.length : Int)
        ·rw [if_pos c10] at H; have c10b0 : decide (x18_2 < (l0_0.length : Int)) = true := decide_eq_true c10; clear c10; by_cases c11 : ((rd_L1 l0_0 x18_2).length : Int) > 8
         ·rw [if_pos c11] at H; have c11b0 : decide (8 < ((rd_L1 l0_0 x18_2).length : Int)) = true := decide_eq_true c11; have c11b1 : decide (8 < (rd_L1 l0_0 x18_2).length) = true := decide_eq_true (by omega); clear c11; obtain rfl := Option.some.inj H; have p152 : 0 ≤ (x18_2 : Int) := oD; have q152 : x18_2 < (l0_0.length : Int) := oD; obtain ⟨ad152, A152_0, c152_0, e152, hx152_0, hl152_0, hi152_0⟩ := at_L1 HR0_0.out x18_2 p152 q152; cases e152; replace hx152_0 := (HB.out.cell (World.block_lt_of_cell? w _ hx152_0)).trans hx152_0; have HR152_0 := am hi152_0; have HC152_0 := am hl152_0; clear hi152_0 hl152_0; replace p152 := eq_true p152; replace q152 := eq_true q152; go_wp2; go_ret; exact ⟨by first | rfl | (simp [errW_none, errW_some] <;> rfl) | (simp [*, errW_none, errW_some] <;> rfl), by exact rB HB⟩
         ·rw [if_neg c11] at H; have c11b0 : decide (8 < ((rd_L1 l0_0 x18_2).length : Int)) = false := decide_eq_false c11; have c11b1 : decide (8 < (rd_L1 l0_0 x18_2).length) = false := decide_eq_false (by omega); clear c11; replace H := bE H; obtain ⟨t153, A120, H⟩ := H; replace H : (if t153 = true then (impl_IsMorphism.l0 k2 (l0_0.length : Int) l0_0 (l0_0.length : Int) (wrap64 (x18_2 + 1))) else (some false)) = some r := H; have A12 := am A120; clear A120; by_cases c13 : t153 = true
          ·subst c13; have H1 : (impl_IsMorphism.l0 k2 (l0_0.length : Int) l0_0 (l0_0.length : Int) (wrap64 (x18_2 + 1))) = some r := by rw [if_pos rfl] at H; exact H
           clear H; have H := H1; clear H1; have H' := am H; clear H; have p152 : 0 ≤ (x18_2 : Int) := oD; have q152 : x18_2 < (l0_0.length : Int) := oD; obtain ⟨ad152, A152_0, c152_0, e152, hx152_0, hl152_0, hi152_0⟩ := at_L1 HR0_0.out x18_2 p152 q152; cases e152; replace hx152_0 := (HB.out.cell (World.block_lt_of_cell? w _ hx152_0)).trans hx152_0; have HR152_0 := am hi152_0; have HC152_0 := am hl152_0; clear hi152_0 hl152_0; replace p152 := eq_true p152; replace q152 := eq_true q152; go_wp2_with (first | (go_at_call 159; (with_reducible refine (impl_areLetters.calls k2 _ _ (rd_L1 l0_0 x18_2) (l0_0.length : Int) true _ ?side1 ?side2 A12.out).mono ?_); (case side1 => exact xC ((Kd.C_below HR152_0.out HB.out))); (case side2 => exact HC152_0.out); rintro e w' ⟨rfl, ⟨nd, rfl⟩⟩)); go_roundg k2
           case measure => have := HJ1.out; have := HK2.out; omega
           case rel => exact ⟨(wrap64 (x18_2 + 1)), (by first | rfl | (simp; done) | (simp [*]; done)), H', ⟨by have := HJ1.out; have := HK2.out; omega⟩, ⟨by exact rX BK151⟩, ⟨by exact rB HB⟩⟩
          ·replace c13 := Bool.eq_false_iff.mpr c13; subst c13; have H1 : (some false) = some r := by rw [if_neg (show ¬ (false = true) by decide)] at H; exact H
           clear H; have H := H1; clear H1; obtain rfl := Option.some.inj H; have p152 : 0 ≤ (x18_2 : Int) := oD; have q152 : x18_2 < (l0_0.length : Int) := oD; obtain ⟨ad152, A152_0, c152_0, e152, hx152_0, hl152_0, hi152_0⟩ := at_L1 HR0_0.out x18_2 p152 q152; cases e152; replace hx152_0 := (HB.out.cell (World.block_lt_of_cell? w _ hx152_0)).trans hx152_0; have HR152_0 := am hi152_0; have HC152_0 := am hl152_0; clear hi152_0 hl152_0; replace p152 := eq_true p152; replace q152 := eq_true q152; go_wp2_with (first | (go_at_call 159; (with_reducible refine (impl_areLetters.calls k2 _ _ (rd_L1 l0_0 x18_2) (l0_0.length : Int) false _ ?side1 ?side2 A12.out).mono ?_); (case side1 => exact xC ((Kd.C_below HR152_0.out HB.out))); (case side2 => exact HC152_0.out); rintro e w' ⟨rfl, ⟨nd, rfl⟩⟩)); go_ret; exact ⟨by first | rfl | (simp [errW_none, errW_some] <;> rfl) | (simp [*, errW_none, errW_some] <;> rfl), by exact rB HB⟩
        ·rw [if_neg c10] at H; exact absurd H (by simp)
       ·rw [if_neg c9] at H; exact absurd H (by simp)
      ·rw [if_neg c8] at H; have c8b0 : decide (x18_2 < (l0_0.length : Int)) = false := decide_eq_false c8; clear c8; obtain rfl := Option.some.inj H; go_wp2; go_ret; exact ⟨by first | rfl | (simp [errW_none, errW_some] <;> rfl) | (simp [*, errW_none, errW_some] <;> rfl), by exact rB HB⟩
mutual
def impl_IncidenceOf.l0 : Nat → List (List Int) → List (List Int) → Int → Int → List (List Int) → Option ((List (List Int)) × Bool)
 | 0, _, _, _, _, _ => none
 | k + 1, x4, x16, x17, x18, x155000 => if x18 < x17 then (if 0 ≤ x18 then (if x18 < (x16.length : Int) then (if 0 ≤ (x155000.length : Int) then (if ((x155000.length : Int) : Int).toNat ≤ 35184372088832 then (impl_IncidenceOf.l1 k x4 (List.replicate ((x155000.length : Int) : Int).toNat 0) x16 x17 x18 (rd_L1 x16 x18) ((rd_L1 x16 x18).length : Int) 0 x155000) else (none)) else (none)) else (none)) else (none)) else (some (x4, true))
def impl_IncidenceOf.l1 : Nat → List (List Int) → List Int → List (List Int) → Int → Int → List Int → Int → Int → List (List Int) → Option ((List (List Int)) × Bool)
 | 0, _, _, _, _, _, _, _, _, _ => none
 | k + 1, x4, x7, x16, x17, x18, x26, x27, x28, x155000 => if x28 < x27 then (if 0 ≤ x28 then (if x28 < (x26.length : Int) then (if 0 ≤ (rd x26 x28) then (if (rd x26 x28) < (x7.length : Int) then (impl_IncidenceOf.l1 k x4 (x7.set ((rd x26 x28) : Int).toNat (wrap64 ((rd x7 (rd x26 x28)) + 1))) x16 x17 x18 x26 x27 (wrap64 (x28 + 1)) x155000) else (none)) else (none)) else (none)) else (none)) else (if x4.length < 5864062014805 then (impl_IncidenceOf.l0 k (x4 ++ [x7]) x16 x17 (wrap64 (x18 + 1)) x155000) else (none))
end
def impl_IncidenceOf.f (k : Nat) (l0_0 : List (List Int)) : Option ((List (List Int)) × Bool) := (some (([] : List (List Int)) : List (List Int))).bind fun y155 => ((impl_IsMorphism.f k l0_0).bind fun t158 => (if t158 = true then (impl_IncidenceOf.l0 k y155 l0_0 (l0_0.length : Int) 0 l0_0) else (some (y155, false))))
set_option maxHeartbeats 8000000 in
set_option maxRecDepth 100000 in
theorem impl_IncidenceOf.calls (k : Nat) (A0_0 : Option Addr) (c0_0 : Nat) (l0_0 : List (List Int)) (r1 : List (List Int)) (r2 : Bool) (w : World) (hr0_0 : Kd.C (Kd.slice 3 (Kd.int .i64)) w A0_0 l0_0.length l0_0) (hc0_0 : l0_0.length ≤ c0_0) (h : impl_IncidenceOf.f k l0_0 = some (r1, r2)) :
  Calls Try.prog 18 #[.agg #[.slice A0_0 l0_0.length c0_0]] w fun e w' => ∃ v0_ : Value, e = .returned (.tuple #[v0_, .bool r2]) ∧ Kd.S (Kd.slice 3 (Kd.int .i64)) 36 w' w.heap.size (fun _ => True) v0_ r1 ∧ Below w.heap.size w w' := by
 have hu28 := Try.underlying28; have HR0_0 := am hr0_0; have HC0_0 := am hc0_0; clear hr0_0 hc0_0; have HB := am (Below.refl w.heap.size w); have H : ((some (([] : List (List Int)) : List (List Int))).bind fun y155 => ((impl_IsMorphism.f k l0_0).bind fun t158 => (if t158 = true then (impl_IncidenceOf.l0 k y155 l0_0 (l0_0.length : Int) 0 l0_0) else (some (y155, false))))) = some (r1, r2) := h; clear h; obtain ⟨y155, hy155⟩ : ∃ y_ : List (List Int), y_ = (([] : List (List Int))) := ⟨_, rfl⟩; replace H : ((impl_IsMorphism.f k l0_0).bind fun t158 => (if t158 = true then (impl_IncidenceOf.l0 k y155 l0_0 (l0_0.length : Int) 0 l0_0) else (some (y155, false)))) = some (r1, r2) := by rw [hy155]; first | exact H | exact (Option.bind_some _ _).symm.trans H
 have Ny155 := am hy155; clear hy155; replace H := bE H; obtain ⟨t158, A20, H⟩ := H; replace H : (if t158 = true then (impl_IncidenceOf.l0 k y155 l0_0 (l0_0.length : Int) 0 l0_0) else (some (y155, false))) = some (r1, r2) := H; have A2 := am A20; clear A20; by_cases c3 : t158 = true
 ·subst c3; have H1 : (impl_IncidenceOf.l0 k y155 l0_0 (l0_0.length : Int) 0 l0_0) = some (r1, r2) := by rw [if_pos rfl] at H; exact H
  clear H; have H := H1; clear H1; have H' := am H; clear H; go_enter Try.func18, Try.ntmps18; go_wp2_with (first | ((with_reducible refine gate_dst (N := 1) rfl ?_); refine box_event ?hg (N := 1) ?hd (cs := #[.slice A0_0 l0_0.length c0_0]) (t := 28) ?hr ?_; (case hd | hg => rfl); (case hr => go_simp <;> rfl); intro gb154 hg w4 hbox hb; have BK154 := am (hbox); have GW154 := am ((by rw [hg]; exact (bZ HB) : w.heap.size ≤ gb154)); have GE154 := am ((by rw [hg]; exact (bZ HB) : w.heap.size ≤ gb154)); replace HB := bS HB hb; have qW154 := Ge.mk GW154.out; have qE154 := Ge.mk GE154.out; clear hb hbox hg) | ((with_reducible refine gate_dst (N := 10) rfl ?_); refine Kd.S_lit (Kd.slice 3 (Kd.int .i64)) _ 36 ?hg (N := 10) ?hd (xs := ([] : List (List Int))) (inner := []) (ok := fun _ => True) (okp := fun _ => True) ?hr ?hp (fun _ hk => hk) trivial (Below.refl _ _) (Nat.le_refl _) (by simp) ?_; (case hd | hg => rfl); (case hr => go_simp <;> rfl); (case hp => exact (Reps.none _ _)); intro v156 w5 ho6 hb hg_ hnew_; clear hg_ hnew_; (first | rw [← Ny155.out] at ho6 | (simp only [Int.reduceToNat] at ho6; rw [← Ny155.out] at ho6)); have HO157 := am (Kd.S_lower ho6 (bZ HB)); replace BK154 := bK BK154 hb; replace HB := bS HB hb; clear hb ho6; have hcz7_0 := z10 BK154; have hfz7_0 := blk_frozen BK154.out 0) | ((with_reducible refine gate_callee (f := 108) rfl ?_); refine goesL_ (some 12) rfl rfl Try.func108 (by kernel_rfl) rfl #[.agg #[.slice A0_0 l0_0.length c0_0]] rfl (by (try simp only [mT, mC, mN]); first | done | rfl) ?_; (with_reducible refine (impl_IsMorphism.calls k _ _ l0_0 true _ ?side1 ?side2 A2.out).mono ?_); (case side1 => exact xC ((Kd.C_below HR0_0.out HB.out))); (case side2 => exact HC0_0.out); rintro e w8 ⟨rfl, hb⟩; refine ⟨_, rfl, ?_⟩; replace HO157 := am (Kd.S_below (by exact rS HO157) hb); replace BK154 := bK BK154 hb; replace HB := bS HB hb; clear hb; have hcz9_0 := z10 BK154; have hfz9_0 := blk_frozen BK154.out 0)); go_loopg [4, 18] k (fun kq v4 v18 w' => ∃ (x4_1 : List (List Int)) (x18_1 : Int), v18 = .int .i64 x18_1 ∧ Aside0 (impl_IncidenceOf.l0 kq x4_1 l0_0 (l0_0.length : Int) x18_1 l0_0 = some (r1, r2)) ∧ Aside0 (kq ≤ k) ∧ Aside0 (Kd.S (Kd.slice 3 (Kd.int .i64)) 36 w' w.heap.size (fun _ => True) v4 x4_1) ∧ Aside0 (w'.heap[gb154]? = some (.cells #[(.slice A0_0 l0_0.length c0_0)] 28 (0, 0))) ∧ Aside0 (Below w.heap.size w w'))
  case atStart => exact ⟨(y155), (0), (by first | rfl | (simp; done) | (simp [*]; done)), H', ⟨Nat.le_refl _⟩, ⟨by exact rS HO157⟩, ⟨by exact rX BK154⟩, ⟨by exact rB HB⟩⟩
  case round =>
   clear H'
   try clear c1
   try clear p2
   try clear c3
   try clear hcz7_0
   try clear hcz9_0
   try clear hfz7_0
   try clear hfz9_0
   obtain ⟨x4_1, x18_1, rfl, HA, HK1, HO_4, BK154, HB⟩ := hrel; cases gk with
   | zero => exact absurd HA.out (by simp [impl_IncidenceOf.l0])
   | succ k1 =>
    have H := HA.out; clear HA; simp only [impl_IncidenceOf.l0] at H; by_cases c10 : x18_1 < (l0_0.length : Int)
    ·rw [if_pos c10] at H; have c10b0 : decide (x18_1 < (l0_0.length : Int)) = true := decide_eq_true c10; clear c10; by_cases c11 : 0 ≤ x18_1
     ·rw [if_pos c11] at H; have c11b0 : decide (0 ≤ x18_1) = true := decide_eq_true c11; clear c11; by_cases c12 : x18_1 < (l0_0.length : Int)
      ·rw [if_pos c12] at H; have c12b0 : decide (x18_1 < (l0_0.length : Int)) = true := decide_eq_true c12; clear c12; by_cases c13 : 0 ≤ (l0_0.length : Int)
       ·rw [if_pos c13] at H; have c13b0 := eq_true c13; have c13b1 : decide (0 ≤ (l0_0.length : Int)) = true := decide_eq_true c13; clear c13; by_cases c14 : ((l0_0.length : Int) : Int).toNat ≤ 35184372088832
        ·rw [if_pos c14] at H; have c14b0 := eq_true c14; have c14b1 : decide (((l0_0.length : Int) : Int).toNat ≤ 35184372088832) = true := decide_eq_true c14; clear c14; obtain ⟨y160, hy160⟩ : ∃ y_ : List Int, y_ = (List.replicate ((l0_0.length : Int) : Int).toNat 0) := ⟨_, rfl⟩; replace H : (impl_IncidenceOf.l1 k1 x4_1 y160 l0_0 (l0_0.length : Int) x18_1 (rd_L1 l0_0 x18_1) ((rd_L1 l0_0 x18_1).length : Int) 0 l0_0) = some (r1, r2) := by rw [hy160]; first | exact H | exact (Option.bind_some _ _).symm.trans H
         have Ny160 := am hy160; clear hy160; have H' := am H; clear H; have p159 : 0 ≤ (x18_1 : Int) := oD; have q159 : x18_1 < (l0_0.length : Int) := oD; obtain ⟨ad159, A159_0, c159_0, e159, hx159_0, hl159_0, hi159_0⟩ := at_L1 HR0_0.out x18_1 p159 q159; cases e159; replace hx159_0 := (HB.out.cell (World.block_lt_of_cell? w _ hx159_0)).trans hx159_0; have HR159_0 := am hi159_0; have HC159_0 := am hl159_0; clear hi159_0 hl159_0; replace p159 := eq_true p159; replace q159 := eq_true q159; have hcz15_0 := z10 BK154; have hfz15_0 := blk_frozen BK154.out 0; go_wp2_with (first | ((with_reducible refine gate_dst (N := 25) rfl ?_); refine Kd.R_make (Kd.int .i64) _ 3 rfl (N := 25) rfl 36 _ _ rfl (l0_0.length : Int) rfl rfl Try.underlying36 (.int .i64 0) 8 info3 rfl (by decide) (by omega) 0 (ok := fun _ => True) (okp := fun _ => True) rfl (fun _ hk => hk) trivial (oD) (Nat.le_trans (Nat.mul_le_mul_right _ (oD : (l0_0.length : Int).toNat ≤ 35184372088832)) (by omega)) (Below.refl _ _) (Nat.le_refl _) ?_; intro v161 w16 ho17 hb hg_ hnew_; clear hg_ hnew_; (first | rw [← Ny160.out] at ho17 | (simp only [Int.reduceToNat] at ho17; rw [← Ny160.out] at ho17)); replace HO_4 := am (Kd.S_elder' (by exact rS HO_4) (Kd.R_base ho17) hb); have HO162 := am (Kd.R_lower ho17 (bZ HB)); replace BK154 := bK BK154 hb; replace HB := bS HB hb; clear hb ho17)); go_loopg [28] k1 (fun kq v28 w' => ∃ (x7_2 : List Int) (x28_2 : Int), v28 = .int .i64 x28_2 ∧ Aside0 (impl_IncidenceOf.l1 kq x4_1 x7_2 l0_0 (l0_0.length : Int) x18_1 (rd_L1 l0_0 x18_1) ((rd_L1 l0_0 x18_1).length : Int) x28_2 l0_0 = some (r1, r2)) ∧ Aside0 (kq ≤ k1) ∧ Aside0 (Kd.S (Kd.slice 3 (Kd.int .i64)) 36 w' w.heap.size (fun k_ => some k_ ≠ (v161 : Value).ownBlock) u4 x4_1) ∧ Aside0 (Kd.R (Kd.int .i64) 3 w' w.heap.size (fun _ => True) v161 x7_2) ∧ Aside0 (w'.heap[gb154]? = some (.cells #[(.slice (some ad159) l0_0.length c0_0)] 28 (0, 0))) ∧ Aside0 (Below w.heap.size w w'))
         case atStart => exact ⟨(y160), (0), (by first | rfl | (simp; done) | (simp [*]; done)), H', ⟨Nat.le_refl _⟩, ⟨by exact xS (Kd.S_mono HO_4.out (fun _ hk => hk.2))⟩, ⟨by exact rR HO162⟩, ⟨by exact rX BK154⟩, ⟨by exact rB HB⟩⟩
         case round =>
          clear H'
          try clear c1
          try clear p1
          try clear q1
          try clear hx1
          try clear p2
          try clear c3
          try clear c10
          try clear c10b0
          try clear c11
          try clear c11b0
          try clear c12
          try clear c12b0
          try clear c13
          try clear c13b0
          try clear c13b1
          try clear c14
          try clear c14b0
          try clear c14b1
          try clear c15
          try clear p15
          try clear q15
          try clear hx15
          try clear hcz15_0
          try clear hcz7_0
          try clear hcz9_0
          try clear hfz15_0
          try clear hfz7_0
          try clear hfz9_0
          try clear hx159_0
          try clear p159
          try clear p2
          try clear q159
          obtain ⟨x7_2, x28_2, rfl, HA, HK2, HO_4, HO_7, BK154, HB⟩ := hrel; cases gk with
          | zero => exact absurd HA.out (by simp [impl_IncidenceOf.l1])
          | succ k2 =>
           have H := HA.out; clear HA; simp only [impl_IncidenceOf.l1] at H; by_cases c18 : x28_2 < ((rd_L1 l0_0 x18_1).length : Int)
           ·rw [if_pos c18] at H; have c18b0 : decide (x28_2 < ((rd_L1 l0_0 x18_1).length : Int)) = true := decide_eq_true c18; clear c18; by_cases c19 : 0 ≤ x28_2
            ·rw [if_pos c19] at H; have c19b0 : decide (0 ≤ x28_2) = true := decide_eq_true c19; clear c19; by_cases c20 : x28_2 < ((rd_L1 l0_0 x18_1).length : Int)
             ·rw [if_pos c20] at H; have c20b0 : decide (x28_2 < ((rd_L1 l0_0 x18_1).length : Int)) = true := decide_eq_true c20; clear c20; by_cases c21 : 0 ≤ (rd (rd_L1 l0_0 x18_1) x28_2)
              ·rw [if_pos c21] at H; have c21b0 : decide (0 ≤ (rd (rd_L1 l0_0 x18_1) x28_2)) = true := decide_eq_true c21; clear c21; by_cases c22 : (rd (rd_L1 l0_0 x18_1) x28_2) < (x7_2.length : Int)
               ·rw [if_pos c22] at H; have c22b0 : decide ((rd (rd_L1 l0_0 x18_1) x28_2) < (x7_2.length : Int)) = true := decide_eq_true c22; clear c22; obtain ⟨y165, hy165⟩ : ∃ y_ : List Int, y_ = (x7_2.set ((rd (rd_L1 l0_0 x18_1) x28_2) : Int).toNat (wrap64 ((rd x7_2 (rd (rd_L1 l0_0 x18_1) x28_2)) + 1))) := ⟨_, rfl⟩; replace H : (impl_IncidenceOf.l1 k2 x4_1 y165 l0_0 (l0_0.length : Int) x18_1 (rd_L1 l0_0 x18_1) ((rd_L1 l0_0 x18_1).length : Int) (wrap64 (x28_2 + 1)) l0_0) = some (r1, r2) := by rw [hy165]; first | exact H | exact (Option.bind_some _ _).symm.trans H
                have Ny165 := am hy165; clear hy165; have H' := am H; clear H; have p163 : 0 ≤ (x28_2 : Int) := oD; have q163 : x28_2 < ((rd_L1 l0_0 x18_1).length : Int) := oD; obtain ⟨ad163, e163, hx163_0⟩ := Kd.at_int HR159_0.out x28_2 p163 q163; cases e163; replace hx163_0 := (HB.out.cell (World.block_lt_of_cell? w _ hx163_0)).trans hx163_0; replace p163 := eq_true p163; replace q163 := eq_true q163; obtain ⟨Ao24, co24, eo24⟩ := Kd.R_slice HO_7.out; subst eo24; have p164 : 0 ≤ ((rd (rd_L1 l0_0 x18_1) x28_2) : Int) := oD; have q164 : (rd (rd_L1 l0_0 x18_1) x28_2) < (x7_2.length : Int) := oD; obtain ⟨ad164, e164, hx164_0⟩ := Kd.at_int (Kd.R_reads' HO_7.out).2.2 (rd (rd_L1 l0_0 x18_1) x28_2) p164 q164; cases e164; replace p164 := eq_true p164; replace q164 := eq_true q164; have p23 : 0 ≤ ((rd (rd_L1 l0_0 x18_1) x28_2) : Int) := oD; have q23 : ((rd (rd_L1 l0_0 x18_1) x28_2) : Int) < ((x7_2.length : Int) : Int) := oD; obtain ⟨go23, co23, eo23, gb23, gl23, cl23, HG23⟩ := Kd.R_form HO_7.out (by omega)
                (first | cases eo23 | (injection eo23 with ea_ en_ ec_; (first | subst ea_ | (injection ea_ with ea_; subst ea_)); subst ec_; clear en_))
                have GB23 := am gb23; have GG23 := am HG23; clear gb23 gl23 HG23
                (first | simp only [add_plain] at hx164_0 | skip)
                obtain ⟨hx23_0, hf23_0⟩ := Kd.R_celln 0 HO_7.out ((rd (rd_L1 l0_0 x18_1) x28_2) : Int) p23 q23; replace p23 := eq_true p23; replace q23 := eq_true q23; have HP25 := Kd.R_putg HO_7.out ((rd (rd_L1 l0_0 x18_1) x28_2) : Int) (wrap64 ((rd x7_2 (rd (rd_L1 l0_0 x18_1) x28_2)) + 1)); go_wp2_with (first | ((with_reducible refine gate_store (t := 3) (p := 37) rfl ?_); refine store_event (t := 3) (p := 37) (v := ?vo_w26) (w1 := (wr.setCell ⟨go23, ((rd (rd_L1 l0_0 x18_1) x28_2) : Int).toNat, none⟩ (.int .i64 (wrap64 ((rd x7_2 (rd (rd_L1 l0_0 x18_1) x28_2)) + 1))))) ?hg ?ho ?hn ?hr ?_; (case ho => rfl); (case hg => rfl); (case hn => rfl); (case hr => go_simp <;> rfl); intro w26 hw; have hg : wr.grownBy w26 (some go23) := (by rw [hw]; exact HP25.2); have hp_ : Kd.R (Kd.int .i64) 3 w26 w.heap.size (fun _ => True) (.slice (some ⟨go23, 0, none⟩) x7_2.length co24) y165 := (by rw [hw, Ny165.out]; exact HP25.1); clear HP25; replace HO_4 := am (Kd.S_after (v := (.slice (some ⟨go23, 0, none⟩) x7_2.length co24)) (v1 := (.slice (some ⟨go23, 0, none⟩) x7_2.length co24)) (ok := (fun _ => True)) (by exact xS (Kd.S_mono HO_4.out (fun _ hk => ⟨trivial, hk⟩))) hg (.inl rfl)); replace BK154 := am (blk_grown (g := gb154) (o := .cells #[.slice (some ad159) l0_0.length c0_0] 28 (0, 0)) (by exact rX BK154) hg (Kd.R_ne HO_7.out BK154.out (by decide))); replace HO_7 := am (hp_); replace HB := am ((by rw [hw]; exact below_set (HB.out) GB23.out : Below w.heap.size w w26)); clear hg hw hp_)); go_roundg k2
                case measure => have := HK1.out; have := HK2.out; omega
                case rel => exact ⟨(y165), (wrap64 (x28_2 + 1)), (by first | rfl | (simp; done) | (simp [*]; done)), H', ⟨by have := HK1.out; have := HK2.out; omega⟩, ⟨by exact xS (Kd.S_mono HO_4.out (fun _ hk => hk.2))⟩, ⟨by exact rR HO_7⟩, ⟨by exact rX BK154⟩, ⟨by exact rB HB⟩⟩
               ·rw [if_neg c22] at H; exact absurd H (by simp)
              ·rw [if_neg c21] at H; exact absurd H (by simp)
             ·rw [if_neg c20] at H; exact absurd H (by simp)
            ·rw [if_neg c19] at H; exact absurd H (by simp)
           ·rw [if_neg c18] at H; have c18b0 : decide (x28_2 < ((rd_L1 l0_0 x18_1).length : Int)) = false := decide_eq_false c18; clear c18; by_cases c27 : x4_1.length < 5864062014805
            ·rw [if_pos c27] at H; have LMc27 := am c27; clear c27; obtain ⟨y166, hy166⟩ : ∃ y_ : List (List Int), y_ = (x4_1 ++ [x7_2]) := ⟨_, rfl⟩; replace H : (impl_IncidenceOf.l0 k2 y166 l0_0 (l0_0.length : Int) (wrap64 (x18_1 + 1)) l0_0) = some (r1, r2) := by rw [hy166]; first | exact H | exact (Option.bind_some _ _).symm.trans H
             have Ny166 := am hy166; clear hy166; have H' := am H; clear H; obtain ⟨Ao29, co29, eo29⟩ := Kd.R_slice HO_7.out; subst eo29; go_wp2_with (first | ((with_reducible refine gate_builtin (b := .append) (xs := #[.tmp 39, .tmp 41]) rfl ?_); at_builtin; refine Kd.S_append (Kd.slice 3 (Kd.int .i64)) (w0 := w) w.heap.size rfl (.tmp 39) (.tmp 41) 22 36 (.slice none 0 0) 24 rfl Try.underlying22 info36 rfl (by decide) (by omega) u4 x4_1 x7_2 [.slice Ao29 x7_2.length co29] (fun _ => True) (fun k_ => some k_ = (.slice Ao29 x7_2.length co29 : Value).ownBlock) rfl rfl ?aP (fun k_ hk_ => ((Kd.R_mono (ok' := fun k_ => ((fun _ => True)) k_ ∧ some k_ ≠ (u4 : Value).ownBlock) (Kd.R_apart' (HO_7.out) (Kd.S_typed HO_4.out) (by decide)) (fun k_ hk => ⟨trivial, hk.2⟩))).1 k_ hk_.symm) ?aF ?aO ?aB ?aS ?aL ?_; (case aP => exact Kd.M_row (Kd.R_mono (Kd.R_tight rfl (Kd.R_mono (ok' := fun k_ => ((fun _ => True)) k_ ∧ some k_ ≠ (u4 : Value).ownBlock) (Kd.R_apart' (HO_7.out) (Kd.S_typed HO_4.out) (by decide)) (fun k_ hk => ⟨trivial, hk.2⟩))) (fun _ h_ => h_))); (case aB => exact (by exact rB HB)); (case aF => exact (fun _ _ => trivial)); (case aO => exact (by exact xS (Kd.S_mono HO_4.out (fun k_ hk => ⟨trivial, fun e_ => hk e_⟩)))); (case aS => exact (bZ HB)); (case aL => have := LMc27.out; omega); intro v167 w28 ho hb hg hat; rw [← Ny166.out] at ho; replace BK154 := am (blk_grown (g := gb154) (o := .cells #[.slice (some ad159) l0_0.length c0_0] 28 (0, 0)) (by exact rX BK154) hg (Kd.S_ne HO_4.out BK154.out (by decide))); replace HB := am (hb); have HO168 := am (ho); clear HO_4 HO_7; clear ho hb hg hat)); go_roundg k2
             case measure => have := HK1.out; have := HK2.out; omega
             case rel => exact ⟨(y166), (wrap64 (x18_1 + 1)), (by first | rfl | (simp; done) | (simp [*]; done)), H', ⟨by have := HK1.out; have := HK2.out; omega⟩, ⟨by exact rS HO168⟩, ⟨by exact rX BK154⟩, ⟨by exact rB HB⟩⟩
            ·rw [if_neg c27] at H; exact absurd H (by simp)
        ·rw [if_neg c14] at H; exact absurd H (by simp)
       ·rw [if_neg c13] at H; exact absurd H (by simp)
      ·rw [if_neg c12] at H; exact absurd H (by simp)
     ·rw [if_neg c11] at H; exact absurd H (by simp)
    ·rw [if_neg c10] at H; have c10b0 : decide (x18_1 < (l0_0.length : Int)) = false := decide_eq_false c10; clear c10; simp only [Option.some.injEq, Prod.mk.injEq] at H; obtain ⟨rfl, rfl⟩ := H; go_wp2; go_ret2; exact ⟨_, by first | rfl | (simp [errW_none, errW_some] <;> rfl) | (simp [*, errW_none, errW_some] <;> rfl), by exact rS HO_4, by exact rB HB⟩
 ·replace c3 := Bool.eq_false_iff.mpr c3; subst c3; have H1 : (some (y155, false)) = some (r1, r2) := by rw [if_neg (show ¬ (false = true) by decide)] at H; exact H
  clear H; have H := H1; clear H1; simp only [Option.some.injEq, Prod.mk.injEq] at H; obtain ⟨rfl, rfl⟩ := H; go_enter Try.func18, Try.ntmps18; go_wp2_with (first | ((with_reducible refine gate_dst (N := 1) rfl ?_); refine box_event ?hg (N := 1) ?hd (cs := #[.slice A0_0 l0_0.length c0_0]) (t := 28) ?hr ?_; (case hd | hg => rfl); (case hr => go_simp <;> rfl); intro gb154 hg w30 hbox hb; have BK154 := am (hbox); have GW154 := am ((by rw [hg]; exact (bZ HB) : w.heap.size ≤ gb154)); have GE154 := am ((by rw [hg]; exact (bZ HB) : w.heap.size ≤ gb154)); replace HB := bS HB hb; have qW154 := Ge.mk GW154.out; have qE154 := Ge.mk GE154.out; clear hb hbox hg) | ((with_reducible refine gate_dst (N := 10) rfl ?_); refine Kd.S_lit (Kd.slice 3 (Kd.int .i64)) _ 36 ?hg (N := 10) ?hd (xs := ([] : List (List Int))) (inner := []) (ok := fun _ => True) (okp := fun _ => True) ?hr ?hp (fun _ hk => hk) trivial (Below.refl _ _) (Nat.le_refl _) (by simp) ?_; (case hd | hg => rfl); (case hr => go_simp <;> rfl); (case hp => exact (Reps.none _ _)); intro v156 w31 ho32 hb hg_ hnew_; clear hg_ hnew_; (first | rw [← Ny155.out] at ho32 | (simp only [Int.reduceToNat] at ho32; rw [← Ny155.out] at ho32)); have HO157 := am (Kd.S_lower ho32 (bZ HB)); replace BK154 := bK BK154 hb; replace HB := bS HB hb; clear hb ho32; have hcz33_0 := z10 BK154; have hfz33_0 := blk_frozen BK154.out 0) | ((with_reducible refine gate_callee (f := 108) rfl ?_); refine goesL_ (some 12) rfl rfl Try.func108 (by kernel_rfl) rfl #[.agg #[.slice A0_0 l0_0.length c0_0]] rfl (by (try simp only [mT, mC, mN]); first | done | rfl) ?_; (with_reducible refine (impl_IsMorphism.calls k _ _ l0_0 false _ ?side1 ?side2 A2.out).mono ?_); (case side1 => exact xC ((Kd.C_below HR0_0.out HB.out))); (case side2 => exact HC0_0.out); rintro e w34 ⟨rfl, hb⟩; refine ⟨_, rfl, ?_⟩; replace HO157 := am (Kd.S_below (by exact rS HO157) hb); replace BK154 := bK BK154 hb; replace HB := bS HB hb; clear hb)); go_ret2; exact ⟨_, by first | rfl | (simp [errW_none, errW_some] <;> rfl) | (simp [*, errW_none, errW_some] <;> rfl), by exact rS HO157, by exact rB HB⟩
def spec_l4Has.l0 : Nat → List Int → Int → Int → Option (Bool)
 | 0, _, _, _ => none
 | k + 1, x0, x1, x5 => if x5 < (x0.length : Int) then (if 0 ≤ x5 then (if (rd x0 x5) = x1 then (some true) else (spec_l4Has.l0 k x0 x1 (wrap64 (x5 + 1)))) else (none)) else (some false)
def spec_l4Has.f (k : Nat) (l0 : List Int) (a1 : Int) : Option (Bool) := spec_l4Has.l0 k l0 a1 0
set_option maxHeartbeats 8000000 in
set_option maxRecDepth 100000 in
theorem spec_l4Has.calls (k : Nat) (A0 : Option Addr) (c0 : Nat) (l0 : List Int) (a1 : Int) (r : Bool) (w : World) (hr0 : Kd.C (Kd.int .i64) w A0 l0.length l0) (hc0 : l0.length ≤ c0) (h : spec_l4Has.f k l0 a1 = some r) :
  Calls Try.prog 113 #[.slice A0 l0.length c0, .int .i64 a1] w fun e w' => e = .returned (.bool r) ∧ Drawn0 w w' := by
 have HR0 := am hr0; have HC0 := am hc0; clear hr0 hc0; have H : (spec_l4Has.l0 k l0 a1 0) = some r := h; clear h; have H' := am H; clear H; go_enter Try.func113, Try.ntmps113; go_wp2; go_loopg [5] k (fun kq v5 w' => ∃ (x5_1 : Int), v5 = .int .i64 x5_1 ∧ Aside0 (spec_l4Has.l0 kq l0 a1 x5_1 = some r) ∧ Aside0 (kq ≤ k) ∧ Drawn0 w w')
 case atStart => exact ⟨(0), (by first | rfl | (simp; done) | (simp [*]; done)), H', ⟨Nat.le_refl _⟩, by repeat (first | exact Drawn0.refl _ | apply Drawn0.step)⟩
 case round =>
  clear H'
  try clear c1
  try clear p2
  obtain ⟨x5_1, rfl, HA, HK1, ⟨m1, rfl⟩⟩ := hrel; cases gk with
  | zero => exact absurd HA.out (by simp [spec_l4Has.l0])
  | succ k1 =>
   have H := HA.out; clear HA; simp only [spec_l4Has.l0] at H; by_cases c3 : x5_1 < (l0.length : Int)
   ·rw [if_pos c3] at H; have c3b0 : decide (x5_1 < (l0.length : Int)) = true := decide_eq_true c3; clear c3; by_cases c4 : 0 ≤ x5_1
    ·rw [if_pos c4] at H; have c4b0 : decide (0 ≤ x5_1) = true := decide_eq_true c4; clear c4; by_cases c5 : (rd l0 x5_1) = a1
     ·rw [if_pos c5] at H; have c5b0 : ((rd l0 x5_1) == a1) = true := beq_iff_eq.mpr c5; have c5b1 : ((rd l0 x5_1) != a1) = false := bne_eq_false_iff_eq.mpr c5; clear c5; obtain rfl := Option.some.inj H; have p205 : 0 ≤ (x5_1 : Int) := oD; have q205 : x5_1 < (l0.length : Int) := oD; obtain ⟨ad205, e205, hx205_0⟩ := Kd.at_int HR0.out x5_1 p205 q205; cases e205; replace p205 := eq_true p205; replace q205 := eq_true q205; go_wp2; go_ret; exact ⟨by first | rfl | (simp; done) | (simp [*]; done), by repeat (first | exact Drawn0.refl _ | apply Drawn0.step)⟩
     ·rw [if_neg c5] at H; have c5b0 : ((rd l0 x5_1) == a1) = false := beq_eq_false_iff_ne.mpr c5; have c5b1 : ((rd l0 x5_1) != a1) = true := bne_iff_ne.mpr c5; have H' := am H; clear H; have p205 : 0 ≤ (x5_1 : Int) := oD; have q205 : x5_1 < (l0.length : Int) := oD; obtain ⟨ad205, e205, hx205_0⟩ := Kd.at_int HR0.out x5_1 p205 q205; cases e205; replace p205 := eq_true p205; replace q205 := eq_true q205; go_wp2; go_roundg k1
      case measure => have := HK1.out; omega
      case rel => exact ⟨(wrap64 (x5_1 + 1)), (by first | rfl | (simp; done) | (simp [*]; done)), H', ⟨by have := HK1.out; omega⟩, by repeat (first | exact Drawn0.refl _ | apply Drawn0.step)⟩
    ·rw [if_neg c4] at H; exact absurd H (by simp)
   ·rw [if_neg c3] at H; have c3b0 : decide (x5_1 < (l0.length : Int)) = false := decide_eq_false c3; clear c3; obtain rfl := Option.some.inj H; go_wp2; go_ret; exact ⟨by first | rfl | (simp; done) | (simp [*]; done), by repeat (first | exact Drawn0.refl _ | apply Drawn0.step)⟩
mutual
def spec_IsPrimitiveMorphism.j0 : Nat → Int → Bool → List (List Int) → Option (Bool)
 | 0, _, _, _ => none
 | k + 1, x3, x22, x207000 => if x22 = true then (some false) else (spec_IsPrimitiveMorphism.l0 k x3 (([] : List (List Int))) 0 x207000)
def spec_IsPrimitiveMorphism.l0 : Nat → Int → List (List Int) → Int → List (List Int) → Option (Bool)
 | 0, _, _, _, _ => none
 | k + 1, x3, x4, x5, x207000 => if x5 < x3 then (if x4.length < 5864062014805 then (spec_IsPrimitiveMorphism.l0 k x3 (x4 ++ [(([x5] : List Int))]) (wrap64 (x5 + 1)) x207000) else (none)) else (spec_IsPrimitiveMorphism.l1 k x3 x4 0 x207000)
def spec_IsPrimitiveMorphism.l1 : Nat → Int → List (List Int) → Int → List (List Int) → Option (Bool)
 | 0, _, _, _, _ => none
 | k + 1, x3, x4, x6, x207000 => if x6 < (wrap64 (x3 * x3)) then (spec_IsPrimitiveMorphism.l2 k x3 x4 x6 true 0 x207000) else (some false)
def spec_IsPrimitiveMorphism.l2 : Nat → Int → List (List Int) → Int → Bool → Int → List (List Int) → Option (Bool)
 | 0, _, _, _, _, _, _ => none
 | k + 1, x3, x4, x6, x7, x8, x207000 => if x8 < x3 then (spec_IsPrimitiveMorphism.l3 k x3 x4 x6 x7 x8 (([] : List Int)) 0 x207000) else (if x7 = true then (some true) else (spec_IsPrimitiveMorphism.l1 k x3 x4 (wrap64 (x6 + 1)) x207000))
def spec_IsPrimitiveMorphism.l3 : Nat → Int → List (List Int) → Int → Bool → Int → List Int → Int → List (List Int) → Option (Bool)
 | 0, _, _, _, _, _, _, _, _ => none
 | k + 1, x3, x4, x6, x7, x8, x9, x10, x207000 => if 0 ≤ x8 then (if x8 < (x4.length : Int) then (if x10 < ((rd_L1 x4 x8).length : Int) then (if 0 ≤ x10 then (if 0 ≤ (rd (rd_L1 x4 x8) x10) then (if (rd (rd_L1 x4 x8) x10) < (x207000.length : Int) then (spec_IsPrimitiveMorphism.l4 k x3 x4 x6 x7 x8 x9 x10 (rd_L1 x207000 (rd (rd_L1 x4 x8) x10)) 0 x207000) else (none)) else (none)) else (none)) else ((some (x4.set (x8 : Int).toNat x9 : List (List Int))).bind fun y221 => (if x7 = true then (spec_IsPrimitiveMorphism.l2 k x3 y221 x6 ((x9.length : Int) == x3) (wrap64 (x8 + 1)) x207000) else (spec_IsPrimitiveMorphism.l2 k x3 y221 x6 false (wrap64 (x8 + 1)) x207000)))) else (none)) else (none)
def spec_IsPrimitiveMorphism.l4 : Nat → Int → List (List Int) → Int → Bool → Int → List Int → Int → List Int → Int → List (List Int) → Option (Bool)
 | 0, _, _, _, _, _, _, _, _, _, _ => none
 | k + 1, x3, x4, x6, x7, x8, x9, x10, x11, x12, x207000 => if x12 < (x11.length : Int) then (if 0 ≤ x12 then ((spec_l4Has.f k x9 (rd x11 x12)).bind fun t226 => (if t226 = true then (spec_IsPrimitiveMorphism.l4 k x3 x4 x6 x7 x8 x9 x10 x11 (wrap64 (x12 + 1)) x207000) else (if x9.length < 17592186044416 then (spec_IsPrimitiveMorphism.l4 k x3 x4 x6 x7 x8 (x9 ++ [rd x11 x12]) x10 x11 (wrap64 (x12 + 1)) x207000) else (none)))) else (none)) else (spec_IsPrimitiveMorphism.l3 k x3 x4 x6 x7 x8 x9 (wrap64 (x10 + 1)) x207000)
end
def spec_IsPrimitiveMorphism.f (k : Nat) (l0_0 : List (List Int)) : Option (Bool) := (spec_IsMorphism.f k l0_0).bind fun t207 => (if t207 = true then (spec_IsPrimitiveMorphism.j0 k (l0_0.length : Int) (decide ((l0_0.length : Int) > 6)) l0_0) else (spec_IsPrimitiveMorphism.j0 k (l0_0.length : Int) true l0_0))
set_option maxHeartbeats 8000000 in
set_option maxRecDepth 100000 in
theorem spec_IsPrimitiveMorphism.calls (k : Nat) (A0_0 : Option Addr) (c0_0 : Nat) (l0_0 : List (List Int)) (r : Bool) (w : World) (hr0_0 : Kd.C (Kd.slice 3 (Kd.int .i64)) w A0_0 l0_0.length l0_0) (hc0_0 : l0_0.length ≤ c0_0) (h : spec_IsPrimitiveMorphism.f k l0_0 = some r) :
  Calls Try.prog 24 #[.agg #[.slice A0_0 l0_0.length c0_0]] w fun e w' => e = .returned (.bool r) ∧ Below w.heap.size w w' := by
 have hu28 := Try.underlying28; have HR0_0 := am hr0_0; have HC0_0 := am hc0_0; clear hr0_0 hc0_0; have HB := am (Below.refl w.heap.size w); have H : ((spec_IsMorphism.f k l0_0).bind fun t207 => (if t207 = true then (spec_IsPrimitiveMorphism.j0 k (l0_0.length : Int) (decide ((l0_0.length : Int) > 6)) l0_0) else (spec_IsPrimitiveMorphism.j0 k (l0_0.length : Int) true l0_0))) = some r := h; clear h; have HC2 := am H; clear H; go_enter Try.func24, Try.ntmps24; go_upto_region 2 with (first | ((with_reducible refine gate_dst (N := 1) rfl ?_); (try (refine gate_guard (by rfl) ?_; dsimp only)); refine box_event ?hg (N := 1) ?hd (cs := #[.slice A0_0 l0_0.length c0_0]) (t := 28) ?hr ?_; (case hd | hg => rfl); (case hr => go_simp <;> rfl); intro gb206 hg w3 hbox hb; have BK206 := am (hbox); have GW206 := am ((by rw [hg]; exact (bZ HB) : w.heap.size ≤ gb206)); have GE206 := am ((by rw [hg]; exact (bZ HB) : w.heap.size ≤ gb206)); replace HB := bS HB hb; have qW206 := Ge.mk GW206.out; have qE206 := Ge.mk GE206.out; clear hb hbox hg; have hcz4_0 := z10 BK206; have hfz4_0 := blk_frozen BK206.out 0))
 repeat (go_quiet (first | ((with_reducible refine gate_dst (N := 1) rfl ?_); (try (refine gate_guard (by rfl) ?_; dsimp only)); refine box_event ?hg (N := 1) ?hd (cs := #[.slice A0_0 l0_0.length c0_0]) (t := 28) ?hr ?_; (case hd | hg => rfl); (case hr => go_simp <;> rfl); intro gb206 hg w3 hbox hb; have BK206 := am (hbox); have GW206 := am ((by rw [hg]; exact (bZ HB) : w.heap.size ≤ gb206)); have GE206 := am ((by rw [hg]; exact (bZ HB) : w.heap.size ≤ gb206)); replace HB := bS HB hb; have qW206 := Ge.mk GW206.out; have qE206 := Ge.mk GE206.out; clear hb hbox hg; have hcz4_0 := z10 BK206; have hfz4_0 := blk_frozen BK206.out 0)); go_upto_region 2 with (first | ((with_reducible refine gate_dst (N := 1) rfl ?_); (try (refine gate_guard (by rfl) ?_; dsimp only)); refine box_event ?hg (N := 1) ?hd (cs := #[.slice A0_0 l0_0.length c0_0]) (t := 28) ?hr ?_; (case hd | hg => rfl); (case hr => go_simp <;> rfl); intro gb206 hg w3 hbox hb; have BK206 := am (hbox); have GW206 := am ((by rw [hg]; exact (bZ HB) : w.heap.size ≤ gb206)); have GE206 := am ((by rw [hg]; exact (bZ HB) : w.heap.size ≤ gb206)); replace HB := bS HB hb; have qW206 := Ge.mk GW206.out; have qE206 := Ge.mk GE206.out; clear hb hbox hg; have hcz4_0 := z10 BK206; have hfz4_0 := blk_frozen BK206.out 0)))
 (try simp only [Act.put, qa, qz, qs]); go_cut [22] (fun v22 wc => ∃ (kq : Nat) (x22_1 : Bool), v22 = .bool x22_1 ∧ Aside0 (spec_IsPrimitiveMorphism.j0 kq (l0_0.length : Int) x22_1 l0_0 = some r) ∧ Aside0 (kq ≤ k) ∧ Aside0 (wc.heap[gb206]? = some (.cells #[(.slice A0_0 l0_0.length c0_0)] 28 (0, 0))) ∧ Aside0 (Below w.heap.size w wc))
 case first =>
  have H := HC2.out; clear HC2; replace H := bE H; obtain ⟨t207, A50, H⟩ := H; replace H : (if t207 = true then (spec_IsPrimitiveMorphism.j0 k (l0_0.length : Int) (decide ((l0_0.length : Int) > 6)) l0_0) else (spec_IsPrimitiveMorphism.j0 k (l0_0.length : Int) true l0_0)) = some r := H; have A5 := am A50; clear A50; by_cases c6 : t207 = true
  ·subst c6; have H1 : (spec_IsPrimitiveMorphism.j0 k (l0_0.length : Int) (decide ((l0_0.length : Int) > 6)) l0_0) = some r := by rw [if_pos rfl] at H; exact H
   clear H; have H := H1; clear H1; have H' := am H; clear H; have hcz7_0 := z10 BK206; have hfz7_0 := blk_frozen BK206.out 0; go_wp2_with (first | (go_at_call 109; (with_reducible refine (spec_IsMorphism.calls k _ _ l0_0 true _ ?side1 ?side2 A5.out).mono ?_); (case side1 => exact xC ((Kd.C_below HR0_0.out HB.out))); (case side2 => exact HC0_0.out); rintro e w8 ⟨rfl, hb⟩; replace BK206 := bK BK206 hb; replace HB := bS HB hb; clear hb))
   repeat (go_quiet (first | (go_at_call 109; (with_reducible refine (spec_IsMorphism.calls k _ _ l0_0 true _ ?side1 ?side2 A5.out).mono ?_); (case side1 => exact xC ((Kd.C_below HR0_0.out HB.out))); (case side2 => exact HC0_0.out); rintro e w8 ⟨rfl, hb⟩; replace BK206 := bK BK206 hb; replace HB := bS HB hb; clear hb)); try go_wp2_with (first | (go_at_call 109; (with_reducible refine (spec_IsMorphism.calls k _ _ l0_0 true _ ?side1 ?side2 A5.out).mono ?_); (case side1 => exact xC ((Kd.C_below HR0_0.out HB.out))); (case side2 => exact HC0_0.out); rintro e w8 ⟨rfl, hb⟩; replace BK206 := bK BK206 hb; replace HB := bS HB hb; clear hb)))
   go_meet
   case rel => exact ⟨_, (decide ((l0_0.length : Int) > 6)), (by first | rfl | (simp; done) | (simp [*]; done)), H', ⟨by first | omega | exact Nat.le_refl _⟩, ⟨by exact rX BK206⟩, ⟨by exact rB HB⟩⟩
  ·replace c6 := Bool.eq_false_iff.mpr c6; subst c6; have H1 : (spec_IsPrimitiveMorphism.j0 k (l0_0.length : Int) true l0_0) = some r := by rw [if_neg (show ¬ (false = true) by decide)] at H; exact H
   clear H; have H := H1; clear H1; have H' := am H; clear H; have hcz9_0 := z10 BK206; have hfz9_0 := blk_frozen BK206.out 0; go_wp2_with (first | (go_at_call 109; (with_reducible refine (spec_IsMorphism.calls k _ _ l0_0 false _ ?side1 ?side2 A5.out).mono ?_); (case side1 => exact xC ((Kd.C_below HR0_0.out HB.out))); (case side2 => exact HC0_0.out); rintro e w10 ⟨rfl, hb⟩; replace BK206 := bK BK206 hb; replace HB := bS HB hb; clear hb))
   repeat (go_quiet (first | (go_at_call 109; (with_reducible refine (spec_IsMorphism.calls k _ _ l0_0 false _ ?side1 ?side2 A5.out).mono ?_); (case side1 => exact xC ((Kd.C_below HR0_0.out HB.out))); (case side2 => exact HC0_0.out); rintro e w10 ⟨rfl, hb⟩; replace BK206 := bK BK206 hb; replace HB := bS HB hb; clear hb)); try go_wp2_with (first | (go_at_call 109; (with_reducible refine (spec_IsMorphism.calls k _ _ l0_0 false _ ?side1 ?side2 A5.out).mono ?_); (case side1 => exact xC ((Kd.C_below HR0_0.out HB.out))); (case side2 => exact HC0_0.out); rintro e w10 ⟨rfl, hb⟩; replace BK206 := bK BK206 hb; replace HB := bS HB hb; clear hb)))
   go_meet
   case rel => exact ⟨_, (true), (by first | rfl | (simp; done) | (simp [*]; done)), H', ⟨by first | omega | exact Nat.le_refl _⟩, ⟨by exact rX BK206⟩, ⟨by exact rB HB⟩⟩
 case rest =>
  clear HC2
  try clear c2
  try clear p2
  try clear c6
  try clear hcz4_0
  try clear hcz7_0
  try clear hcz9_0
  try clear hfz4_0
  try clear hfz7_0
  try clear hfz9_0
  obtain ⟨kq, x22_1, rfl, HA, HJ1, BK206, HB⟩ := hcut; cases kq with
  | zero => exact absurd HA.out (by simp [spec_IsPrimitiveMorphism.j0])
  | succ kj1 =>
   have H := HA.out; clear HA; simp only [spec_IsPrimitiveMorphism.j0] at H; by_cases c11 : x22_1 = true
   ·subst c11; have H1 : (some false) = some r := by rw [if_pos rfl] at H; exact H
    clear H; have H := H1; clear H1; obtain rfl := Option.some.inj H; go_wp2
    repeat (go_quiet (fail); try go_wp2)
    go_ret; exact ⟨by first | rfl | (simp [errW_none, errW_some] <;> rfl) | (simp [*, errW_none, errW_some] <;> rfl), by exact rB HB⟩
   ·replace c11 := Bool.eq_false_iff.mpr c11; subst c11; have H1 : (spec_IsPrimitiveMorphism.l0 kj1 (l0_0.length : Int) (([] : List (List Int))) 0 l0_0) = some r := by rw [if_neg (show ¬ (false = true) by decide)] at H; exact H
    clear H; have H := H1; clear H1; obtain ⟨y208, hy208⟩ : ∃ y_ : List (List Int), y_ = (([] : List (List Int))) := ⟨_, rfl⟩; replace H : (spec_IsPrimitiveMorphism.l0 kj1 (l0_0.length : Int) y208 0 l0_0) = some r := by rw [hy208]; first | exact H | exact (Option.bind_some _ _).symm.trans H
    have Ny208 := am hy208; clear hy208; have H' := am H; clear H; go_wp2_with (first | ((with_reducible refine gate_dst (N := 23) rfl ?_); (try (refine gate_guard (by rfl) ?_; dsimp only)); refine Kd.S_lit (Kd.slice 3 (Kd.int .i64)) _ 36 ?hg (N := 23) ?hd (xs := ([] : List (List Int))) (inner := []) (ok := fun _ => True) (okp := fun _ => True) ?hr ?hp (fun _ hk => hk) trivial (Below.refl _ _) (Nat.le_refl _) (by simp) ?_; (case hd | hg => rfl); (case hr => go_simp <;> rfl); (case hp => exact (Reps.none _ _)); intro v209 w12 ho13 hb hg_ hnew_; clear hg_ hnew_; (first | rw [← Ny208.out] at ho13 | (simp only [Int.reduceToNat] at ho13; rw [← Ny208.out] at ho13)); have HO210 := am (Kd.S_lower ho13 (bZ HB)); replace BK206 := bK BK206 hb; replace HB := bS HB hb; clear hb ho13))
    repeat (go_quiet (first | ((with_reducible refine gate_dst (N := 23) rfl ?_); (try (refine gate_guard (by rfl) ?_; dsimp only)); refine Kd.S_lit (Kd.slice 3 (Kd.int .i64)) _ 36 ?hg (N := 23) ?hd (xs := ([] : List (List Int))) (inner := []) (ok := fun _ => True) (okp := fun _ => True) ?hr ?hp (fun _ hk => hk) trivial (Below.refl _ _) (Nat.le_refl _) (by simp) ?_; (case hd | hg => rfl); (case hr => go_simp <;> rfl); (case hp => exact (Reps.none _ _)); intro v209 w12 ho13 hb hg_ hnew_; clear hg_ hnew_; (first | rw [← Ny208.out] at ho13 | (simp only [Int.reduceToNat] at ho13; rw [← Ny208.out] at ho13)); have HO210 := am (Kd.S_lower ho13 (bZ HB)); replace BK206 := bK BK206 hb; replace HB := bS HB hb; clear hb ho13)); try go_wp2_with (first | ((with_reducible refine gate_dst (N := 23) rfl ?_); (try (refine gate_guard (by rfl) ?_; dsimp only)); refine Kd.S_lit (Kd.slice 3 (Kd.int .i64)) _ 36 ?hg (N := 23) ?hd (xs := ([] : List (List Int))) (inner := []) (ok := fun _ => True) (okp := fun _ => True) ?hr ?hp (fun _ hk => hk) trivial (Below.refl _ _) (Nat.le_refl _) (by simp) ?_; (case hd | hg => rfl); (case hr => go_simp <;> rfl); (case hp => exact (Reps.none _ _)); intro v209 w12 ho13 hb hg_ hnew_; clear hg_ hnew_; (first | rw [← Ny208.out] at ho13 | (simp only [Int.reduceToNat] at ho13; rw [← Ny208.out] at ho13)); have HO210 := am (Kd.S_lower ho13 (bZ HB)); replace BK206 := bK BK206 hb; replace HB := bS HB hb; clear hb ho13)))
    go_loopg [4, 5] kj1 (fun kq v4 v5 w' => ∃ (x4_2 : List (List Int)) (x5_2 : Int), v5 = .int .i64 x5_2 ∧ Aside0 (spec_IsPrimitiveMorphism.l0 kq (l0_0.length : Int) x4_2 x5_2 l0_0 = some r) ∧ Aside0 (kq ≤ kj1) ∧ Aside0 (Kd.S (Kd.slice 3 (Kd.int .i64)) 36 w' w.heap.size (fun _ => True) v4 x4_2) ∧ Aside0 (w'.heap[gb206]? = some (.cells #[(.slice A0_0 l0_0.length c0_0)] 28 (0, 0))) ∧ Aside0 (Below w.heap.size w w'))
    case atStart => exact ⟨(y208), (0), (by first | rfl | (simp; done) | (simp [*]; done)), H', ⟨Nat.le_refl _⟩, ⟨by exact rS HO210⟩, ⟨by exact rX BK206⟩, ⟨by exact rB HB⟩⟩
    case round =>
     clear H'
     try clear c1
     try clear c2
     try clear p2
     try clear c6
     try clear c11
     try clear hcz4_0
     try clear hcz7_0
     try clear hcz9_0
     try clear hfz4_0
     try clear hfz7_0
     try clear hfz9_0
     try clear p2
     obtain ⟨x4_2, x5_2, rfl, HA, HK2, HO_4, BK206, HB⟩ := hrel; cases gk with
     | zero => exact absurd HA.out (by simp [spec_IsPrimitiveMorphism.l0])
     | succ k2 =>
      have H := HA.out; clear HA; simp only [spec_IsPrimitiveMorphism.l0] at H; by_cases c14 : x5_2 < (l0_0.length : Int)
      ·rw [if_pos c14] at H; have c14b0 : decide (x5_2 < (l0_0.length : Int)) = true := decide_eq_true c14; clear c14; obtain ⟨y211, hy211⟩ : ∃ y_ : List Int, y_ = (([x5_2] : List Int)) := ⟨_, rfl⟩; replace H : (if x4_2.length < 5864062014805 then (spec_IsPrimitiveMorphism.l0 k2 (l0_0.length : Int) (x4_2 ++ [y211]) (wrap64 (x5_2 + 1)) l0_0) else (none)) = some r := by rw [hy211]; first | exact H | exact (Option.bind_some _ _).symm.trans H
       have Ny211 := am hy211; clear hy211; by_cases c15 : x4_2.length < 5864062014805
       ·rw [if_pos c15] at H; have LMc15 := am c15; clear c15; obtain ⟨y214, hy214⟩ : ∃ y_ : List (List Int), y_ = (x4_2 ++ [y211]) := ⟨_, rfl⟩; replace H : (spec_IsPrimitiveMorphism.l0 k2 (l0_0.length : Int) y214 (wrap64 (x5_2 + 1)) l0_0) = some r := by rw [hy214]; first | exact H | exact (Option.bind_some _ _).symm.trans H
        have Ny214 := am hy214; clear hy214; have H' := am H; clear H; go_wp2_with (first | ((with_reducible refine gate_dst (N := 31) rfl ?_); (try (refine gate_guard (by rfl) ?_; dsimp only)); refine Kd.R_lit (Kd.int .i64) _ 3 ?hg (N := 31) ?hd (xs := ([x5_2] : List Int)) (inner := [.int .i64 x5_2]) (ok := fun _ => True) (okp := fun _ => True) ?hr ?hp (fun _ hk => hk) trivial (Below.refl _ _) (Nat.le_refl _) (by simp) ?_; (case hd | hg => rfl); (case hr => go_simp <;> rfl); (case hp => exact (Reps.one (show Kd.M (Kd.int .i64) _ _ _ x5_2 [.int .i64 x5_2] from rfl) (Reps.none _ _))); intro v212 w16 ho17 hb hg_ hnew_; clear hg_ hnew_; (first | rw [← Ny211.out] at ho17 | (simp only [Int.reduceToNat] at ho17; rw [← Ny211.out] at ho17)); replace HO_4 := am (Kd.S_elder' (by exact rS HO_4) (Kd.R_base ho17) hb); have HO213 := am (Kd.R_lower ho17 (bZ HB)); replace BK206 := bK BK206 hb; replace HB := bS HB hb; clear hb ho17; obtain ⟨Ao19, co19, eo19⟩ := Kd.R_slice HO213.out; subst eo19) | ((with_reducible refine gate_builtin (b := .append) (xs := #[.tmp 29, .tmp 32]) rfl ?_); (try (refine gate_guard (by rfl) ?_; dsimp only)); at_builtin; refine Kd.S_append (Kd.slice 3 (Kd.int .i64)) (w0 := w) w.heap.size rfl (.tmp 29) (.tmp 32) 22 36 (.slice none 0 0) 24 rfl Try.underlying22 info36 rfl (by decide) (by omega) u4 x4_2 y211 [.slice Ao19 y211.length co19] (fun _ => True) (fun k_ => some k_ = (.slice Ao19 y211.length co19 : Value).ownBlock) rfl rfl ?aP (fun k_ hk_ => ((Kd.R_mono (ok' := fun k_ => ((fun _ => True)) k_ ∧ some k_ ≠ (u4 : Value).ownBlock) (Kd.R_apart' (HO213.out) (Kd.S_typed HO_4.out) (by decide)) (fun k_ hk => ⟨trivial, hk.2⟩))).1 k_ hk_.symm) ?aF ?aO ?aB ?aS ?aL ?_; (case aP => exact Kd.M_row (Kd.R_mono (Kd.R_tight rfl (Kd.R_mono (ok' := fun k_ => ((fun _ => True)) k_ ∧ some k_ ≠ (u4 : Value).ownBlock) (Kd.R_apart' (HO213.out) (Kd.S_typed HO_4.out) (by decide)) (fun k_ hk => ⟨trivial, hk.2⟩))) (fun _ h_ => h_))); (case aB => exact (by exact rB HB)); (case aF => exact (fun _ _ => trivial)); (case aO => exact (by exact xS (Kd.S_mono HO_4.out (fun k_ hk => ⟨trivial, fun e_ => hk.2 e_⟩)))); (case aS => exact (bZ HB)); (case aL => have := LMc15.out; omega); intro v215 w18 ho hb hg hat; rw [← Ny214.out] at ho; replace BK206 := am (blk_grown (g := gb206) (o := .cells #[.slice A0_0 l0_0.length c0_0] 28 (0, 0)) (by exact rX BK206) hg (Kd.S_ne HO_4.out BK206.out (by decide))); replace HB := am (hb); have HO216 := am (ho); clear HO_4 HO213; clear ho hb hg hat))
        repeat (go_quiet (first | ((with_reducible refine gate_dst (N := 31) rfl ?_); (try (refine gate_guard (by rfl) ?_; dsimp only)); refine Kd.R_lit (Kd.int .i64) _ 3 ?hg (N := 31) ?hd (xs := ([x5_2] : List Int)) (inner := [.int .i64 x5_2]) (ok := fun _ => True) (okp := fun _ => True) ?hr ?hp (fun _ hk => hk) trivial (Below.refl _ _) (Nat.le_refl _) (by simp) ?_; (case hd | hg => rfl); (case hr => go_simp <;> rfl); (case hp => exact (Reps.one (show Kd.M (Kd.int .i64) _ _ _ x5_2 [.int .i64 x5_2] from rfl) (Reps.none _ _))); intro v212 w16 ho17 hb hg_ hnew_; clear hg_ hnew_; (first | rw [← Ny211.out] at ho17 | (simp only [Int.reduceToNat] at ho17; rw [← Ny211.out] at ho17)); replace HO_4 := am (Kd.S_elder' (by exact rS HO_4) (Kd.R_base ho17) hb); have HO213 := am (Kd.R_lower ho17 (bZ HB)); replace BK206 := bK BK206 hb; replace HB := bS HB hb; clear hb ho17; obtain ⟨Ao19, co19, eo19⟩ := Kd.R_slice HO213.out; subst eo19) | ((with_reducible refine gate_builtin (b := .append) (xs := #[.tmp 29, .tmp 32]) rfl ?_); (try (refine gate_guard (by rfl) ?_; dsimp only)); at_builtin; refine Kd.S_append (Kd.slice 3 (Kd.int .i64)) (w0 := w) w.heap.size rfl (.tmp 29) (.tmp 32) 22 36 (.slice none 0 0) 24 rfl Try.underlying22 info36 rfl (by decide) (by omega) u4 x4_2 y211 [.slice Ao19 y211.length co19] (fun _ => True) (fun k_ => some k_ = (.slice Ao19 y211.length co19 : Value).ownBlock) rfl rfl ?aP (fun k_ hk_ => ((Kd.R_mono (ok' := fun k_ => ((fun _ => True)) k_ ∧ some k_ ≠ (u4 : Value).ownBlock) (Kd.R_apart' (HO213.out) (Kd.S_typed HO_4.out) (by decide)) (fun k_ hk => ⟨trivial, hk.2⟩))).1 k_ hk_.symm) ?aF ?aO ?aB ?aS ?aL ?_; (case aP => exact Kd.M_row (Kd.R_mono (Kd.R_tight rfl (Kd.R_mono (ok' := fun k_ => ((fun _ => True)) k_ ∧ some k_ ≠ (u4 : Value).ownBlock) (Kd.R_apart' (HO213.out) (Kd.S_typed HO_4.out) (by decide)) (fun k_ hk => ⟨trivial, hk.2⟩))) (fun _ h_ => h_))); (case aB => exact (by exact rB HB)); (case aF => exact (fun _ _ => trivial)); (case aO => exact (by exact xS (Kd.S_mono HO_4.out (fun k_ hk => ⟨trivial, fun e_ => hk.2 e_⟩)))); (case aS => exact (bZ HB)); (case aL => have := LMc15.out; omega); intro v215 w18 ho hb hg hat; rw [← Ny214.out] at ho; replace BK206 := am (blk_grown (g := gb206) (o := .cells #[.slice A0_0 l0_0.length c0_0] 28 (0, 0)) (by exact rX BK206) hg (Kd.S_ne HO_4.out BK206.out (by decide))); replace HB := am (hb); have HO216 := am (ho); clear HO_4 HO213; clear ho hb hg hat)); try go_wp2_with (first | ((with_reducible refine gate_dst (N := 31) rfl ?_); (try (refine gate_guard (by rfl) ?_; dsimp only)); refine Kd.R_lit (Kd.int .i64) _ 3 ?hg (N := 31) ?hd (xs := ([x5_2] : List Int)) (inner := [.int .i64 x5_2]) (ok := fun _ => True) (okp := fun _ => True) ?hr ?hp (fun _ hk => hk) trivial (Below.refl _ _) (Nat.le_refl _) (by simp) ?_; (case hd | hg => rfl); (case hr => go_simp <;> rfl); (case hp => exact (Reps.one (show Kd.M (Kd.int .i64) _ _ _ x5_2 [.int .i64 x5_2] from rfl) (Reps.none _ _))); intro v212 w16 ho17 hb hg_ hnew_; clear hg_ hnew_; (first | rw [← Ny211.out] at ho17 | (simp only [Int.reduceToNat] at ho17; rw [← Ny211.out] at ho17)); replace HO_4 := am (Kd.S_elder' (by exact rS HO_4) (Kd.R_base ho17) hb); have HO213 := am (Kd.R_lower ho17 (bZ HB)); replace BK206 := bK BK206 hb; replace HB := bS HB hb; clear hb ho17; obtain ⟨Ao19, co19, eo19⟩ := Kd.R_slice HO213.out; subst eo19) | ((with_reducible refine gate_builtin (b := .append) (xs := #[.tmp 29, .tmp 32]) rfl ?_); (try (refine gate_guard (by rfl) ?_; dsimp only)); at_builtin; refine Kd.S_append (Kd.slice 3 (Kd.int .i64)) (w0 := w) w.heap.size rfl (.tmp 29) (.tmp 32) 22 36 (.slice none 0 0) 24 rfl Try.underlying22 info36 rfl (by decide) (by omega) u4 x4_2 y211 [.slice Ao19 y211.length co19] (fun _ => True) (fun k_ => some k_ = (.slice Ao19 y211.length co19 : Value).ownBlock) rfl rfl ?aP (fun k_ hk_ => ((Kd.R_mono (ok' := fun k_ => ((fun _ => True)) k_ ∧ some k_ ≠ (u4 : Value).ownBlock) (Kd.R_apart' (HO213.out) (Kd.S_typed HO_4.out) (by decide)) (fun k_ hk => ⟨trivial, hk.2⟩))).1 k_ hk_.symm) ?aF ?aO ?aB ?aS ?aL ?_; (case aP => exact Kd.M_row (Kd.R_mono (Kd.R_tight rfl (Kd.R_mono (ok' := fun k_ => ((fun _ => True)) k_ ∧ some k_ ≠ (u4 : Value).ownBlock) (Kd.R_apart' (HO213.out) (Kd.S_typed HO_4.out) (by decide)) (fun k_ hk => ⟨trivial, hk.2⟩))) (fun _ h_ => h_))); (case aB => exact (by exact rB HB)); (case aF => exact (fun _ _ => trivial)); (case aO => exact (by exact xS (Kd.S_mono HO_4.out (fun k_ hk => ⟨trivial, fun e_ => hk.2 e_⟩)))); (case aS => exact (bZ HB)); (case aL => have := LMc15.out; omega); intro v215 w18 ho hb hg hat; rw [← Ny214.out] at ho; replace BK206 := am (blk_grown (g := gb206) (o := .cells #[.slice A0_0 l0_0.length c0_0] 28 (0, 0)) (by exact rX BK206) hg (Kd.S_ne HO_4.out BK206.out (by decide))); replace HB := am (hb); have HO216 := am (ho); clear HO_4 HO213; clear ho hb hg hat)))
        go_roundg k2
        case measure => have := HJ1.out; have := HK2.out; omega
        case rel => exact ⟨(y214), (wrap64 (x5_2 + 1)), (by first | rfl | (simp; done) | (simp [*]; done)), H', ⟨by have := HJ1.out; have := HK2.out; omega⟩, ⟨by exact rS HO216⟩, ⟨by exact rX BK206⟩, ⟨by exact rB HB⟩⟩
       ·rw [if_neg c15] at H; exact absurd H (by simp)
      ·rw [if_neg c14] at H; have c14b0 : decide (x5_2 < (l0_0.length : Int)) = false := decide_eq_false c14; clear c14; have H' := am H; clear H; go_wp2
       repeat (go_quiet (fail); try go_wp2)
       go_loopg [6] k2 (fun kq v6 w' => ∃ (x4_3 : List (List Int)) (x6_3 : Int), v6 = .int .i64 x6_3 ∧ Aside0 (spec_IsPrimitiveMorphism.l1 kq (l0_0.length : Int) x4_3 x6_3 l0_0 = some r) ∧ Aside0 (kq ≤ k2) ∧ Aside0 (Kd.S (Kd.slice 3 (Kd.int .i64)) 36 w' w.heap.size (fun _ => True) u4 x4_3) ∧ Aside0 (w'.heap[gb206]? = some (.cells #[(.slice A0_0 l0_0.length c0_0)] 28 (0, 0))) ∧ Aside0 (Below w.heap.size w w'))
       case atStart => exact ⟨(x4_2), (0), (by first | rfl | (simp; done) | (simp [*]; done)), H', ⟨Nat.le_refl _⟩, ⟨by exact rS HO_4⟩, ⟨by exact rX BK206⟩, ⟨by exact rB HB⟩⟩
       case round =>
        clear H'
        try clear c1
        try clear c2
        try clear p2
        try clear c6
        try clear p6
        try clear c11
        try clear c14
        try clear c14b0
        try clear c15
        try clear hcz4_0
        try clear hcz7_0
        try clear hcz9_0
        try clear hfz4_0
        try clear hfz7_0
        try clear hfz9_0
        try clear p2
        obtain ⟨x4_3, x6_3, rfl, HA, HK3, HO_4, BK206, HB⟩ := hrel; cases gk with
        | zero => exact absurd HA.out (by simp [spec_IsPrimitiveMorphism.l1])
        | succ k3 =>
         have H := HA.out; clear HA; simp only [spec_IsPrimitiveMorphism.l1] at H; by_cases c20 : x6_3 < (wrap64 ((l0_0.length : Int) * (l0_0.length : Int)))
         ·rw [if_pos c20] at H; have c20b0 : decide (x6_3 < (wrap64 ((l0_0.length : Int) * (l0_0.length : Int)))) = true := decide_eq_true c20; clear c20; have H' := am H; clear H; go_wp2
          repeat (go_quiet (fail); try go_wp2)
          go_loopg [7, 8] k3 (fun kq v7 v8 w' => ∃ (x4_4 : List (List Int)) (x7_4 : Bool) (x8_4 : Int), v7 = .bool x7_4 ∧ v8 = .int .i64 x8_4 ∧ Aside0 (spec_IsPrimitiveMorphism.l2 kq (l0_0.length : Int) x4_4 x6_3 x7_4 x8_4 l0_0 = some r) ∧ Aside0 (kq ≤ k3) ∧ Aside0 (Kd.S (Kd.slice 3 (Kd.int .i64)) 36 w' w.heap.size (fun _ => True) u4 x4_4) ∧ Aside0 (w'.heap[gb206]? = some (.cells #[(.slice A0_0 l0_0.length c0_0)] 28 (0, 0))) ∧ Aside0 (Below w.heap.size w w'))
          case atStart => exact ⟨(x4_3), (true), (0), (by first | rfl | (simp; done) | (simp [*]; done)), (by first | rfl | (simp; done) | (simp [*]; done)), H', ⟨Nat.le_refl _⟩, ⟨by exact rS HO_4⟩, ⟨by exact rX BK206⟩, ⟨by exact rB HB⟩⟩
          case round =>
           clear H'
           try clear c1
           try clear c2
           try clear p2
           try clear c6
           try clear p6
           try clear c11
           try clear c14
           try clear c14b0
           try clear c15
           try clear c20
           try clear c20b0
           try clear hcz4_0
           try clear hcz7_0
           try clear hcz9_0
           try clear hfz4_0
           try clear hfz7_0
           try clear hfz9_0
           try clear p2
           try clear p6
           obtain ⟨x4_4, x7_4, x8_4, rfl, rfl, HA, HK4, HO_4, BK206, HB⟩ := hrel; cases gk with
           | zero => exact absurd HA.out (by simp [spec_IsPrimitiveMorphism.l2])
           | succ k4 =>
            have H := HA.out; clear HA; simp only [spec_IsPrimitiveMorphism.l2] at H; by_cases c21 : x8_4 < (l0_0.length : Int)
            ·rw [if_pos c21] at H; have c21b0 : decide (x8_4 < (l0_0.length : Int)) = true := decide_eq_true c21; clear c21; obtain ⟨y217, hy217⟩ : ∃ y_ : List Int, y_ = (([] : List Int)) := ⟨_, rfl⟩; replace H : (spec_IsPrimitiveMorphism.l3 k4 (l0_0.length : Int) x4_4 x6_3 x7_4 x8_4 y217 0 l0_0) = some r := by rw [hy217]; first | exact H | exact (Option.bind_some _ _).symm.trans H
             have Ny217 := am hy217; clear hy217; have H' := am H; clear H; go_wp2_with (first | ((with_reducible refine gate_dst (N := 46) rfl ?_); (try (refine gate_guard (by rfl) ?_; dsimp only)); refine Kd.R_lit (Kd.int .i64) _ 3 ?hg (N := 46) ?hd (xs := ([] : List Int)) (inner := []) (ok := fun _ => True) (okp := fun _ => True) ?hr ?hp (fun _ hk => hk) trivial (Below.refl _ _) (Nat.le_refl _) (by simp) ?_; (case hd | hg => rfl); (case hr => go_simp <;> rfl); (case hp => exact (Reps.none _ _)); intro v218 w22 ho23 hb hg_ hnew_; clear hg_ hnew_; (first | rw [← Ny217.out] at ho23 | (simp only [Int.reduceToNat] at ho23; rw [← Ny217.out] at ho23)); replace HO_4 := am (Kd.S_elder' (by exact rS HO_4) (Kd.R_base ho23) hb); have HO219 := am (Kd.R_lower ho23 (bZ HB)); replace BK206 := bK BK206 hb; replace HB := bS HB hb; clear hb ho23))
             repeat (go_quiet (first | ((with_reducible refine gate_dst (N := 46) rfl ?_); (try (refine gate_guard (by rfl) ?_; dsimp only)); refine Kd.R_lit (Kd.int .i64) _ 3 ?hg (N := 46) ?hd (xs := ([] : List Int)) (inner := []) (ok := fun _ => True) (okp := fun _ => True) ?hr ?hp (fun _ hk => hk) trivial (Below.refl _ _) (Nat.le_refl _) (by simp) ?_; (case hd | hg => rfl); (case hr => go_simp <;> rfl); (case hp => exact (Reps.none _ _)); intro v218 w22 ho23 hb hg_ hnew_; clear hg_ hnew_; (first | rw [← Ny217.out] at ho23 | (simp only [Int.reduceToNat] at ho23; rw [← Ny217.out] at ho23)); replace HO_4 := am (Kd.S_elder' (by exact rS HO_4) (Kd.R_base ho23) hb); have HO219 := am (Kd.R_lower ho23 (bZ HB)); replace BK206 := bK BK206 hb; replace HB := bS HB hb; clear hb ho23)); try go_wp2_with (first | ((with_reducible refine gate_dst (N := 46) rfl ?_); (try (refine gate_guard (by rfl) ?_; dsimp only)); refine Kd.R_lit (Kd.int .i64) _ 3 ?hg (N := 46) ?hd (xs := ([] : List Int)) (inner := []) (ok := fun _ => True) (okp := fun _ => True) ?hr ?hp (fun _ hk => hk) trivial (Below.refl _ _) (Nat.le_refl _) (by simp) ?_; (case hd | hg => rfl); (case hr => go_simp <;> rfl); (case hp => exact (Reps.none _ _)); intro v218 w22 ho23 hb hg_ hnew_; clear hg_ hnew_; (first | rw [← Ny217.out] at ho23 | (simp only [Int.reduceToNat] at ho23; rw [← Ny217.out] at ho23)); replace HO_4 := am (Kd.S_elder' (by exact rS HO_4) (Kd.R_base ho23) hb); have HO219 := am (Kd.R_lower ho23 (bZ HB)); replace BK206 := bK BK206 hb; replace HB := bS HB hb; clear hb ho23)))
             go_loopg [9, 10] k4 (fun kq v9 v10 w' => ∃ (x9_5 : List Int) (x10_5 : Int), v10 = .int .i64 x10_5 ∧ Aside0 (spec_IsPrimitiveMorphism.l3 kq (l0_0.length : Int) x4_4 x6_3 x7_4 x8_4 x9_5 x10_5 l0_0 = some r) ∧ Aside0 (kq ≤ k4) ∧ Aside0 (Kd.S (Kd.slice 3 (Kd.int .i64)) 36 w' w.heap.size (fun k_ => some k_ ≠ (v9 : Value).ownBlock) u4 x4_4) ∧ Aside0 (Kd.R (Kd.int .i64) 3 w' w.heap.size (fun _ => True) v9 x9_5) ∧ Aside0 (w'.heap[gb206]? = some (.cells #[(.slice A0_0 l0_0.length c0_0)] 28 (0, 0))) ∧ Aside0 (Below w.heap.size w w'))
             case atStart => exact ⟨(y217), (0), (by first | rfl | (simp; done) | (simp [*]; done)), H', ⟨Nat.le_refl _⟩, ⟨by exact xS (Kd.S_mono HO_4.out (fun _ hk => hk.2))⟩, ⟨by exact rR HO219⟩, ⟨by exact rX BK206⟩, ⟨by exact rB HB⟩⟩
             case round =>
              clear H'
              try clear c1
              try clear c2
              try clear p2
              try clear c6
              try clear p6
              try clear c11
              try clear c14
              try clear c14b0
              try clear c15
              try clear c20
              try clear c20b0
              try clear c21
              try clear c21b0
              try clear hcz4_0
              try clear hcz7_0
              try clear hcz9_0
              try clear hfz4_0
              try clear hfz7_0
              try clear hfz9_0
              try clear p2
              try clear p6
              obtain ⟨x9_5, x10_5, rfl, HA, HK5, HO_4, HO_9, BK206, HB⟩ := hrel; cases gk with
              | zero => exact absurd HA.out (by simp [spec_IsPrimitiveMorphism.l3])
              | succ k5 =>
               have H := HA.out; clear HA; simp only [spec_IsPrimitiveMorphism.l3] at H; by_cases c24 : 0 ≤ x8_4
               ·rw [if_pos c24] at H; have c24b0 : decide (0 ≤ x8_4) = true := decide_eq_true c24; clear c24; by_cases c25 : x8_4 < (x4_4.length : Int)
                ·rw [if_pos c25] at H; have c25b0 : decide (x8_4 < (x4_4.length : Int)) = true := decide_eq_true c25; clear c25; by_cases c26 : x10_5 < ((rd_L1 x4_4 x8_4).length : Int)
                 ·rw [if_pos c26] at H; have c26b0 : decide (x10_5 < ((rd_L1 x4_4 x8_4).length : Int)) = true := decide_eq_true c26; clear c26; by_cases c27 : 0 ≤ x10_5
                  ·rw [if_pos c27] at H; have c27b0 : decide (0 ≤ x10_5) = true := decide_eq_true c27; clear c27; by_cases c28 : 0 ≤ (rd (rd_L1 x4_4 x8_4) x10_5)
                   ·rw [if_pos c28] at H; have c28b0 : decide (0 ≤ (rd (rd_L1 x4_4 x8_4) x10_5)) = true := decide_eq_true c28; clear c28; by_cases c29 : (rd (rd_L1 x4_4 x8_4) x10_5) < (l0_0.length : Int)
                    ·rw [if_pos c29] at H; have c29b0 : decide ((rd (rd_L1 x4_4 x8_4) x10_5) < (l0_0.length : Int)) = true := decide_eq_true c29; clear c29; have H' := am H; clear H; obtain ⟨Ao30, co30, eo30⟩ := Kd.S_slice HO_4.out; subst eo30; have p220 : 0 ≤ (x8_4 : Int) := oD; have q220 : x8_4 < (x4_4.length : Int) := oD; obtain ⟨ad220, A220_0, c220_0, e220, hx220_0, hl220_0, hi220_0⟩ := at_L1 (Kd.S_reads' HO_4.out).2.2 x8_4 p220 q220; cases e220; obtain ⟨ce220, hce220, hMe220, hcc220⟩ := Kd.S_get HO_4.out [] x8_4 p220 (by first | exact q220 | exact oD | (have e_ := (Kd.S_reads' HO_4.out).1; omega)); obtain ⟨ve220_0, rfl, ge220_0⟩ := hMe220; have hv220_0 := hcc220 0 _ rfl; rw [Nat.add_zero, show ((Kd.slice 3 (Kd.int .i64))).sz = 1 from rfl, Nat.mul_one] at hv220_0; replace hv220_0 := Option.some.inj (hv220_0.symm.trans hx220_0); rw [hv220_0] at ge220_0; have HL220_0 := am (show Kd.R (Kd.int .i64) 3 _ _ _ _ (rd_L1 x4_4 x8_4) from ge220_0); clear hv220_0 ge220_0; clear hcc220 hce220; have HR220_0 := am hi220_0; have HC220_0 := am hl220_0; clear hi220_0 hl220_0; replace p220 := eq_true p220; replace q220 := eq_true q220; have hcz31_0 := z10 BK206; have hfz31_0 := blk_frozen BK206.out 0; have p222 : 0 ≤ (x8_4 : Int) := oD; have q222 : x8_4 < (x4_4.length : Int) := oD; obtain ⟨ad222, A222_0, c222_0, e222, hx222_0, hl222_0, hi222_0⟩ := at_L1 (Kd.S_reads' HO_4.out).2.2 x8_4 p222 q222; obtain rfl : ad220 = ad222 := (by injection e222); obtain ⟨ce222, hce222, hMe222, hcc222⟩ := Kd.S_get HO_4.out [] x8_4 p222 (by first | exact q222 | exact oD | (have e_ := (Kd.S_reads' HO_4.out).1; omega)); obtain ⟨ve222_0, rfl, ge222_0⟩ := hMe222; have hv222_0 := hcc222 0 _ rfl; rw [Nat.add_zero, show ((Kd.slice 3 (Kd.int .i64))).sz = 1 from rfl, Nat.mul_one] at hv222_0; replace hv222_0 := Option.some.inj (hv222_0.symm.trans hx222_0); rw [hv222_0] at ge222_0; have HL222_0 := am (show Kd.R (Kd.int .i64) 3 _ _ _ _ (rd_L1 x4_4 x8_4) from ge222_0); clear hv222_0 ge222_0; clear hcc222 hce222; have HR222_0 := am hi222_0; have HC222_0 := am hl222_0; clear hi222_0 hl222_0; replace p222 := eq_true p222; replace q222 := eq_true q222; have ea_ := Option.some.inj (hx220_0.symm.trans hx222_0); injection ea_ with ea_ en_ ec_; subst ea_; subst ec_; clear en_; have p223 : 0 ≤ (x10_5 : Int) := oD; have q223 : x10_5 < ((rd_L1 x4_4 x8_4).length : Int) := oD; obtain ⟨ad223, e223, hx223_0⟩ := Kd.at_int (by repeat (first | (with_reducible exact HR222_0.out) | (with_reducible refine Kd.C_alloc ?_ _) | (with_reducible refine Kd.C_drewN ?_ _) | (with_reducible refine Kd.C_drew ?_) | exact HR222_0.out)) x10_5 p223 q223; cases e223; replace p223 := eq_true p223; replace q223 := eq_true q223; have p224 : 0 ≤ ((rd (rd_L1 x4_4 x8_4) x10_5) : Int) := oD; have q224 : (rd (rd_L1 x4_4 x8_4) x10_5) < (l0_0.length : Int) := oD; obtain ⟨ad224, A224_0, c224_0, e224, hx224_0, hl224_0, hi224_0⟩ := at_L1 HR0_0.out (rd (rd_L1 x4_4 x8_4) x10_5) p224 q224; cases e224; replace hx224_0 := (HB.out.cell (World.block_lt_of_cell? w _ hx224_0)).trans hx224_0; have HR224_0 := am hi224_0; have HC224_0 := am hl224_0; clear hi224_0 hl224_0; replace p224 := eq_true p224; replace q224 := eq_true q224; go_wp2
                     repeat (go_quiet (fail); try go_wp2)
                     go_loopg [9, 12] k5 (fun kq v9 v12 w' => ∃ (x9_6 : List Int) (x12_6 : Int), v12 = .int .i64 x12_6 ∧ Aside0 (spec_IsPrimitiveMorphism.l4 kq (l0_0.length : Int) x4_4 x6_3 x7_4 x8_4 x9_6 x10_5 (rd_L1 l0_0 (rd (rd_L1 x4_4 x8_4) x10_5)) x12_6 l0_0 = some r) ∧ Aside0 (kq ≤ k5) ∧ Aside0 (Kd.S (Kd.slice 3 (Kd.int .i64)) 36 w' w.heap.size (fun k_ => some k_ ≠ (v9 : Value).ownBlock) (.slice (some ad220) x4_4.length co30) x4_4) ∧ Aside0 (Kd.R (Kd.int .i64) 3 w' w.heap.size (fun _ => True) v9 x9_6) ∧ Aside0 (w'.heap[gb206]? = some (.cells #[(.slice (some ad224) l0_0.length c0_0)] 28 (0, 0))) ∧ Aside0 (Below w.heap.size w w'))
                     case atStart => exact ⟨(x9_5), (0), (by first | rfl | (simp; done) | (simp [*]; done)), H', ⟨Nat.le_refl _⟩, ⟨by exact rS HO_4⟩, ⟨by exact rR HO_9⟩, ⟨by exact rX BK206⟩, ⟨by exact rB HB⟩⟩
                     case round =>
                      clear H'
                      try clear c1
                      try clear c2
                      try clear p2
                      try clear q2
                      try clear hx2
                      try clear c6
                      try clear p6
                      try clear c11
                      try clear c14
                      try clear c14b0
                      try clear c15
                      try clear c20
                      try clear c20b0
                      try clear c21
                      try clear c21b0
                      try clear c22
                      try clear p22
                      try clear q22
                      try clear hx22
                      try clear c24
                      try clear c24b0
                      try clear c25
                      try clear c25b0
                      try clear c26
                      try clear c26b0
                      try clear c27
                      try clear c27b0
                      try clear c28
                      try clear c28b0
                      try clear c29
                      try clear c29b0
                      try clear hcz31_0
                      try clear hcz4_0
                      try clear hcz7_0
                      try clear hcz9_0
                      try clear hfz31_0
                      try clear hfz4_0
                      try clear hfz7_0
                      try clear hfz9_0
                      try clear hx220_0
                      try clear hx222_0
                      try clear hx223_0
                      try clear hx224_0
                      try clear p2
                      try clear p220
                      try clear p222
                      try clear p223
                      try clear p224
                      try clear p6
                      try clear q220
                      try clear q222
                      try clear q223
                      try clear q224
                      obtain ⟨x9_6, x12_6, rfl, HA, HK6, HO_4, HO_9, BK206, HB⟩ := hrel; cases gk with
                      | zero => exact absurd HA.out (by simp [spec_IsPrimitiveMorphism.l4])
                      | succ k6 =>
                       have H := HA.out; clear HA; simp only [spec_IsPrimitiveMorphism.l4] at H; by_cases c32 : x12_6 < ((rd_L1 l0_0 (rd (rd_L1 x4_4 x8_4) x10_5)).length : Int)
                       ·rw [if_pos c32] at H; have c32b0 : decide (x12_6 < ((rd_L1 l0_0 (rd (rd_L1 x4_4 x8_4) x10_5)).length : Int)) = true := decide_eq_true c32; clear c32; by_cases c33 : 0 ≤ x12_6
                        ·rw [if_pos c33] at H; have c33b0 : decide (0 ≤ x12_6) = true := decide_eq_true c33; clear c33; replace H := bE H; obtain ⟨t226, A340, H⟩ := H; replace H : (if t226 = true then (spec_IsPrimitiveMorphism.l4 k6 (l0_0.length : Int) x4_4 x6_3 x7_4 x8_4 x9_6 x10_5 (rd_L1 l0_0 (rd (rd_L1 x4_4 x8_4) x10_5)) (wrap64 (x12_6 + 1)) l0_0) else (if x9_6.length < 17592186044416 then (spec_IsPrimitiveMorphism.l4 k6 (l0_0.length : Int) x4_4 x6_3 x7_4 x8_4 (x9_6 ++ [rd (rd_L1 l0_0 (rd (rd_L1 x4_4 x8_4) x10_5)) x12_6]) x10_5 (rd_L1 l0_0 (rd (rd_L1 x4_4 x8_4) x10_5)) (wrap64 (x12_6 + 1)) l0_0) else (none))) = some r := H; have A34 := am A340; clear A340; by_cases c35 : t226 = true
                         ·subst c35; have H1 : (spec_IsPrimitiveMorphism.l4 k6 (l0_0.length : Int) x4_4 x6_3 x7_4 x8_4 x9_6 x10_5 (rd_L1 l0_0 (rd (rd_L1 x4_4 x8_4) x10_5)) (wrap64 (x12_6 + 1)) l0_0) = some r := by rw [if_pos rfl] at H; exact H
                          clear H; have H := H1; clear H1; have H' := am H; clear H; have p225 : 0 ≤ (x12_6 : Int) := oD; have q225 : x12_6 < ((rd_L1 l0_0 (rd (rd_L1 x4_4 x8_4) x10_5)).length : Int) := oD; obtain ⟨ad225, e225, hx225_0⟩ := Kd.at_int HR224_0.out x12_6 p225 q225; cases e225; replace hx225_0 := (HB.out.cell (World.block_lt_of_cell? w _ hx225_0)).trans hx225_0; replace p225 := eq_true p225; replace q225 := eq_true q225; obtain ⟨Ao36, co36, eo36⟩ := Kd.R_slice HO_9.out; subst eo36; go_wp2_with (first | (go_at_call 113; (with_reducible refine (spec_l4Has.calls k6 _ _ x9_6 (rd (rd_L1 l0_0 (rd (rd_L1 x4_4 x8_4) x10_5)) x12_6) true _ ?side1 ?side2 A34.out).mono ?_); (case side1 => exact xC ((Kd.R_reads' HO_9.out).2.2)); (case side2 => exact (Kd.R_reads' HO_9.out).2.1); rintro e w' ⟨rfl, ⟨nd, rfl⟩⟩; (try first | exact ⟨rfl, _, World.drewN_drewN _ _ _⟩ | exact ⟨rfl, _, Eq.trans (World.drewN_drewN _ _ _) (congrArg (World.drewN _) (Nat.add_assoc _ _ _))⟩)))
                          repeat (go_quiet (first | (go_at_call 113; (with_reducible refine (spec_l4Has.calls k6 _ _ x9_6 (rd (rd_L1 l0_0 (rd (rd_L1 x4_4 x8_4) x10_5)) x12_6) true _ ?side1 ?side2 A34.out).mono ?_); (case side1 => exact xC ((Kd.R_reads' HO_9.out).2.2)); (case side2 => exact (Kd.R_reads' HO_9.out).2.1); rintro e w' ⟨rfl, ⟨nd, rfl⟩⟩; (try first | exact ⟨rfl, _, World.drewN_drewN _ _ _⟩ | exact ⟨rfl, _, Eq.trans (World.drewN_drewN _ _ _) (congrArg (World.drewN _) (Nat.add_assoc _ _ _))⟩))); try go_wp2_with (first | (go_at_call 113; (with_reducible refine (spec_l4Has.calls k6 _ _ x9_6 (rd (rd_L1 l0_0 (rd (rd_L1 x4_4 x8_4) x10_5)) x12_6) true _ ?side1 ?side2 A34.out).mono ?_); (case side1 => exact xC ((Kd.R_reads' HO_9.out).2.2)); (case side2 => exact (Kd.R_reads' HO_9.out).2.1); rintro e w' ⟨rfl, ⟨nd, rfl⟩⟩; (try first | exact ⟨rfl, _, World.drewN_drewN _ _ _⟩ | exact ⟨rfl, _, Eq.trans (World.drewN_drewN _ _ _) (congrArg (World.drewN _) (Nat.add_assoc _ _ _))⟩))))
                          go_roundg k6
                          case measure => have := HJ1.out; have := HK2.out; have := HK3.out; have := HK4.out; have := HK5.out; have := HK6.out; omega
                          case rel => exact ⟨(x9_6), (wrap64 (x12_6 + 1)), (by first | rfl | (simp; done) | (simp [*]; done)), H', ⟨by have := HJ1.out; have := HK2.out; have := HK3.out; have := HK4.out; have := HK5.out; have := HK6.out; omega⟩, ⟨by exact rS HO_4⟩, ⟨by exact rR HO_9⟩, ⟨by exact rX BK206⟩, ⟨by exact rB HB⟩⟩
                         ·replace c35 := Bool.eq_false_iff.mpr c35; subst c35; have H1 : (if x9_6.length < 17592186044416 then (spec_IsPrimitiveMorphism.l4 k6 (l0_0.length : Int) x4_4 x6_3 x7_4 x8_4 (x9_6 ++ [rd (rd_L1 l0_0 (rd (rd_L1 x4_4 x8_4) x10_5)) x12_6]) x10_5 (rd_L1 l0_0 (rd (rd_L1 x4_4 x8_4) x10_5)) (wrap64 (x12_6 + 1)) l0_0) else (none)) = some r := by rw [if_neg (show ¬ (false = true) by decide)] at H; exact H
                          clear H; have H := H1; clear H1; by_cases c37 : x9_6.length < 17592186044416
                          ·rw [if_pos c37] at H; have LMc37 := am c37; clear c37; obtain ⟨y228, hy228⟩ : ∃ y_ : List Int, y_ = (x9_6 ++ [rd (rd_L1 l0_0 (rd (rd_L1 x4_4 x8_4) x10_5)) x12_6]) := ⟨_, rfl⟩; replace H : (spec_IsPrimitiveMorphism.l4 k6 (l0_0.length : Int) x4_4 x6_3 x7_4 x8_4 y228 x10_5 (rd_L1 l0_0 (rd (rd_L1 x4_4 x8_4) x10_5)) (wrap64 (x12_6 + 1)) l0_0) = some r := by rw [hy228]; first | exact H | exact (Option.bind_some _ _).symm.trans H
                           have Ny228 := am hy228; clear hy228; have H' := am H; clear H; have p225 : 0 ≤ (x12_6 : Int) := oD; have q225 : x12_6 < ((rd_L1 l0_0 (rd (rd_L1 x4_4 x8_4) x10_5)).length : Int) := oD; obtain ⟨ad225, e225, hx225_0⟩ := Kd.at_int HR224_0.out x12_6 p225 q225; cases e225; replace hx225_0 := (HB.out.cell (World.block_lt_of_cell? w _ hx225_0)).trans hx225_0; replace p225 := eq_true p225; replace q225 := eq_true q225; obtain ⟨Ao38, co38, eo38⟩ := Kd.R_slice HO_9.out; subst eo38; go_wp2_with (first | (go_at_call 113; (with_reducible refine (spec_l4Has.calls k6 _ _ x9_6 (rd (rd_L1 l0_0 (rd (rd_L1 x4_4 x8_4) x10_5)) x12_6) false _ ?side1 ?side2 A34.out).mono ?_); (case side1 => exact xC ((Kd.R_reads' HO_9.out).2.2)); (case side2 => exact (Kd.R_reads' HO_9.out).2.1); rintro e w' ⟨rfl, ⟨nd, rfl⟩⟩; (try first | exact ⟨rfl, _, World.drewN_drewN _ _ _⟩ | exact ⟨rfl, _, Eq.trans (World.drewN_drewN _ _ _) (congrArg (World.drewN _) (Nat.add_assoc _ _ _))⟩); have p227 : 0 ≤ (x12_6 : Int) := oD; have q227 : x12_6 < ((rd_L1 l0_0 (rd (rd_L1 x4_4 x8_4) x10_5)).length : Int) := oD; obtain ⟨ad227, e227, hx227_0⟩ := Kd.at_int HR224_0.out x12_6 p227 q227; obtain rfl : ad225 = ad227 := (by injection e227); replace hx227_0 := (HB.out.cell (World.block_lt_of_cell? w _ hx227_0)).trans hx227_0; replace p227 := eq_true p227; replace q227 := eq_true q227) | ((with_reducible refine gate_builtin (b := .append) (xs := #[.tmp 80, .tmp 85]) rfl ?_); (try (refine gate_guard (by rfl) ?_; dsimp only)); at_builtin; refine Kd.R_append (Kd.int .i64) (w0 := w) w.heap.size rfl (.tmp 80) (.tmp 85) 36 3 (.int .i64 0) 8 rfl Try.underlying36 info3 rfl (by decide) (by omega) (.slice Ao38 x9_6.length co38) x9_6 (rd (rd_L1 l0_0 (rd (rd_L1 x4_4 x8_4) x10_5)) x12_6) [.int .i64 (rd (rd_L1 l0_0 (rd (rd_L1 x4_4 x8_4) x10_5)) x12_6)] (fun _ => True) (fun _ => False) rfl rfl ?aP (fun _ hk => hk.elim) ?aF ?aO ?aB ?aS ?aL ?_; (case aP => exact rfl); (case aB => exact (by exact rB HB)); (case aF => exact (fun _ _ => trivial)); (case aO => exact (by exact rR HO_9)); (case aS => exact (bZ HB)); (case aL => have := LMc37.out; omega); intro v229 w39 ho hb hg hat; rw [← Ny228.out] at ho; replace HO_4 := am (Kd.S_after (ok := (fun _ => True)) (by exact xS (Kd.S_mono HO_4.out (fun _ hk => ⟨trivial, hk⟩))) hg hat); replace BK206 := am (blk_grown (g := gb206) (o := .cells #[.slice (some ad224) l0_0.length c0_0] 28 (0, 0)) (by exact rX BK206) hg (Kd.R_ne HO_9.out BK206.out (by decide))); replace HB := am (hb); have HO230 := am (ho); clear HO_9; clear ho hb hg hat))
                           repeat (go_quiet (first | (go_at_call 113; (with_reducible refine (spec_l4Has.calls k6 _ _ x9_6 (rd (rd_L1 l0_0 (rd (rd_L1 x4_4 x8_4) x10_5)) x12_6) false _ ?side1 ?side2 A34.out).mono ?_); (case side1 => exact xC ((Kd.R_reads' HO_9.out).2.2)); (case side2 => exact (Kd.R_reads' HO_9.out).2.1); rintro e w' ⟨rfl, ⟨nd, rfl⟩⟩; (try first | exact ⟨rfl, _, World.drewN_drewN _ _ _⟩ | exact ⟨rfl, _, Eq.trans (World.drewN_drewN _ _ _) (congrArg (World.drewN _) (Nat.add_assoc _ _ _))⟩); have p227 : 0 ≤ (x12_6 : Int) := oD; have q227 : x12_6 < ((rd_L1 l0_0 (rd (rd_L1 x4_4 x8_4) x10_5)).length : Int) := oD; obtain ⟨ad227, e227, hx227_0⟩ := Kd.at_int HR224_0.out x12_6 p227 q227; obtain rfl : ad225 = ad227 := (by injection e227); replace hx227_0 := (HB.out.cell (World.block_lt_of_cell? w _ hx227_0)).trans hx227_0; replace p227 := eq_true p227; replace q227 := eq_true q227) | ((with_reducible refine gate_builtin (b := .append) (xs := #[.tmp 80, .tmp 85]) rfl ?_); (try (refine gate_guard (by rfl) ?_; dsimp only)); at_builtin; refine Kd.R_append (Kd.int .i64) (w0 := w) w.heap.size rfl (.tmp 80) (.tmp 85) 36 3 (.int .i64 0) 8 rfl Try.underlying36 info3 rfl (by decide) (by omega) (.slice Ao38 x9_6.length co38) x9_6 (rd (rd_L1 l0_0 (rd (rd_L1 x4_4 x8_4) x10_5)) x12_6) [.int .i64 (rd (rd_L1 l0_0 (rd (rd_L1 x4_4 x8_4) x10_5)) x12_6)] (fun _ => True) (fun _ => False) rfl rfl ?aP (fun _ hk => hk.elim) ?aF ?aO ?aB ?aS ?aL ?_; (case aP => exact rfl); (case aB => exact (by exact rB HB)); (case aF => exact (fun _ _ => trivial)); (case aO => exact (by exact rR HO_9)); (case aS => exact (bZ HB)); (case aL => have := LMc37.out; omega); intro v229 w39 ho hb hg hat; rw [← Ny228.out] at ho; replace HO_4 := am (Kd.S_after (ok := (fun _ => True)) (by exact xS (Kd.S_mono HO_4.out (fun _ hk => ⟨trivial, hk⟩))) hg hat); replace BK206 := am (blk_grown (g := gb206) (o := .cells #[.slice (some ad224) l0_0.length c0_0] 28 (0, 0)) (by exact rX BK206) hg (Kd.R_ne HO_9.out BK206.out (by decide))); replace HB := am (hb); have HO230 := am (ho); clear HO_9; clear ho hb hg hat)); try go_wp2_with (first | (go_at_call 113; (with_reducible refine (spec_l4Has.calls k6 _ _ x9_6 (rd (rd_L1 l0_0 (rd (rd_L1 x4_4 x8_4) x10_5)) x12_6) false _ ?side1 ?side2 A34.out).mono ?_); (case side1 => exact xC ((Kd.R_reads' HO_9.out).2.2)); (case side2 => exact (Kd.R_reads' HO_9.out).2.1); rintro e w' ⟨rfl, ⟨nd, rfl⟩⟩; (try first | exact ⟨rfl, _, World.drewN_drewN _ _ _⟩ | exact ⟨rfl, _, Eq.trans (World.drewN_drewN _ _ _) (congrArg (World.drewN _) (Nat.add_assoc _ _ _))⟩); have p227 : 0 ≤ (x12_6 : Int) := oD; have q227 : x12_6 < ((rd_L1 l0_0 (rd (rd_L1 x4_4 x8_4) x10_5)).length : Int) := oD; obtain ⟨ad227, e227, hx227_0⟩ := Kd.at_int HR224_0.out x12_6 p227 q227; obtain rfl : ad225 = ad227 := (by injection e227); replace hx227_0 := (HB.out.cell (World.block_lt_of_cell? w _ hx227_0)).trans hx227_0; replace p227 := eq_true p227; replace q227 := eq_true q227) | ((with_reducible refine gate_builtin (b := .append) (xs := #[.tmp 80, .tmp 85]) rfl ?_); (try (refine gate_guard (by rfl) ?_; dsimp only)); at_builtin; refine Kd.R_append (Kd.int .i64) (w0 := w) w.heap.size rfl (.tmp 80) (.tmp 85) 36 3 (.int .i64 0) 8 rfl Try.underlying36 info3 rfl (by decide) (by omega) (.slice Ao38 x9_6.length co38) x9_6 (rd (rd_L1 l0_0 (rd (rd_L1 x4_4 x8_4) x10_5)) x12_6) [.int .i64 (rd (rd_L1 l0_0 (rd (rd_L1 x4_4 x8_4) x10_5)) x12_6)] (fun _ => True) (fun _ => False) rfl rfl ?aP (fun _ hk => hk.elim) ?aF ?aO ?aB ?aS ?aL ?_; (case aP => exact rfl); (case aB => exact (by exact rB HB)); (case aF => exact (fun _ _ => trivial)); (case aO => exact (by exact rR HO_9)); (case aS => exact (bZ HB)); (case aL => have := LMc37.out; omega); intro v229 w39 ho hb hg hat; rw [← Ny228.out] at ho; replace HO_4 := am (Kd.S_after (ok := (fun _ => True)) (by exact xS (Kd.S_mono HO_4.out (fun _ hk => ⟨trivial, hk⟩))) hg hat); replace BK206 := am (blk_grown (g := gb206) (o := .cells #[.slice (some ad224) l0_0.length c0_0] 28 (0, 0)) (by exact rX BK206) hg (Kd.R_ne HO_9.out BK206.out (by decide))); replace HB := am (hb); have HO230 := am (ho); clear HO_9; clear ho hb hg hat)))
                           go_roundg k6
                           case measure => have := HJ1.out; have := HK2.out; have := HK3.out; have := HK4.out; have := HK5.out; have := HK6.out; omega
                           case rel => exact ⟨(y228), (wrap64 (x12_6 + 1)), (by first | rfl | (simp; done) | (simp [*]; done)), H', ⟨by have := HJ1.out; have := HK2.out; have := HK3.out; have := HK4.out; have := HK5.out; have := HK6.out; omega⟩, ⟨by exact xS (Kd.S_mono HO_4.out (fun _ hk => hk.2))⟩, ⟨by exact rR HO230⟩, ⟨by exact rX BK206⟩, ⟨by exact rB HB⟩⟩
                          ·rw [if_neg c37] at H; exact absurd H (by simp)
                        ·rw [if_neg c33] at H; exact absurd H (by simp)
                       ·rw [if_neg c32] at H; have c32b0 : decide (x12_6 < ((rd_L1 l0_0 (rd (rd_L1 x4_4 x8_4) x10_5)).length : Int)) = false := decide_eq_false c32; clear c32; have H' := am H; clear H; go_wp2
                        repeat (go_quiet (fail); try go_wp2)
                        go_roundg k6
                        case measure => have := HJ1.out; have := HK2.out; have := HK3.out; have := HK4.out; have := HK5.out; have := HK6.out; omega
                        case rel => exact ⟨(x9_6), (wrap64 (x10_5 + 1)), (by first | rfl | (simp; done) | (simp [*]; done)), H', ⟨by have := HJ1.out; have := HK2.out; have := HK3.out; have := HK4.out; have := HK5.out; have := HK6.out; omega⟩, ⟨by exact rS HO_4⟩, ⟨by exact rR HO_9⟩, ⟨by exact rX BK206⟩, ⟨by exact rB HB⟩⟩
                    ·rw [if_neg c29] at H; exact absurd H (by simp)
                   ·rw [if_neg c28] at H; exact absurd H (by simp)
                  ·rw [if_neg c27] at H; exact absurd H (by simp)
                 ·rw [if_neg c26] at H; have c26b0 : decide (x10_5 < ((rd_L1 x4_4 x8_4).length : Int)) = false := decide_eq_false c26; clear c26; obtain ⟨Au9, cu9, rfl⟩ := Kd.R_slice HO_9.out; obtain ⟨y221, hy221⟩ : ∃ y_ : List (List Int), y_ = (x4_4.set (x8_4 : Int).toNat x9_5) := ⟨_, rfl⟩; replace H : (if x7_4 = true then (spec_IsPrimitiveMorphism.l2 k5 (l0_0.length : Int) y221 x6_3 ((x9_5.length : Int) == (l0_0.length : Int)) (wrap64 (x8_4 + 1)) l0_0) else (spec_IsPrimitiveMorphism.l2 k5 (l0_0.length : Int) y221 x6_3 false (wrap64 (x8_4 + 1)) l0_0)) = some r := by rw [hy221]; first | exact H | exact (Option.bind_some _ _).symm.trans H
                  have Ny221 := am hy221; clear hy221; by_cases c41 : x7_4 = true
                  ·subst c41; have H1 : (spec_IsPrimitiveMorphism.l2 k5 (l0_0.length : Int) y221 x6_3 ((x9_5.length : Int) == (l0_0.length : Int)) (wrap64 (x8_4 + 1)) l0_0) = some r := by rw [if_pos rfl] at H; exact H
                   clear H; have H := H1; clear H1; have H' := am H; clear H; obtain ⟨Ao42, co42, eo42⟩ := Kd.S_slice HO_4.out; subst eo42; have p220 : 0 ≤ (x8_4 : Int) := oD; have q220 : x8_4 < (x4_4.length : Int) := oD; obtain ⟨ad220, A220_0, c220_0, e220, hx220_0, hl220_0, hi220_0⟩ := at_L1 (Kd.S_reads' HO_4.out).2.2 x8_4 p220 q220; cases e220; obtain ⟨ce220, hce220, hMe220, hcc220⟩ := Kd.S_get HO_4.out [] x8_4 p220 (by first | exact q220 | exact oD | (have e_ := (Kd.S_reads' HO_4.out).1; omega)); obtain ⟨ve220_0, rfl, ge220_0⟩ := hMe220; have hv220_0 := hcc220 0 _ rfl; rw [Nat.add_zero, show ((Kd.slice 3 (Kd.int .i64))).sz = 1 from rfl, Nat.mul_one] at hv220_0; replace hv220_0 := Option.some.inj (hv220_0.symm.trans hx220_0); rw [hv220_0] at ge220_0; have HL220_0 := am (show Kd.R (Kd.int .i64) 3 _ _ _ _ (rd_L1 x4_4 x8_4) from ge220_0); clear hv220_0 ge220_0; clear hcc220 hce220; have HR220_0 := am hi220_0; have HC220_0 := am hl220_0; clear hi220_0 hl220_0; replace p220 := eq_true p220; replace q220 := eq_true q220; have p40 : 0 ≤ (x8_4 : Int) := oD; have q40 : (x8_4 : Int) < ((x4_4.length : Int) : Int) := oD; obtain ⟨go40, co40, eo40, gb40, gl40, cl40, HG40⟩ := Kd.S_form HO_4.out (by omega)
                   (first | cases eo40 | (injection eo40 with ea_ en_ ec_; (first | subst ea_ | (injection ea_ with ea_; subst ea_)); subst ec_; clear en_))
                   have GB40 := am gb40; have GG40 := am HG40; clear gb40 gl40 HG40
                   (first | simp only [add_plain] at hx220_0 | skip)
                   (first | simp only [add_plain] at hx222_0 | skip)
                   obtain ⟨_, ce40, hcl40, hM40, hcc40, hfr40, _, _⟩ := Kd.S_elem HO_4.out [] (x8_4 : Int) p40 q40; obtain ⟨ve40_0, rfl, ge40_0⟩ := hM40; have hx40_0 := hcc40 0 _ rfl; have hf40_0 := hfr40 0; (try simp only [show ((Kd.slice 3 (Kd.int .i64))).sz = 1 from rfl, Nat.mul_one, Nat.add_zero] at hx40_0); (try simp only [show ((Kd.slice 3 (Kd.int .i64))).sz = 1 from rfl, Nat.mul_one, Nat.add_zero] at hf40_0); clear hcl40 hcc40 hfr40; (try clear hM40); replace p40 := eq_true p40; replace q40 := eq_true q40; have HX43 := am (show Kd.S (Kd.slice 3 (Kd.int .i64)) 36 wr w.heap.size (fun k_ => ((fun _ => True)) k_ ∧ ¬ ((fun k_ => some k_ = (.slice Au9 x9_5.length cu9 : Value).ownBlock)) k_) (.slice (some ⟨go40, 0, none⟩) x4_4.length co42) x4_4 from (by exact xS (Kd.S_mono HO_4.out (fun k_ hk => ⟨trivial, fun e_ => hk e_⟩)))); obtain ⟨oki43, ce43, hcl43, hM43, hcc43, hfr43, hoki43, hH43⟩ := Kd.S_elem HX43.out [] (x8_4 : Int) (oD) (by have h_ : (x8_4 : Int) < ((x4_4.length : Int) : Int) := oD; first | exact h_ | (have e_ := (Kd.S_reads' HO_4.out).1; omega) | simpa using h_); obtain ⟨ve43_0, rfl, ge43_0⟩ := hM43; have HP43 := Kd.S_seg hH43 (oD) (by have h_ : (x8_4 : Int) < ((x4_4.length : Int) : Int) := oD; first | exact h_ | (have e_ := (Kd.S_reads' HO_4.out).1; omega) | simpa using h_) (seg := [(.slice Au9 x9_5.length cu9 : Value)]) (j := 0) (show 1 ≤ 1 from by decide) (x' := x9_5) (Kd.M_row (Kd.R_mono (Kd.R_tight rfl (Kd.R_mono (ok' := fun k_ => ((fun _ => True)) k_ ∧ k_ ≠ go40) (Kd.R_apart' (HO_9.out) (Kd.S_typed HO_4.out) (by decide)) (fun k_ hk => ⟨trivial, fun e_ => (hk.2) (by rw [e_]; rfl)⟩))) (fun _ h_ => Or.inr (h_)))) (fun _ hk => hk) (fun k_ hk_ => ((Kd.R_mono (ok' := fun k_ => ((fun _ => True)) k_ ∧ k_ ≠ go40) (Kd.R_apart' (HO_9.out) (Kd.S_typed HO_4.out) (by decide)) (fun k_ hk => ⟨trivial, fun e_ => (hk.2) (by rw [e_]; rfl)⟩))).1 k_ hk_.symm); have hx43_0 := hcc43 0 _ rfl; (try simp only [show ((Kd.slice 3 (Kd.int .i64))).sz = 1 from rfl, Nat.mul_one, Nat.add_zero] at hx43_0); have hf43_0 := hfr43 0; (try simp only [show ((Kd.slice 3 (Kd.int .i64))).sz = 1 from rfl, Nat.mul_one, Nat.add_zero] at hf43_0); clear hcl43 hcc43 hfr43 hoki43 hH43; (try clear hM43); (try simp only [show ((Kd.slice 3 (Kd.int .i64))).sz = 1 from rfl, Nat.mul_one, Nat.add_zero] at HP43); go_wp2_with (first | ((with_reducible refine gate_store (t := 36) (p := 90) rfl ?_); (try (rw [drewN_self wr]; generalize hq_ : World.drewN wr _ = wr; have n0_ := am (Kd.S_at hq_ HO_4.out); have n1_ := am (Kd.R_at hq_ HL220_0.out); have n2_ := am (blk_at hq_ BK206.out); have n3_ := am (below_at hq_ HB.out); clear hq_ HO_4 HL220_0 BK206 HB; have HO_4 := n0_; have HL220_0 := n1_; have BK206 := n2_; have HB := n3_; clear n0_ n1_ n2_ n3_; (try (have HX43 := am (show Kd.S (Kd.slice 3 (Kd.int .i64)) 36 wr w.heap.size (fun k_ => ((fun _ => True)) k_ ∧ ¬ ((fun k_ => some k_ = (.slice Au9 x9_5.length cu9 : Value).ownBlock)) k_) (.slice (some ⟨go40, 0, none⟩) x4_4.length co42) x4_4 from (by exact xS (Kd.S_mono HO_4.out (fun k_ hk => ⟨trivial, fun e_ => hk e_⟩)))))); (try (obtain ⟨oki43, ce43, hcl43, hM43, hcc43, hfr43, hoki43, hH43⟩ := Kd.S_elem HX43.out [] (x8_4 : Int) (oD) (by have h_ : (x8_4 : Int) < ((x4_4.length : Int) : Int) := oD; first | exact h_ | (have e_ := (Kd.S_reads' HO_4.out).1; omega) | simpa using h_))); (try (obtain ⟨ve43_0, rfl, ge43_0⟩ := hM43)); (try (have HP43 := Kd.S_seg hH43 (oD) (by have h_ : (x8_4 : Int) < ((x4_4.length : Int) : Int) := oD; first | exact h_ | (have e_ := (Kd.S_reads' HO_4.out).1; omega) | simpa using h_) (seg := [(.slice Au9 x9_5.length cu9 : Value)]) (j := 0) (show 1 ≤ 1 from by decide) (x' := x9_5) (Kd.M_row (Kd.R_mono (Kd.R_tight rfl (Kd.R_mono (ok' := fun k_ => ((fun _ => True)) k_ ∧ k_ ≠ go40) (Kd.R_apart' (HO_9.out) (Kd.S_typed HO_4.out) (by decide)) (fun k_ hk => ⟨trivial, fun e_ => (hk.2) (by rw [e_]; rfl)⟩))) (fun _ h_ => Or.inr (h_)))) (fun _ hk => hk) (fun k_ hk_ => ((Kd.R_mono (ok' := fun k_ => ((fun _ => True)) k_ ∧ k_ ≠ go40) (Kd.R_apart' (HO_9.out) (Kd.S_typed HO_4.out) (by decide)) (fun k_ hk => ⟨trivial, fun e_ => (hk.2) (by rw [e_]; rfl)⟩))).1 k_ hk_.symm))); (try (have hx43_0 := hcc43 0 _ rfl)); (try (try simp only [show ((Kd.slice 3 (Kd.int .i64))).sz = 1 from rfl, Nat.mul_one, Nat.add_zero] at hx43_0)); (try (have hf43_0 := hfr43 0)); (try (try simp only [show ((Kd.slice 3 (Kd.int .i64))).sz = 1 from rfl, Nat.mul_one, Nat.add_zero] at hf43_0)); (try (clear hcl43 hcc43 hfr43 hoki43 hH43; (try clear hM43))); (try (try simp only [show ((Kd.slice 3 (Kd.int .i64))).sz = 1 from rfl, Nat.mul_one, Nat.add_zero] at HP43)))); refine store_event (t := 36) (p := 90) (v := ?vo_w44) (w1 := (wr.setCell ⟨go40, (x8_4 : Int).toNat, none⟩ ((.slice Au9 x9_5.length cu9 : Value)))) ?hg ?ho ?hn ?hr ?_; (case ho => rfl); (case hg => rfl); (case hn => rfl); (case hr => go_simp <;> rfl); intro w44 hw; have hg : wr.grownBy w44 (some go40) := (by rw [hw]; exact HP43.2); have hp_ : Kd.S (Kd.slice 3 (Kd.int .i64)) 36 w44 w.heap.size (fun _ => True) (.slice (some ⟨go40, 0, none⟩) x4_4.length co42) y221 := (by rw [hw, Ny221.out]; exact HP43.1); clear HP43; replace BK206 := am (blk_grown (g := gb206) (o := .cells #[.slice A0_0 l0_0.length c0_0] 28 (0, 0)) (by exact rX BK206) hg (Kd.S_ne HO_4.out BK206.out (by decide))); replace HO_4 := am (hp_); replace HL220_0 := am (Kd.R_after (v := (.slice (some ⟨go40, 0, none⟩) x4_4.length co42)) (v1 := (.slice (some ⟨go40, 0, none⟩) x4_4.length co42)) (ok := (fun k_ => some k_ ≠ (.slice Au9 x9_5.length cu9 : Value).ownBlock)) (by exact rR HL220_0) hg (.inl rfl)); replace HB := am ((by rw [hw]; exact below_set (HB.out) GB40.out : Below w.heap.size w w44)); clear HO_9; clear hg hw hp_))
                   repeat (go_quiet (first | ((with_reducible refine gate_store (t := 36) (p := 90) rfl ?_); (try (rw [drewN_self wr]; generalize hq_ : World.drewN wr _ = wr; have n0_ := am (Kd.S_at hq_ HO_4.out); have n1_ := am (Kd.R_at hq_ HL220_0.out); have n2_ := am (blk_at hq_ BK206.out); have n3_ := am (below_at hq_ HB.out); clear hq_ HO_4 HL220_0 BK206 HB; have HO_4 := n0_; have HL220_0 := n1_; have BK206 := n2_; have HB := n3_; clear n0_ n1_ n2_ n3_; (try (have HX43 := am (show Kd.S (Kd.slice 3 (Kd.int .i64)) 36 wr w.heap.size (fun k_ => ((fun _ => True)) k_ ∧ ¬ ((fun k_ => some k_ = (.slice Au9 x9_5.length cu9 : Value).ownBlock)) k_) (.slice (some ⟨go40, 0, none⟩) x4_4.length co42) x4_4 from (by exact xS (Kd.S_mono HO_4.out (fun k_ hk => ⟨trivial, fun e_ => hk e_⟩)))))); (try (obtain ⟨oki43, ce43, hcl43, hM43, hcc43, hfr43, hoki43, hH43⟩ := Kd.S_elem HX43.out [] (x8_4 : Int) (oD) (by have h_ : (x8_4 : Int) < ((x4_4.length : Int) : Int) := oD; first | exact h_ | (have e_ := (Kd.S_reads' HO_4.out).1; omega) | simpa using h_))); (try (obtain ⟨ve43_0, rfl, ge43_0⟩ := hM43)); (try (have HP43 := Kd.S_seg hH43 (oD) (by have h_ : (x8_4 : Int) < ((x4_4.length : Int) : Int) := oD; first | exact h_ | (have e_ := (Kd.S_reads' HO_4.out).1; omega) | simpa using h_) (seg := [(.slice Au9 x9_5.length cu9 : Value)]) (j := 0) (show 1 ≤ 1 from by decide) (x' := x9_5) (Kd.M_row (Kd.R_mono (Kd.R_tight rfl (Kd.R_mono (ok' := fun k_ => ((fun _ => True)) k_ ∧ k_ ≠ go40) (Kd.R_apart' (HO_9.out) (Kd.S_typed HO_4.out) (by decide)) (fun k_ hk => ⟨trivial, fun e_ => (hk.2) (by rw [e_]; rfl)⟩))) (fun _ h_ => Or.inr (h_)))) (fun _ hk => hk) (fun k_ hk_ => ((Kd.R_mono (ok' := fun k_ => ((fun _ => True)) k_ ∧ k_ ≠ go40) (Kd.R_apart' (HO_9.out) (Kd.S_typed HO_4.out) (by decide)) (fun k_ hk => ⟨trivial, fun e_ => (hk.2) (by rw [e_]; rfl)⟩))).1 k_ hk_.symm))); (try (have hx43_0 := hcc43 0 _ rfl)); (try (try simp only [show ((Kd.slice 3 (Kd.int .i64))).sz = 1 from rfl, Nat.mul_one, Nat.add_zero] at hx43_0)); (try (have hf43_0 := hfr43 0)); (try (try simp only [show ((Kd.slice 3 (Kd.int .i64))).sz = 1 from rfl, Nat.mul_one, Nat.add_zero] at hf43_0)); (try (clear hcl43 hcc43 hfr43 hoki43 hH43; (try clear hM43))); (try (try simp only [show ((Kd.slice 3 (Kd.int .i64))).sz = 1 from rfl, Nat.mul_one, Nat.add_zero] at HP43)))); refine store_event (t := 36) (p := 90) (v := ?vo_w44) (w1 := (wr.setCell ⟨go40, (x8_4 : Int).toNat, none⟩ ((.slice Au9 x9_5.length cu9 : Value)))) ?hg ?ho ?hn ?hr ?_; (case ho => rfl); (case hg => rfl); (case hn => rfl); (case hr => go_simp <;> rfl); intro w44 hw; have hg : wr.grownBy w44 (some go40) := (by rw [hw]; exact HP43.2); have hp_ : Kd.S (Kd.slice 3 (Kd.int .i64)) 36 w44 w.heap.size (fun _ => True) (.slice (some ⟨go40, 0, none⟩) x4_4.length co42) y221 := (by rw [hw, Ny221.out]; exact HP43.1); clear HP43; replace BK206 := am (blk_grown (g := gb206) (o := .cells #[.slice A0_0 l0_0.length c0_0] 28 (0, 0)) (by exact rX BK206) hg (Kd.S_ne HO_4.out BK206.out (by decide))); replace HO_4 := am (hp_); replace HL220_0 := am (Kd.R_after (v := (.slice (some ⟨go40, 0, none⟩) x4_4.length co42)) (v1 := (.slice (some ⟨go40, 0, none⟩) x4_4.length co42)) (ok := (fun k_ => some k_ ≠ (.slice Au9 x9_5.length cu9 : Value).ownBlock)) (by exact rR HL220_0) hg (.inl rfl)); replace HB := am ((by rw [hw]; exact below_set (HB.out) GB40.out : Below w.heap.size w w44)); clear HO_9; clear hg hw hp_)); try go_wp2_with (first | ((with_reducible refine gate_store (t := 36) (p := 90) rfl ?_); (try (rw [drewN_self wr]; generalize hq_ : World.drewN wr _ = wr; have n0_ := am (Kd.S_at hq_ HO_4.out); have n1_ := am (Kd.R_at hq_ HL220_0.out); have n2_ := am (blk_at hq_ BK206.out); have n3_ := am (below_at hq_ HB.out); clear hq_ HO_4 HL220_0 BK206 HB; have HO_4 := n0_; have HL220_0 := n1_; have BK206 := n2_; have HB := n3_; clear n0_ n1_ n2_ n3_; (try (have HX43 := am (show Kd.S (Kd.slice 3 (Kd.int .i64)) 36 wr w.heap.size (fun k_ => ((fun _ => True)) k_ ∧ ¬ ((fun k_ => some k_ = (.slice Au9 x9_5.length cu9 : Value).ownBlock)) k_) (.slice (some ⟨go40, 0, none⟩) x4_4.length co42) x4_4 from (by exact xS (Kd.S_mono HO_4.out (fun k_ hk => ⟨trivial, fun e_ => hk e_⟩)))))); (try (obtain ⟨oki43, ce43, hcl43, hM43, hcc43, hfr43, hoki43, hH43⟩ := Kd.S_elem HX43.out [] (x8_4 : Int) (oD) (by have h_ : (x8_4 : Int) < ((x4_4.length : Int) : Int) := oD; first | exact h_ | (have e_ := (Kd.S_reads' HO_4.out).1; omega) | simpa using h_))); (try (obtain ⟨ve43_0, rfl, ge43_0⟩ := hM43)); (try (have HP43 := Kd.S_seg hH43 (oD) (by have h_ : (x8_4 : Int) < ((x4_4.length : Int) : Int) := oD; first | exact h_ | (have e_ := (Kd.S_reads' HO_4.out).1; omega) | simpa using h_) (seg := [(.slice Au9 x9_5.length cu9 : Value)]) (j := 0) (show 1 ≤ 1 from by decide) (x' := x9_5) (Kd.M_row (Kd.R_mono (Kd.R_tight rfl (Kd.R_mono (ok' := fun k_ => ((fun _ => True)) k_ ∧ k_ ≠ go40) (Kd.R_apart' (HO_9.out) (Kd.S_typed HO_4.out) (by decide)) (fun k_ hk => ⟨trivial, fun e_ => (hk.2) (by rw [e_]; rfl)⟩))) (fun _ h_ => Or.inr (h_)))) (fun _ hk => hk) (fun k_ hk_ => ((Kd.R_mono (ok' := fun k_ => ((fun _ => True)) k_ ∧ k_ ≠ go40) (Kd.R_apart' (HO_9.out) (Kd.S_typed HO_4.out) (by decide)) (fun k_ hk => ⟨trivial, fun e_ => (hk.2) (by rw [e_]; rfl)⟩))).1 k_ hk_.symm))); (try (have hx43_0 := hcc43 0 _ rfl)); (try (try simp only [show ((Kd.slice 3 (Kd.int .i64))).sz = 1 from rfl, Nat.mul_one, Nat.add_zero] at hx43_0)); (try (have hf43_0 := hfr43 0)); (try (try simp only [show ((Kd.slice 3 (Kd.int .i64))).sz = 1 from rfl, Nat.mul_one, Nat.add_zero] at hf43_0)); (try (clear hcl43 hcc43 hfr43 hoki43 hH43; (try clear hM43))); (try (try simp only [show ((Kd.slice 3 (Kd.int .i64))).sz = 1 from rfl, Nat.mul_one, Nat.add_zero] at HP43)))); refine store_event (t := 36) (p := 90) (v := ?vo_w44) (w1 := (wr.setCell ⟨go40, (x8_4 : Int).toNat, none⟩ ((.slice Au9 x9_5.length cu9 : Value)))) ?hg ?ho ?hn ?hr ?_; (case ho => rfl); (case hg => rfl); (case hn => rfl); (case hr => go_simp <;> rfl); intro w44 hw; have hg : wr.grownBy w44 (some go40) := (by rw [hw]; exact HP43.2); have hp_ : Kd.S (Kd.slice 3 (Kd.int .i64)) 36 w44 w.heap.size (fun _ => True) (.slice (some ⟨go40, 0, none⟩) x4_4.length co42) y221 := (by rw [hw, Ny221.out]; exact HP43.1); clear HP43; replace BK206 := am (blk_grown (g := gb206) (o := .cells #[.slice A0_0 l0_0.length c0_0] 28 (0, 0)) (by exact rX BK206) hg (Kd.S_ne HO_4.out BK206.out (by decide))); replace HO_4 := am (hp_); replace HL220_0 := am (Kd.R_after (v := (.slice (some ⟨go40, 0, none⟩) x4_4.length co42)) (v1 := (.slice (some ⟨go40, 0, none⟩) x4_4.length co42)) (ok := (fun k_ => some k_ ≠ (.slice Au9 x9_5.length cu9 : Value).ownBlock)) (by exact rR HL220_0) hg (.inl rfl)); replace HB := am ((by rw [hw]; exact below_set (HB.out) GB40.out : Below w.heap.size w w44)); clear HO_9; clear hg hw hp_)))
                   go_roundg k5
                   case measure => have := HJ1.out; have := HK2.out; have := HK3.out; have := HK4.out; have := HK5.out; omega
                   case rel => exact ⟨(y221), (((x9_5.length : Int) == (l0_0.length : Int))), (wrap64 (x8_4 + 1)), (by first | rfl | (simp; done) | (simp [*]; done)), (by first | rfl | (simp; done) | (simp [*]; done)), H', ⟨by have := HJ1.out; have := HK2.out; have := HK3.out; have := HK4.out; have := HK5.out; omega⟩, ⟨by exact rS HO_4⟩, ⟨by exact rX BK206⟩, ⟨by exact rB HB⟩⟩
                  ·replace c41 := Bool.eq_false_iff.mpr c41; subst c41; have H1 : (spec_IsPrimitiveMorphism.l2 k5 (l0_0.length : Int) y221 x6_3 false (wrap64 (x8_4 + 1)) l0_0) = some r := by rw [if_neg (show ¬ (false = true) by decide)] at H; exact H
                   clear H; have H := H1; clear H1; have H' := am H; clear H; obtain ⟨Ao45, co45, eo45⟩ := Kd.S_slice HO_4.out; subst eo45; have p220 : 0 ≤ (x8_4 : Int) := oD; have q220 : x8_4 < (x4_4.length : Int) := oD; obtain ⟨ad220, A220_0, c220_0, e220, hx220_0, hl220_0, hi220_0⟩ := at_L1 (Kd.S_reads' HO_4.out).2.2 x8_4 p220 q220; cases e220; obtain ⟨ce220, hce220, hMe220, hcc220⟩ := Kd.S_get HO_4.out [] x8_4 p220 (by first | exact q220 | exact oD | (have e_ := (Kd.S_reads' HO_4.out).1; omega)); obtain ⟨ve220_0, rfl, ge220_0⟩ := hMe220; have hv220_0 := hcc220 0 _ rfl; rw [Nat.add_zero, show ((Kd.slice 3 (Kd.int .i64))).sz = 1 from rfl, Nat.mul_one] at hv220_0; replace hv220_0 := Option.some.inj (hv220_0.symm.trans hx220_0); rw [hv220_0] at ge220_0; have HL220_0 := am (show Kd.R (Kd.int .i64) 3 _ _ _ _ (rd_L1 x4_4 x8_4) from ge220_0); clear hv220_0 ge220_0; clear hcc220 hce220; have HR220_0 := am hi220_0; have HC220_0 := am hl220_0; clear hi220_0 hl220_0; replace p220 := eq_true p220; replace q220 := eq_true q220; have p40 : 0 ≤ (x8_4 : Int) := oD; have q40 : (x8_4 : Int) < ((x4_4.length : Int) : Int) := oD; obtain ⟨go40, co40, eo40, gb40, gl40, cl40, HG40⟩ := Kd.S_form HO_4.out (by omega)
                   (first | cases eo40 | (injection eo40 with ea_ en_ ec_; (first | subst ea_ | (injection ea_ with ea_; subst ea_)); subst ec_; clear en_))
                   have GB40 := am gb40; have GG40 := am HG40; clear gb40 gl40 HG40
                   (first | simp only [add_plain] at hx220_0 | skip)
                   obtain ⟨_, ce40, hcl40, hM40, hcc40, hfr40, _, _⟩ := Kd.S_elem HO_4.out [] (x8_4 : Int) p40 q40; obtain ⟨ve40_0, rfl, ge40_0⟩ := hM40; have hx40_0 := hcc40 0 _ rfl; have hf40_0 := hfr40 0; (try simp only [show ((Kd.slice 3 (Kd.int .i64))).sz = 1 from rfl, Nat.mul_one, Nat.add_zero] at hx40_0); (try simp only [show ((Kd.slice 3 (Kd.int .i64))).sz = 1 from rfl, Nat.mul_one, Nat.add_zero] at hf40_0); clear hcl40 hcc40 hfr40; (try clear hM40); replace p40 := eq_true p40; replace q40 := eq_true q40; have HX46 := am (show Kd.S (Kd.slice 3 (Kd.int .i64)) 36 wr w.heap.size (fun k_ => ((fun _ => True)) k_ ∧ ¬ ((fun k_ => some k_ = (.slice Au9 x9_5.length cu9 : Value).ownBlock)) k_) (.slice (some ⟨go40, 0, none⟩) x4_4.length co45) x4_4 from (by exact xS (Kd.S_mono HO_4.out (fun k_ hk => ⟨trivial, fun e_ => hk e_⟩)))); obtain ⟨oki46, ce46, hcl46, hM46, hcc46, hfr46, hoki46, hH46⟩ := Kd.S_elem HX46.out [] (x8_4 : Int) (oD) (by have h_ : (x8_4 : Int) < ((x4_4.length : Int) : Int) := oD; first | exact h_ | (have e_ := (Kd.S_reads' HO_4.out).1; omega) | simpa using h_); obtain ⟨ve46_0, rfl, ge46_0⟩ := hM46; have HP46 := Kd.S_seg hH46 (oD) (by have h_ : (x8_4 : Int) < ((x4_4.length : Int) : Int) := oD; first | exact h_ | (have e_ := (Kd.S_reads' HO_4.out).1; omega) | simpa using h_) (seg := [(.slice Au9 x9_5.length cu9 : Value)]) (j := 0) (show 1 ≤ 1 from by decide) (x' := x9_5) (Kd.M_row (Kd.R_mono (Kd.R_tight rfl (Kd.R_mono (ok' := fun k_ => ((fun _ => True)) k_ ∧ k_ ≠ go40) (Kd.R_apart' (HO_9.out) (Kd.S_typed HO_4.out) (by decide)) (fun k_ hk => ⟨trivial, fun e_ => (hk.2) (by rw [e_]; rfl)⟩))) (fun _ h_ => Or.inr (h_)))) (fun _ hk => hk) (fun k_ hk_ => ((Kd.R_mono (ok' := fun k_ => ((fun _ => True)) k_ ∧ k_ ≠ go40) (Kd.R_apart' (HO_9.out) (Kd.S_typed HO_4.out) (by decide)) (fun k_ hk => ⟨trivial, fun e_ => (hk.2) (by rw [e_]; rfl)⟩))).1 k_ hk_.symm); have hx46_0 := hcc46 0 _ rfl; (try simp only [show ((Kd.slice 3 (Kd.int .i64))).sz = 1 from rfl, Nat.mul_one, Nat.add_zero] at hx46_0); have hf46_0 := hfr46 0; (try simp only [show ((Kd.slice 3 (Kd.int .i64))).sz = 1 from rfl, Nat.mul_one, Nat.add_zero] at hf46_0); clear hcl46 hcc46 hfr46 hoki46 hH46; (try clear hM46); (try simp only [show ((Kd.slice 3 (Kd.int .i64))).sz = 1 from rfl, Nat.mul_one, Nat.add_zero] at HP46); go_wp2_with (first | ((with_reducible refine gate_store (t := 36) (p := 90) rfl ?_); (try (rw [drewN_self wr]; generalize hq_ : World.drewN wr _ = wr; have n0_ := am (Kd.S_at hq_ HO_4.out); have n1_ := am (Kd.R_at hq_ HL220_0.out); have n2_ := am (blk_at hq_ BK206.out); have n3_ := am (below_at hq_ HB.out); clear hq_ HO_4 HL220_0 BK206 HB; have HO_4 := n0_; have HL220_0 := n1_; have BK206 := n2_; have HB := n3_; clear n0_ n1_ n2_ n3_; (try (have HX46 := am (show Kd.S (Kd.slice 3 (Kd.int .i64)) 36 wr w.heap.size (fun k_ => ((fun _ => True)) k_ ∧ ¬ ((fun k_ => some k_ = (.slice Au9 x9_5.length cu9 : Value).ownBlock)) k_) (.slice (some ⟨go40, 0, none⟩) x4_4.length co45) x4_4 from (by exact xS (Kd.S_mono HO_4.out (fun k_ hk => ⟨trivial, fun e_ => hk e_⟩)))))); (try (obtain ⟨oki46, ce46, hcl46, hM46, hcc46, hfr46, hoki46, hH46⟩ := Kd.S_elem HX46.out [] (x8_4 : Int) (oD) (by have h_ : (x8_4 : Int) < ((x4_4.length : Int) : Int) := oD; first | exact h_ | (have e_ := (Kd.S_reads' HO_4.out).1; omega) | simpa using h_))); (try (obtain ⟨ve46_0, rfl, ge46_0⟩ := hM46)); (try (have HP46 := Kd.S_seg hH46 (oD) (by have h_ : (x8_4 : Int) < ((x4_4.length : Int) : Int) := oD; first | exact h_ | (have e_ := (Kd.S_reads' HO_4.out).1; omega) | simpa using h_) (seg := [(.slice Au9 x9_5.length cu9 : Value)]) (j := 0) (show 1 ≤ 1 from by decide) (x' := x9_5) (Kd.M_row (Kd.R_mono (Kd.R_tight rfl (Kd.R_mono (ok' := fun k_ => ((fun _ => True)) k_ ∧ k_ ≠ go40) (Kd.R_apart' (HO_9.out) (Kd.S_typed HO_4.out) (by decide)) (fun k_ hk => ⟨trivial, fun e_ => (hk.2) (by rw [e_]; rfl)⟩))) (fun _ h_ => Or.inr (h_)))) (fun _ hk => hk) (fun k_ hk_ => ((Kd.R_mono (ok' := fun k_ => ((fun _ => True)) k_ ∧ k_ ≠ go40) (Kd.R_apart' (HO_9.out) (Kd.S_typed HO_4.out) (by decide)) (fun k_ hk => ⟨trivial, fun e_ => (hk.2) (by rw [e_]; rfl)⟩))).1 k_ hk_.symm))); (try (have hx46_0 := hcc46 0 _ rfl)); (try (try simp only [show ((Kd.slice 3 (Kd.int .i64))).sz = 1 from rfl, Nat.mul_one, Nat.add_zero] at hx46_0)); (try (have hf46_0 := hfr46 0)); (try (try simp only [show ((Kd.slice 3 (Kd.int .i64))).sz = 1 from rfl, Nat.mul_one, Nat.add_zero] at hf46_0)); (try (clear hcl46 hcc46 hfr46 hoki46 hH46; (try clear hM46))); (try (try simp only [show ((Kd.slice 3 (Kd.int .i64))).sz = 1 from rfl, Nat.mul_one, Nat.add_zero] at HP46)))); refine store_event (t := 36) (p := 90) (v := ?vo_w47) (w1 := (wr.setCell ⟨go40, (x8_4 : Int).toNat, none⟩ ((.slice Au9 x9_5.length cu9 : Value)))) ?hg ?ho ?hn ?hr ?_; (case ho => rfl); (case hg => rfl); (case hn => rfl); (case hr => go_simp <;> rfl); intro w47 hw; have hg : wr.grownBy w47 (some go40) := (by rw [hw]; exact HP46.2); have hp_ : Kd.S (Kd.slice 3 (Kd.int .i64)) 36 w47 w.heap.size (fun _ => True) (.slice (some ⟨go40, 0, none⟩) x4_4.length co45) y221 := (by rw [hw, Ny221.out]; exact HP46.1); clear HP46; replace BK206 := am (blk_grown (g := gb206) (o := .cells #[.slice A0_0 l0_0.length c0_0] 28 (0, 0)) (by exact rX BK206) hg (Kd.S_ne HO_4.out BK206.out (by decide))); replace HO_4 := am (hp_); replace HL220_0 := am (Kd.R_after (v := (.slice (some ⟨go40, 0, none⟩) x4_4.length co45)) (v1 := (.slice (some ⟨go40, 0, none⟩) x4_4.length co45)) (ok := (fun k_ => some k_ ≠ (.slice Au9 x9_5.length cu9 : Value).ownBlock)) (by exact rR HL220_0) hg (.inl rfl)); replace HB := am ((by rw [hw]; exact below_set (HB.out) GB40.out : Below w.heap.size w w47)); clear HO_9; clear hg hw hp_))
                   repeat (go_quiet (first | ((with_reducible refine gate_store (t := 36) (p := 90) rfl ?_); (try (rw [drewN_self wr]; generalize hq_ : World.drewN wr _ = wr; have n0_ := am (Kd.S_at hq_ HO_4.out); have n1_ := am (Kd.R_at hq_ HL220_0.out); have n2_ := am (blk_at hq_ BK206.out); have n3_ := am (below_at hq_ HB.out); clear hq_ HO_4 HL220_0 BK206 HB; have HO_4 := n0_; have HL220_0 := n1_; have BK206 := n2_; have HB := n3_; clear n0_ n1_ n2_ n3_; (try (have HX46 := am (show Kd.S (Kd.slice 3 (Kd.int .i64)) 36 wr w.heap.size (fun k_ => ((fun _ => True)) k_ ∧ ¬ ((fun k_ => some k_ = (.slice Au9 x9_5.length cu9 : Value).ownBlock)) k_) (.slice (some ⟨go40, 0, none⟩) x4_4.length co45) x4_4 from (by exact xS (Kd.S_mono HO_4.out (fun k_ hk => ⟨trivial, fun e_ => hk e_⟩)))))); (try (obtain ⟨oki46, ce46, hcl46, hM46, hcc46, hfr46, hoki46, hH46⟩ := Kd.S_elem HX46.out [] (x8_4 : Int) (oD) (by have h_ : (x8_4 : Int) < ((x4_4.length : Int) : Int) := oD; first | exact h_ | (have e_ := (Kd.S_reads' HO_4.out).1; omega) | simpa using h_))); (try (obtain ⟨ve46_0, rfl, ge46_0⟩ := hM46)); (try (have HP46 := Kd.S_seg hH46 (oD) (by have h_ : (x8_4 : Int) < ((x4_4.length : Int) : Int) := oD; first | exact h_ | (have e_ := (Kd.S_reads' HO_4.out).1; omega) | simpa using h_) (seg := [(.slice Au9 x9_5.length cu9 : Value)]) (j := 0) (show 1 ≤ 1 from by decide) (x' := x9_5) (Kd.M_row (Kd.R_mono (Kd.R_tight rfl (Kd.R_mono (ok' := fun k_ => ((fun _ => True)) k_ ∧ k_ ≠ go40) (Kd.R_apart' (HO_9.out) (Kd.S_typed HO_4.out) (by decide)) (fun k_ hk => ⟨trivial, fun e_ => (hk.2) (by rw [e_]; rfl)⟩))) (fun _ h_ => Or.inr (h_)))) (fun _ hk => hk) (fun k_ hk_ => ((Kd.R_mono (ok' := fun k_ => ((fun _ => True)) k_ ∧ k_ ≠ go40) (Kd.R_apart' (HO_9.out) (Kd.S_typed HO_4.out) (by decide)) (fun k_ hk => ⟨trivial, fun e_ => (hk.2) (by rw [e_]; rfl)⟩))).1 k_ hk_.symm))); (try (have hx46_0 := hcc46 0 _ rfl)); (try (try simp only [show ((Kd.slice 3 (Kd.int .i64))).sz = 1 from rfl, Nat.mul_one, Nat.add_zero] at hx46_0)); (try (have hf46_0 := hfr46 0)); (try (try simp only [show ((Kd.slice 3 (Kd.int .i64))).sz = 1 from rfl, Nat.mul_one, Nat.add_zero] at hf46_0)); (try (clear hcl46 hcc46 hfr46 hoki46 hH46; (try clear hM46))); (try (try simp only [show ((Kd.slice 3 (Kd.int .i64))).sz = 1 from rfl, Nat.mul_one, Nat.add_zero] at HP46)))); refine store_event (t := 36) (p := 90) (v := ?vo_w47) (w1 := (wr.setCell ⟨go40, (x8_4 : Int).toNat, none⟩ ((.slice Au9 x9_5.length cu9 : Value)))) ?hg ?ho ?hn ?hr ?_; (case ho => rfl); (case hg => rfl); (case hn => rfl); (case hr => go_simp <;> rfl); intro w47 hw; have hg : wr.grownBy w47 (some go40) := (by rw [hw]; exact HP46.2); have hp_ : Kd.S (Kd.slice 3 (Kd.int .i64)) 36 w47 w.heap.size (fun _ => True) (.slice (some ⟨go40, 0, none⟩) x4_4.length co45) y221 := (by rw [hw, Ny221.out]; exact HP46.1); clear HP46; replace BK206 := am (blk_grown (g := gb206) (o := .cells #[.slice A0_0 l0_0.length c0_0] 28 (0, 0)) (by exact rX BK206) hg (Kd.S_ne HO_4.out BK206.out (by decide))); replace HO_4 := am (hp_); replace HL220_0 := am (Kd.R_after (v := (.slice (some ⟨go40, 0, none⟩) x4_4.length co45)) (v1 := (.slice (some ⟨go40, 0, none⟩) x4_4.length co45)) (ok := (fun k_ => some k_ ≠ (.slice Au9 x9_5.length cu9 : Value).ownBlock)) (by exact rR HL220_0) hg (.inl rfl)); replace HB := am ((by rw [hw]; exact below_set (HB.out) GB40.out : Below w.heap.size w w47)); clear HO_9; clear hg hw hp_)); try go_wp2_with (first | ((with_reducible refine gate_store (t := 36) (p := 90) rfl ?_); (try (rw [drewN_self wr]; generalize hq_ : World.drewN wr _ = wr; have n0_ := am (Kd.S_at hq_ HO_4.out); have n1_ := am (Kd.R_at hq_ HL220_0.out); have n2_ := am (blk_at hq_ BK206.out); have n3_ := am (below_at hq_ HB.out); clear hq_ HO_4 HL220_0 BK206 HB; have HO_4 := n0_; have HL220_0 := n1_; have BK206 := n2_; have HB := n3_; clear n0_ n1_ n2_ n3_; (try (have HX46 := am (show Kd.S (Kd.slice 3 (Kd.int .i64)) 36 wr w.heap.size (fun k_ => ((fun _ => True)) k_ ∧ ¬ ((fun k_ => some k_ = (.slice Au9 x9_5.length cu9 : Value).ownBlock)) k_) (.slice (some ⟨go40, 0, none⟩) x4_4.length co45) x4_4 from (by exact xS (Kd.S_mono HO_4.out (fun k_ hk => ⟨trivial, fun e_ => hk e_⟩)))))); (try (obtain ⟨oki46, ce46, hcl46, hM46, hcc46, hfr46, hoki46, hH46⟩ := Kd.S_elem HX46.out [] (x8_4 : Int) (oD) (by have h_ : (x8_4 : Int) < ((x4_4.length : Int) : Int) := oD; first | exact h_ | (have e_ := (Kd.S_reads' HO_4.out).1; omega) | simpa using h_))); (try (obtain ⟨ve46_0, rfl, ge46_0⟩ := hM46)); (try (have HP46 := Kd.S_seg hH46 (oD) (by have h_ : (x8_4 : Int) < ((x4_4.length : Int) : Int) := oD; first | exact h_ | (have e_ := (Kd.S_reads' HO_4.out).1; omega) | simpa using h_) (seg := [(.slice Au9 x9_5.length cu9 : Value)]) (j := 0) (show 1 ≤ 1 from by decide) (x' := x9_5) (Kd.M_row (Kd.R_mono (Kd.R_tight rfl (Kd.R_mono (ok' := fun k_ => ((fun _ => True)) k_ ∧ k_ ≠ go40) (Kd.R_apart' (HO_9.out) (Kd.S_typed HO_4.out) (by decide)) (fun k_ hk => ⟨trivial, fun e_ => (hk.2) (by rw [e_]; rfl)⟩))) (fun _ h_ => Or.inr (h_)))) (fun _ hk => hk) (fun k_ hk_ => ((Kd.R_mono (ok' := fun k_ => ((fun _ => True)) k_ ∧ k_ ≠ go40) (Kd.R_apart' (HO_9.out) (Kd.S_typed HO_4.out) (by decide)) (fun k_ hk => ⟨trivial, fun e_ => (hk.2) (by rw [e_]; rfl)⟩))).1 k_ hk_.symm))); (try (have hx46_0 := hcc46 0 _ rfl)); (try (try simp only [show ((Kd.slice 3 (Kd.int .i64))).sz = 1 from rfl, Nat.mul_one, Nat.add_zero] at hx46_0)); (try (have hf46_0 := hfr46 0)); (try (try simp only [show ((Kd.slice 3 (Kd.int .i64))).sz = 1 from rfl, Nat.mul_one, Nat.add_zero] at hf46_0)); (try (clear hcl46 hcc46 hfr46 hoki46 hH46; (try clear hM46))); (try (try simp only [show ((Kd.slice 3 (Kd.int .i64))).sz = 1 from rfl, Nat.mul_one, Nat.add_zero] at HP46)))); refine store_event (t := 36) (p := 90) (v := ?vo_w47) (w1 := (wr.setCell ⟨go40, (x8_4 : Int).toNat, none⟩ ((.slice Au9 x9_5.length cu9 : Value)))) ?hg ?ho ?hn ?hr ?_; (case ho => rfl); (case hg => rfl); (case hn => rfl); (case hr => go_simp <;> rfl); intro w47 hw; have hg : wr.grownBy w47 (some go40) := (by rw [hw]; exact HP46.2); have hp_ : Kd.S (Kd.slice 3 (Kd.int .i64)) 36 w47 w.heap.size (fun _ => True) (.slice (some ⟨go40, 0, none⟩) x4_4.length co45) y221 := (by rw [hw, Ny221.out]; exact HP46.1); clear HP46; replace BK206 := am (blk_grown (g := gb206) (o := .cells #[.slice A0_0 l0_0.length c0_0] 28 (0, 0)) (by exact rX BK206) hg (Kd.S_ne HO_4.out BK206.out (by decide))); replace HO_4 := am (hp_); replace HL220_0 := am (Kd.R_after (v := (.slice (some ⟨go40, 0, none⟩) x4_4.length co45)) (v1 := (.slice (some ⟨go40, 0, none⟩) x4_4.length co45)) (ok := (fun k_ => some k_ ≠ (.slice Au9 x9_5.length cu9 : Value).ownBlock)) (by exact rR HL220_0) hg (.inl rfl)); replace HB := am ((by rw [hw]; exact below_set (HB.out) GB40.out : Below w.heap.size w w47)); clear HO_9; clear hg hw hp_)))
                   go_roundg k5
                   case measure => have := HJ1.out; have := HK2.out; have := HK3.out; have := HK4.out; have := HK5.out; omega
                   case rel => exact ⟨(y221), (false), (wrap64 (x8_4 + 1)), (by first | rfl | (simp; done) | (simp [*]; done)), (by first | rfl | (simp; done) | (simp [*]; done)), H', ⟨by have := HJ1.out; have := HK2.out; have := HK3.out; have := HK4.out; have := HK5.out; omega⟩, ⟨by exact rS HO_4⟩, ⟨by exact rX BK206⟩, ⟨by exact rB HB⟩⟩
                ·rw [if_neg c25] at H; exact absurd H (by simp)
               ·rw [if_neg c24] at H; exact absurd H (by simp)
            ·rw [if_neg c21] at H; have c21b0 : decide (x8_4 < (l0_0.length : Int)) = false := decide_eq_false c21; clear c21; by_cases c48 : x7_4 = true
             ·subst c48; have H1 : (some true) = some r := by rw [if_pos rfl] at H; exact H
              clear H; have H := H1; clear H1; obtain rfl := Option.some.inj H; go_wp2
              repeat (go_quiet (fail); try go_wp2)
              go_ret; exact ⟨by first | rfl | (simp [errW_none, errW_some] <;> rfl) | (simp [*, errW_none, errW_some] <;> rfl), by exact rB HB⟩
             ·replace c48 := Bool.eq_false_iff.mpr c48; subst c48; have H1 : (spec_IsPrimitiveMorphism.l1 k4 (l0_0.length : Int) x4_4 (wrap64 (x6_3 + 1)) l0_0) = some r := by rw [if_neg (show ¬ (false = true) by decide)] at H; exact H
              clear H; have H := H1; clear H1; have H' := am H; clear H; go_wp2
              repeat (go_quiet (fail); try go_wp2)
              go_roundg k4
              case measure => have := HJ1.out; have := HK2.out; have := HK3.out; have := HK4.out; omega
              case rel => exact ⟨(x4_4), (wrap64 (x6_3 + 1)), (by first | rfl | (simp; done) | (simp [*]; done)), H', ⟨by have := HJ1.out; have := HK2.out; have := HK3.out; have := HK4.out; omega⟩, ⟨by exact rS HO_4⟩, ⟨by exact rX BK206⟩, ⟨by exact rB HB⟩⟩
         ·rw [if_neg c20] at H; have c20b0 : decide (x6_3 < (wrap64 ((l0_0.length : Int) * (l0_0.length : Int)))) = false := decide_eq_false c20; clear c20; obtain rfl := Option.some.inj H; go_wp2
          repeat (go_quiet (fail); try go_wp2)
          go_ret; exact ⟨by first | rfl | (simp [errW_none, errW_some] <;> rfl) | (simp [*, errW_none, errW_some] <;> rfl), by exact rB HB⟩
def impl_square.l0 : Nat → Int → List (List Int) → Int → Int → Option ((List (List Int)))
 | 0, _, _, _, _ => none
 | k + 1, x0, x3, x5, x6 => if x6 < x5 then (if 0 ≤ x0 then (if (x0 : Int).toNat ≤ 35184372088832 then (if x3.length < 5864062014805 then (impl_square.l0 k x0 (x3 ++ [(List.replicate (x0 : Int).toNat 0)]) x5 (wrap64 (x6 + 1))) else (none)) else (none)) else (none)) else (some x3)
def impl_square.f (k : Nat) (a0 : Int) : Option ((List (List Int))) := impl_square.l0 k a0 (([] : List (List Int))) a0 0
set_option maxHeartbeats 8000000 in
set_option maxRecDepth 100000 in
theorem impl_square.calls (k : Nat) (a0 : Int) (r : List (List Int)) (w : World) (h : impl_square.f k a0 = some r) :
  Calls Try.prog 114 #[.int .i64 a0] w fun e w' => ∃ v0_ : Value, e = .returned (v0_) ∧ Kd.S (Kd.slice 3 (Kd.int .i64)) 36 w' w.heap.size (fun _ => True) v0_ r ∧ Below w.heap.size w w' := by
 have HB := am (Below.refl w.heap.size w); have H : (impl_square.l0 k a0 (([] : List (List Int))) a0 0) = some r := h; clear h; obtain ⟨y231, hy231⟩ : ∃ y_ : List (List Int), y_ = (([] : List (List Int))) := ⟨_, rfl⟩; replace H : (impl_square.l0 k a0 y231 a0 0) = some r := by rw [hy231]; first | exact H | exact (Option.bind_some _ _).symm.trans H
 have Ny231 := am hy231; clear hy231; have H' := am H; clear H; go_enter Try.func114, Try.ntmps114; go_wp2_with (first | ((with_reducible refine gate_dst (N := 4) rfl ?_); refine Kd.S_lit (Kd.slice 3 (Kd.int .i64)) _ 36 ?hg (N := 4) ?hd (xs := ([] : List (List Int))) (inner := []) (ok := fun _ => True) (okp := fun _ => True) ?hr ?hp (fun _ hk => hk) trivial (Below.refl _ _) (Nat.le_refl _) (by simp) ?_; (case hd | hg => rfl); (case hr => go_simp <;> rfl); (case hp => exact (Reps.none _ _)); intro v232 w2 ho3 hb hg_ hnew_; clear hg_ hnew_; (first | rw [← Ny231.out] at ho3 | (simp only [Int.reduceToNat] at ho3; rw [← Ny231.out] at ho3)); have HO233 := am (Kd.S_lower ho3 (bZ HB)); replace HB := bS HB hb; clear hb ho3)); go_loopg [3, 6] k (fun kq v3 v6 w' => ∃ (x3_1 : List (List Int)) (x6_1 : Int), v6 = .int .i64 x6_1 ∧ Aside0 (impl_square.l0 kq a0 x3_1 a0 x6_1 = some r) ∧ Aside0 (kq ≤ k) ∧ Aside0 (Kd.S (Kd.slice 3 (Kd.int .i64)) 36 w' w.heap.size (fun _ => True) v3 x3_1) ∧ Aside0 (Below w.heap.size w w'))
 case atStart => exact ⟨(y231), (0), (by first | rfl | (simp; done) | (simp [*]; done)), H', ⟨Nat.le_refl _⟩, ⟨by exact rS HO233⟩, ⟨by exact rB HB⟩⟩
 case round =>
  clear H'
  try clear c1
  try clear p2
  obtain ⟨x3_1, x6_1, rfl, HA, HK1, HO_3, HB⟩ := hrel; cases gk with
  | zero => exact absurd HA.out (by simp [impl_square.l0])
  | succ k1 =>
   have H := HA.out; clear HA; simp only [impl_square.l0] at H; by_cases c4 : x6_1 < a0
   ·rw [if_pos c4] at H; have c4b0 : decide (x6_1 < a0) = true := decide_eq_true c4; clear c4; by_cases c5 : 0 ≤ a0
    ·rw [if_pos c5] at H; have c5b0 := eq_true c5; have c5b1 : decide (0 ≤ a0) = true := decide_eq_true c5; clear c5; by_cases c6 : (a0 : Int).toNat ≤ 35184372088832
     ·rw [if_pos c6] at H; have c6b0 := eq_true c6; have c6b1 : decide ((a0 : Int).toNat ≤ 35184372088832) = true := decide_eq_true c6; clear c6; obtain ⟨y234, hy234⟩ : ∃ y_ : List Int, y_ = (List.replicate (a0 : Int).toNat 0) := ⟨_, rfl⟩; replace H : (if x3_1.length < 5864062014805 then (impl_square.l0 k1 a0 (x3_1 ++ [y234]) a0 (wrap64 (x6_1 + 1))) else (none)) = some r := by rw [hy234]; first | exact H | exact (Option.bind_some _ _).symm.trans H
      have Ny234 := am hy234; clear hy234; by_cases c7 : x3_1.length < 5864062014805
      ·rw [if_pos c7] at H; have LMc7 := am c7; clear c7; obtain ⟨y237, hy237⟩ : ∃ y_ : List (List Int), y_ = (x3_1 ++ [y234]) := ⟨_, rfl⟩; replace H : (impl_square.l0 k1 a0 y237 a0 (wrap64 (x6_1 + 1))) = some r := by rw [hy237]; first | exact H | exact (Option.bind_some _ _).symm.trans H
       have Ny237 := am hy237; clear hy237; have H' := am H; clear H; go_wp2_with (first | ((with_reducible refine gate_dst (N := 10) rfl ?_); refine Kd.R_make (Kd.int .i64) _ 3 rfl (N := 10) rfl 36 _ _ rfl a0 rfl rfl Try.underlying36 (.int .i64 0) 8 info3 rfl (by decide) (by omega) 0 (ok := fun _ => True) (okp := fun _ => True) rfl (fun _ hk => hk) trivial (oD) (Nat.le_trans (Nat.mul_le_mul_right _ (oD : a0.toNat ≤ 35184372088832)) (by omega)) (Below.refl _ _) (Nat.le_refl _) ?_; intro v235 w8 ho9 hb hg_ hnew_; clear hg_ hnew_; (first | rw [← Ny234.out] at ho9 | (simp only [Int.reduceToNat] at ho9; rw [← Ny234.out] at ho9)); replace HO_3 := am (Kd.S_elder' (by exact rS HO_3) (Kd.R_base ho9) hb); have HO236 := am (Kd.R_lower ho9 (bZ HB)); replace HB := bS HB hb; clear hb ho9; obtain ⟨Ao11, co11, eo11⟩ := Kd.R_slice HO236.out; subst eo11) | ((with_reducible refine gate_builtin (b := .append) (xs := #[.tmp 8, .tmp 11]) rfl ?_); at_builtin; refine Kd.S_append (Kd.slice 3 (Kd.int .i64)) (w0 := w) w.heap.size rfl (.tmp 8) (.tmp 11) 22 36 (.slice none 0 0) 24 rfl Try.underlying22 info36 rfl (by decide) (by omega) u3 x3_1 y234 [.slice Ao11 y234.length co11] (fun _ => True) (fun k_ => some k_ = (.slice Ao11 y234.length co11 : Value).ownBlock) rfl rfl ?aP (fun k_ hk_ => ((Kd.R_mono (ok' := fun k_ => ((fun _ => True)) k_ ∧ some k_ ≠ (u3 : Value).ownBlock) (Kd.R_apart' (HO236.out) (Kd.S_typed HO_3.out) (by decide)) (fun k_ hk => ⟨trivial, hk.2⟩))).1 k_ hk_.symm) ?aF ?aO ?aB ?aS ?aL ?_; (case aP => exact Kd.M_row (Kd.R_mono (Kd.R_tight rfl (Kd.R_mono (ok' := fun k_ => ((fun _ => True)) k_ ∧ some k_ ≠ (u3 : Value).ownBlock) (Kd.R_apart' (HO236.out) (Kd.S_typed HO_3.out) (by decide)) (fun k_ hk => ⟨trivial, hk.2⟩))) (fun _ h_ => h_))); (case aB => exact (by exact rB HB)); (case aF => exact (fun _ _ => trivial)); (case aO => exact (by exact xS (Kd.S_mono HO_3.out (fun k_ hk => ⟨trivial, fun e_ => hk.2 e_⟩)))); (case aS => exact (bZ HB)); (case aL => have := LMc7.out; omega); intro v238 w10 ho hb hg hat; rw [← Ny237.out] at ho; replace HB := am (hb); have HO239 := am (ho); clear HO_3 HO236; clear ho hb hg hat)); go_roundg k1
       case measure => have := HK1.out; omega
       case rel => exact ⟨(y237), (wrap64 (x6_1 + 1)), (by first | rfl | (simp; done) | (simp [*]; done)), H', ⟨by have := HK1.out; omega⟩, ⟨by exact rS HO239⟩, ⟨by exact rB HB⟩⟩
      ·rw [if_neg c7] at H; exact absurd H (by simp)
     ·rw [if_neg c6] at H; exact absurd H (by simp)
    ·rw [if_neg c5] at H; exact absurd H (by simp)
   ·rw [if_neg c4] at H; have c4b0 : decide (x6_1 < a0) = false := decide_eq_false c4; clear c4; obtain rfl := Option.some.inj H; go_wp2; go_ret; exact ⟨_, by first | rfl | (simp [errW_none, errW_some] <;> rfl) | (simp [*, errW_none, errW_some] <;> rfl), by exact rS HO_3, by exact rB HB⟩
mutual
def impl_IsPrimitiveMorphism.j0 : Nat → List (List Int) → Int → Bool → Option (Bool)
 | 0, _, _, _ => none
 | k + 1, x3, x5, x31 => if x31 = true then (some false) else (impl_IsPrimitiveMorphism.l0 k x3 x5 x3 (wrap64 (x5 * x5)) 0)
def impl_IsPrimitiveMorphism.l0 : Nat → List (List Int) → Int → List (List Int) → Int → Int → Option (Bool)
 | 0, _, _, _, _, _ => none
 | k + 1, x3, x5, x6, x35, x36 => if x36 < x35 then (impl_IsPrimitiveMorphism.l1 k x3 x5 x6 true x35 x36 x6 (x6.length : Int) 0) else (some false)
def impl_IsPrimitiveMorphism.l1 : Nat → List (List Int) → Int → List (List Int) → Bool → Int → Int → List (List Int) → Int → Int → Option (Bool)
 | 0, _, _, _, _, _, _, _, _, _ => none
 | k + 1, x3, x5, x6, x7, x35, x36, x38, x39, x40 => if x40 < x39 then (if 0 ≤ x40 then (if x40 < (x38.length : Int) then (impl_IsPrimitiveMorphism.l2 k x3 x5 x6 x7 x35 x36 x38 x39 x40 (rd_L1 x38 x40) ((rd_L1 x38 x40).length : Int) 0) else (none)) else (none)) else (if x7 = true then (some true) else ((impl_square.f k x5).bind fun t247 => (impl_IsPrimitiveMorphism.l3 k x3 x5 t247 x35 x36 x6 (x6.length : Int) 0)))
def impl_IsPrimitiveMorphism.l2 : Nat → List (List Int) → Int → List (List Int) → Bool → Int → Int → List (List Int) → Int → Int → List Int → Int → Int → Option (Bool)
 | 0, _, _, _, _, _, _, _, _, _, _, _, _ => none
 | k + 1, x3, x5, x6, x7, x35, x36, x38, x39, x40, x44, x45, x46 => if x46 < x45 then (if 0 ≤ x46 then (if x46 < (x44.length : Int) then (if x7 = true then (impl_IsPrimitiveMorphism.l2 k x3 x5 x6 (decide ((rd x44 x46) > 0)) x35 x36 x38 x39 x40 x44 x45 (wrap64 (x46 + 1))) else (impl_IsPrimitiveMorphism.l2 k x3 x5 x6 false x35 x36 x38 x39 x40 x44 x45 (wrap64 (x46 + 1)))) else (none)) else (none)) else (impl_IsPrimitiveMorphism.l1 k x3 x5 x6 x7 x35 x36 x38 x39 (wrap64 (x40 + 1)))
def impl_IsPrimitiveMorphism.l3 : Nat → List (List Int) → Int → List (List Int) → Int → Int → List (List Int) → Int → Int → Option (Bool)
 | 0, _, _, _, _, _, _, _, _ => none
 | k + 1, x3, x5, x12, x35, x36, x60, x61, x62 => if x62 < x61 then (if 0 ≤ x62 then (if x62 < (x60.length : Int) then (impl_IsPrimitiveMorphism.l4 k x3 x5 x12 x62 x35 x36 x60 x61 x62 (rd_L1 x60 x62) ((rd_L1 x60 x62).length : Int) 0) else (none)) else (none)) else (impl_IsPrimitiveMorphism.l0 k x3 x5 x12 x35 (wrap64 (x36 + 1)))
def impl_IsPrimitiveMorphism.l4 : Nat → List (List Int) → Int → List (List Int) → Int → Int → Int → List (List Int) → Int → Int → List Int → Int → Int → Option (Bool)
 | 0, _, _, _, _, _, _, _, _, _, _, _, _ => none
 | k + 1, x3, x5, x12, x13, x35, x36, x60, x61, x62, x67, x68, x69 => if x69 < x68 then (if 0 ≤ x69 then (if x69 < (x67.length : Int) then (if x69 < (x3.length : Int) then (impl_IsPrimitiveMorphism.l5 k x3 x5 x12 x13 x35 x36 x60 x61 x62 x67 x68 x69 (rd_L1 x3 x69) ((rd_L1 x3 x69).length : Int) 0) else (none)) else (none)) else (none)) else (impl_IsPrimitiveMorphism.l3 k x3 x5 x12 x35 x36 x60 x61 (wrap64 (x62 + 1)))
def impl_IsPrimitiveMorphism.l5 : Nat → List (List Int) → Int → List (List Int) → Int → Int → Int → List (List Int) → Int → Int → List Int → Int → Int → List Int → Int → Int → Option (Bool)
 | 0, _, _, _, _, _, _, _, _, _, _, _, _, _, _, _ => none
 | k + 1, x3, x5, x12, x13, x35, x36, x60, x61, x62, x67, x68, x69, x77, x78, x79 => if x79 < x78 then (if 0 ≤ x79 then (if x79 < (x77.length : Int) then (if 0 ≤ x13 then (if x13 < (x12.length : Int) then (if x79 < ((rd_L1 x12 x13).length : Int) then (impl_IsPrimitiveMorphism.l5 k x3 x5 (x12.set (x13 : Int).toNat ((rd_L1 x12 x13).set (x79 : Int).toNat (mx (rd (rd_L1 x12 x13) x79) (wrap64 ((mn (rd x67 x69) 1) * (mn (rd x77 x79) 1)))))) x13 x35 x36 x60 x61 x62 x67 x68 x69 x77 x78 (wrap64 (x79 + 1))) else (none)) else (none)) else (none)) else (none)) else (none)) else (impl_IsPrimitiveMorphism.l4 k x3 x5 x12 x13 x35 x36 x60 x61 x62 x67 x68 (wrap64 (x69 + 1)))
end
def impl_IsPrimitiveMorphism.f (k : Nat) (l0_0 : List (List Int)) : Option (Bool) := (impl_IncidenceOf.f k l0_0).bind fun bt241 => (if bt241.2 = true then (impl_IsPrimitiveMorphism.j0 k bt241.1 (bt241.1.length : Int) (decide ((bt241.1.length : Int) > 6))) else (impl_IsPrimitiveMorphism.j0 k bt241.1 (bt241.1.length : Int) true))
set_option maxHeartbeats 8000000 in
set_option maxRecDepth 100000 in
theorem impl_IsPrimitiveMorphism.calls (k : Nat) (A0_0 : Option Addr) (c0_0 : Nat) (l0_0 : List (List Int)) (r : Bool) (w : World) (hr0_0 : Kd.C (Kd.slice 3 (Kd.int .i64)) w A0_0 l0_0.length l0_0) (hc0_0 : l0_0.length ≤ c0_0) (h : impl_IsPrimitiveMorphism.f k l0_0 = some r) :
  Calls Try.prog 25 #[.agg #[.slice A0_0 l0_0.length c0_0]] w fun e w' => e = .returned (.bool r) ∧ Below w.heap.size w w' := by
 have hu28 := Try.underlying28; have HR0_0 := am hr0_0; have HC0_0 := am hc0_0; clear hr0_0 hc0_0; have HB0 := am (Below.refl w.heap.size w); unfold impl_IsPrimitiveMorphism.f at h; have H := Option.bind_eq_some_iff.mp h; clear h; obtain ⟨⟨t241, t244⟩, A20, H⟩ := H; replace H : (if t244 = true then (impl_IsPrimitiveMorphism.j0 k t241 (t241.length : Int) (decide ((t241.length : Int) > 6))) else (impl_IsPrimitiveMorphism.j0 k t241 (t241.length : Int) true)) = some r := H; have A2 := am A20; clear A20; have HC3 := am H; clear H; obtain ⟨P0_0_, HP0⟩ : ∃ P : Nat → Prop, P = fun _ => False := ⟨_, rfl⟩
 go_enter Try.func25, Try.ntmps25; go_upto_region 3 with (first | ((with_reducible refine gate_dst (N := 1) rfl ?_); refine box_event ?hg (N := 1) ?hd (cs := #[.slice A0_0 l0_0.length c0_0]) (t := 28) ?hr ?_; (case hd | hg => rfl); (case hr => go_simp <;> rfl); intro gb240 hg w4 hbox hb; have HB := am (below_step HB0.out hb); have BK240 := am (hbox); have GE240 := am ((by rw [hg]; exact Nat.le_refl _) : w.heap.size ≤ gb240); have HR4 := am (Kd.C_below HR0_0.out hb); clear hb hbox hg HB0; have hcz5_0 := z10 BK240; have hfz5_0 := blk_frozen BK240.out 0)); refine (impl_IncidenceOf.calls k _ _ l0_0 t241 t244 _ HR4.out HC0_0.out A2.out).mono ?_; rintro e w6 ⟨v242, rfl, ho0, hb⟩; have BK6 := am (blk_below (g := gb240) (o := .cells #[.slice A0_0 l0_0.length c0_0] 28 (0, 0)) BK240.out hb); obtain ⟨Ao7, co7, rfl⟩ := Kd.S_slice ho0; have HB6 := am (below_step HB.out hb); have HS6 := am (show Kd.S (Kd.slice 3 (Kd.int .i64)) 36 w6 w.heap.size (fun k_ => w.heap.size ≤ k_ ∧ True) (.slice Ao7 t241.length co7) t241 from Kd.S_lower (Kd.S_newM (M := fun k_ => w.heap.size ≤ k_) ho0 (below_size HB.out) (fun k_ h_ => h_)) (below_size HB.out)); clear BK240 HB ho0 hb hcz5_0 hfz5_0; have BK240 := BK6; have HB := HB6; have HO0_0 := am (show Kd.V (Kd.slice 3 (Kd.int .i64)) 36 w6 w.heap.size (fun k_ => (P0_0_ k_ ∨ w.heap.size ≤ k_) ∧ k_ ≠ gb240) (.slice Ao7 t241.length co7) t241 from Kd.V_mono (Kd.S_V (Kd.S_types HS6.out BK240.out (by decide))) (fun k_ hk => ⟨.inr hk.1.1, hk.2⟩)); clear HS6 BK6 HB6; go_upto_region 3 with fail; (try simp only [Act.put, qa, qz, qs]); go_cut [31] (fun v31 wc => ∃ (kq : Nat) (x31_2 : Bool), v31 = .bool x31_2 ∧ Aside0 (impl_IsPrimitiveMorphism.j0 kq t241 (t241.length : Int) x31_2 = some r) ∧ Aside0 (kq ≤ k) ∧ Aside0 (Kd.V (Kd.slice 3 (Kd.int .i64)) 36 wc w.heap.size (fun k_ => (P0_0_ k_ ∨ w.heap.size ≤ k_) ∧ k_ ≠ gb240) (.slice Ao7 t241.length co7) t241) ∧ Aside0 (Kd.V (Kd.slice 3 (Kd.int .i64)) 36 wc w.heap.size (fun k_ => (P0_0_ k_ ∨ w.heap.size ≤ k_) ∧ k_ ≠ gb240) (.slice Ao7 t241.length co7) t241) ∧ Aside0 (wc.heap[gb240]? = some (.cells #[(.slice A0_0 l0_0.length c0_0)] 28 (0, 0))) ∧ Aside0 (Below w.heap.size w wc))
 case first =>
  have H := HC3.out; clear HC3; by_cases c8 : t244 = true
  ·subst c8; have H1 : (impl_IsPrimitiveMorphism.j0 k t241 (t241.length : Int) (decide ((t241.length : Int) > 6))) = some r := by rw [if_pos rfl] at H; exact H
   clear H; have H := H1; clear H1; have H' := am H; clear H; go_wp2; go_meet
   case rel => exact ⟨_, (decide ((t241.length : Int) > 6)), (by first | rfl | (simp; done) | (simp [*]; done)), H', ⟨by first | omega | exact Nat.le_refl _⟩, ⟨by exact xV (Kd.V_mono HO0_0.out (fun _ hk => hk))⟩, ⟨by exact xV (Kd.V_mono HO0_0.out (fun _ hk => hk))⟩, ⟨by exact rX BK240⟩, ⟨by exact rB HB⟩⟩
  ·replace c8 := Bool.eq_false_iff.mpr c8; subst c8; have H1 : (impl_IsPrimitiveMorphism.j0 k t241 (t241.length : Int) true) = some r := by rw [if_neg (show ¬ (false = true) by decide)] at H; exact H
   clear H; have H := H1; clear H1; have H' := am H; clear H; go_wp2; go_meet
   case rel => exact ⟨_, (true), (by first | rfl | (simp; done) | (simp [*]; done)), H', ⟨by first | omega | exact Nat.le_refl _⟩, ⟨by exact xV (Kd.V_mono HO0_0.out (fun _ hk => hk))⟩, ⟨by exact xV (Kd.V_mono HO0_0.out (fun _ hk => hk))⟩, ⟨by exact rX BK240⟩, ⟨by exact rB HB⟩⟩
 case rest =>
  clear HC3
  try clear c1
  try clear c2
  try clear p2
  try clear c8
  try clear hcz5_0
  try clear hcz7_0
  try clear hfz5_0
  try clear hfz7_0
  obtain ⟨kq, x31_2, rfl, HA, HJ2, HO_3, HO_241000, BK240, HB⟩ := hcut; cases kq with
  | zero => exact absurd HA.out (by simp [impl_IsPrimitiveMorphism.j0])
  | succ kj2 =>
   have H := HA.out; clear HA; simp only [impl_IsPrimitiveMorphism.j0] at H; by_cases c9 : x31_2 = true
   ·subst c9; have H1 : (some false) = some r := by rw [if_pos rfl] at H; exact H
    clear H; have H := H1; clear H1; obtain rfl := Option.some.inj H; go_wp2; go_ret; exact ⟨by first | rfl | (simp [errW_none, errW_some] <;> rfl) | (simp [*, errW_none, errW_some] <;> rfl), by exact rB HB⟩
   ·replace c9 := Bool.eq_false_iff.mpr c9; subst c9; have H1 : (impl_IsPrimitiveMorphism.l0 kj2 t241 (t241.length : Int) t241 (wrap64 ((t241.length : Int) * (t241.length : Int))) 0) = some r := by rw [if_neg (show ¬ (false = true) by decide)] at H; exact H
    clear H; have H := H1; clear H1; have H' := am H; clear H; go_wp2; go_loopg [6, 36] kj2 (fun kq v6 v36 w' => ∃ (x3_2 : List (List Int)) (x6_2 : List (List Int)) (x36_2 : Int) (x241000_2 : List (List Int)) (u241000 : Value), v36 = .int .i64 x36_2 ∧ Aside0 (impl_IsPrimitiveMorphism.l0 kq x3_2 (t241.length : Int) x6_2 (wrap64 ((t241.length : Int) * (t241.length : Int))) x36_2 = some r) ∧ Aside0 (kq ≤ kj2) ∧ Aside0 (Kd.V (Kd.slice 3 (Kd.int .i64)) 36 w' w.heap.size (fun k_ => (P0_0_ k_ ∨ w.heap.size ≤ k_) ∧ k_ ≠ gb240) (.slice Ao7 t241.length co7) x3_2) ∧ Aside0 (Kd.V (Kd.slice 3 (Kd.int .i64)) 36 w' w.heap.size (fun k_ => (P0_0_ k_ ∨ w.heap.size ≤ k_) ∧ k_ ≠ gb240) v6 x6_2) ∧ Aside0 (Kd.V (Kd.slice 3 (Kd.int .i64)) 36 w' w.heap.size (fun k_ => (P0_0_ k_ ∨ w.heap.size ≤ k_) ∧ k_ ≠ gb240) u241000 x241000_2) ∧ Aside0 (w'.heap[gb240]? = some (.cells #[(.slice A0_0 l0_0.length c0_0)] 28 (0, 0))) ∧ Aside0 (Below w.heap.size w w'))
    case atStart => exact ⟨(t241), (t241), (0), (t241), (.slice Ao7 t241.length co7), (by first | rfl | (simp; done) | (simp [*]; done)), H', ⟨Nat.le_refl _⟩, ⟨by exact rV HO_3⟩, ⟨by exact rV HO_3⟩, ⟨by exact rV HO_241000⟩, ⟨by exact rX BK240⟩, ⟨by exact rB HB⟩⟩
    case round =>
     clear H'
     try clear c1
     try clear c2
     try clear p2
     try clear p6
     try clear c8
     try clear c9
     try clear hcz5_0
     try clear hcz7_0
     try clear hfz5_0
     try clear hfz7_0
     try clear p2
     obtain ⟨x3_2, x6_2, x36_2, x241000_2, u241000, rfl, HA, HK2, HO_3, HO_6, HO_241000, BK240, HB⟩ := hrel; have hl3_2 := (Kd.V_reads' HO_3.out).1; rw [hl3_2] at HO_3; (try simp only [hl3_2]); (try simp only [hl3_2] at BK240); (try simp only [hl3_2] at HO_6); (try simp only [hl3_2] at HO_241000); cases gk with
     | zero => exact absurd HA.out (by simp [impl_IsPrimitiveMorphism.l0])
     | succ k2 =>
      have H := HA.out; clear HA; simp only [impl_IsPrimitiveMorphism.l0] at H; by_cases c10 : x36_2 < (wrap64 ((t241.length : Int) * (t241.length : Int)))
      ·rw [if_pos c10] at H; have c10b0 : decide (x36_2 < (wrap64 ((t241.length : Int) * (t241.length : Int)))) = true := decide_eq_true c10; clear c10; (try simp only [hl3_2] at c10b0); have H' := am H; clear H; obtain ⟨Ao11, co11, eo11⟩ := Kd.V_slice HO_6.out; subst eo11; go_wp2; go_loopg [7, 40] k2 (fun kq v7 v40 w' => ∃ (x7_3 : Bool) (x40_3 : Int), v7 = .bool x7_3 ∧ v40 = .int .i64 x40_3 ∧ Aside0 (impl_IsPrimitiveMorphism.l1 kq x3_2 (t241.length : Int) x6_2 x7_3 (wrap64 ((t241.length : Int) * (t241.length : Int))) x36_2 x6_2 (x6_2.length : Int) x40_3 = some r) ∧ Aside0 (kq ≤ k2) ∧ Aside0 (Kd.V (Kd.slice 3 (Kd.int .i64)) 36 w' w.heap.size (fun k_ => (P0_0_ k_ ∨ w.heap.size ≤ k_) ∧ k_ ≠ gb240) (.slice Ao7 x3_2.length co7) x3_2) ∧ Aside0 (Kd.V (Kd.slice 3 (Kd.int .i64)) 36 w' w.heap.size (fun k_ => (P0_0_ k_ ∨ w.heap.size ≤ k_) ∧ k_ ≠ gb240) (.slice Ao11 x6_2.length co11) x6_2) ∧ Aside0 (Kd.V (Kd.slice 3 (Kd.int .i64)) 36 w' w.heap.size (fun k_ => (P0_0_ k_ ∨ w.heap.size ≤ k_) ∧ k_ ≠ gb240) (.slice Ao11 x6_2.length co11) x6_2) ∧ Aside0 (Kd.V (Kd.slice 3 (Kd.int .i64)) 36 w' w.heap.size (fun k_ => (P0_0_ k_ ∨ w.heap.size ≤ k_) ∧ k_ ≠ gb240) u241000 x241000_2) ∧ Aside0 (w'.heap[gb240]? = some (.cells #[(.slice A0_0 l0_0.length c0_0)] 28 (0, 0))) ∧ Aside0 (Below w.heap.size w w'))
       case atStart => exact ⟨(true), (0), (by first | rfl | (simp; done) | (simp [*]; done)), (by first | rfl | (simp; done) | (simp [*]; done)), H', ⟨Nat.le_refl _⟩, ⟨by (try simp only [hl3_2]); exact rV HO_3⟩, ⟨by (try simp only [hl3_2]); exact rV HO_6⟩, ⟨by (try simp only [hl3_2]); exact rV HO_6⟩, ⟨by (try simp only [hl3_2]); exact rV HO_241000⟩, ⟨by (try simp only [hl3_2]); exact rX BK240⟩, ⟨by exact rB HB⟩⟩
       case round =>
        clear H'
        try clear c1
        try clear c2
        try clear p2
        try clear p6
        try clear c8
        try clear c9
        try clear c10
        try clear c10b0
        try clear hcz5_0
        try clear hcz7_0
        try clear hfz5_0
        try clear hfz7_0
        try clear p2
        try clear p6
        obtain ⟨x7_3, x40_3, rfl, rfl, HA, HK3, HO_3, HO_6, HO_38, HO_241000, BK240, HB⟩ := hrel; cases gk with
        | zero => exact absurd HA.out (by simp [impl_IsPrimitiveMorphism.l1])
        | succ k3 =>
         have H := HA.out; clear HA; simp only [impl_IsPrimitiveMorphism.l1] at H; by_cases c12 : x40_3 < (x6_2.length : Int)
         ·rw [if_pos c12] at H; have c12b0 : decide (x40_3 < (x6_2.length : Int)) = true := decide_eq_true c12; clear c12; (try simp only [hl3_2] at c12b0); by_cases c13 : 0 ≤ x40_3
          ·rw [if_pos c13] at H; have c13b0 : decide (0 ≤ x40_3) = true := decide_eq_true c13; clear c13; by_cases c14 : x40_3 < (x6_2.length : Int)
           ·rw [if_pos c14] at H; have c14b0 : decide (x40_3 < (x6_2.length : Int)) = true := decide_eq_true c14; clear c14; (try simp only [hl3_2] at c14b0); have H' := am H; clear H; have p245 : 0 ≤ (x40_3 : Int) := oD; have q245 : x40_3 < (x6_2.length : Int) := oD; obtain ⟨ad245, A245_0, c245_0, e245, hx245_0, hl245_0, hi245_0⟩ := at_L1 (Kd.V_reads' HO_38.out).2.2 x40_3 p245 q245; cases e245; obtain ⟨ce245, hce245, hMe245, hcc245⟩ := Kd.V_get HO_38.out [] x40_3 p245 (by first | exact q245 | exact oD | (have e_ := (Kd.V_reads' HO_38.out).1; omega)); obtain ⟨ua245_0, uc245_0, rfl, ul245_0, ge245_0⟩ := Kd.FK_slice_open hMe245; have hv245_0 := hcc245 0 _ rfl; rw [Nat.add_zero, show ((Kd.slice 3 (Kd.int .i64))).sz = 1 from rfl, Nat.mul_one] at hv245_0; replace hv245_0 := Option.some.inj (hv245_0.symm.trans hx245_0); injection hv245_0 with hva_ hvn_ hvc_; rw [hva_] at ge245_0; rw [hvc_] at ul245_0; have HL245_0 := am (show Kd.V (Kd.int .i64) 3 _ w.heap.size _ _ (rd_L1 x6_2 x40_3) from Kd.V_mk ul245_0 ge245_0); clear hva_ hvn_ hvc_ ge245_0 ul245_0; clear hcc245 hce245; have HR245_0 := am hi245_0; have HC245_0 := am hl245_0; clear hi245_0 hl245_0; replace p245 := eq_true p245; replace q245 := eq_true q245; go_wp2; go_loopg [7, 46] k3 (fun kq v7 v46 w' => ∃ (x7_4 : Bool) (x46_4 : Int), v7 = .bool x7_4 ∧ v46 = .int .i64 x46_4 ∧ Aside0 (impl_IsPrimitiveMorphism.l2 kq x3_2 (t241.length : Int) x6_2 x7_4 (wrap64 ((t241.length : Int) * (t241.length : Int))) x36_2 x6_2 (x6_2.length : Int) x40_3 (rd_L1 x6_2 x40_3) ((rd_L1 x6_2 x40_3).length : Int) x46_4 = some r) ∧ Aside0 (kq ≤ k3) ∧ Aside0 (Kd.V (Kd.slice 3 (Kd.int .i64)) 36 w' w.heap.size (fun k_ => (P0_0_ k_ ∨ w.heap.size ≤ k_) ∧ k_ ≠ gb240) (.slice Ao7 x3_2.length co7) x3_2) ∧ Aside0 (Kd.V (Kd.slice 3 (Kd.int .i64)) 36 w' w.heap.size (fun k_ => (P0_0_ k_ ∨ w.heap.size ≤ k_) ∧ k_ ≠ gb240) (.slice (some ad245) x6_2.length co11) x6_2) ∧ Aside0 (Kd.V (Kd.slice 3 (Kd.int .i64)) 36 w' w.heap.size (fun k_ => (P0_0_ k_ ∨ w.heap.size ≤ k_) ∧ k_ ≠ gb240) (.slice (some ad245) x6_2.length co11) x6_2) ∧ Aside0 (Kd.V (Kd.slice 3 (Kd.int .i64)) 36 w' w.heap.size (fun k_ => (P0_0_ k_ ∨ w.heap.size ≤ k_) ∧ k_ ≠ gb240) u241000 x241000_2) ∧ Aside0 (w'.heap[gb240]? = some (.cells #[(.slice A0_0 l0_0.length c0_0)] 28 (0, 0))) ∧ Aside0 (Kd.C (Kd.int .i64) w' A245_0 (rd_L1 x6_2 x40_3).length (rd_L1 x6_2 x40_3)) ∧ Aside0 (Below w.heap.size w w'))
            case atStart => exact ⟨(x7_3), (0), (by first | rfl | (simp; done) | (simp [*]; done)), (by first | rfl | (simp; done) | (simp [*]; done)), H', ⟨Nat.le_refl _⟩, ⟨by (try simp only [hl3_2]); exact rV HO_3⟩, ⟨by (try simp only [hl3_2]); exact rV HO_6⟩, ⟨by (try simp only [hl3_2]); exact rV HO_38⟩, ⟨by (try simp only [hl3_2]); exact rV HO_241000⟩, ⟨by (try simp only [hl3_2]); exact rX BK240⟩, ⟨by repeat (first | (with_reducible exact HR245_0.out) | (with_reducible refine Kd.C_alloc ?_ _) | (with_reducible refine Kd.C_drewN ?_ _) | (with_reducible refine Kd.C_drew ?_) | exact HR245_0.out)⟩, ⟨by exact rB HB⟩⟩
            case round =>
             clear H'
             try clear c1
             try clear c2
             try clear p2
             try clear q2
             try clear hx2
             try clear p6
             try clear c8
             try clear c9
             try clear c10
             try clear c10b0
             try clear c12
             try clear c12b0
             try clear c13
             try clear c13b0
             try clear c14
             try clear c14b0
             try clear hcz5_0
             try clear hcz7_0
             try clear hfz5_0
             try clear hfz7_0
             try clear hx245_0
             try clear p2
             try clear p245
             try clear p6
             try clear q245
             obtain ⟨x7_4, x46_4, rfl, rfl, HA, HK4, HO_3, HO_6, HO_38, HO_241000, BK240, HR245_0, HB⟩ := hrel; cases gk with
             | zero => exact absurd HA.out (by simp [impl_IsPrimitiveMorphism.l2])
             | succ k4 =>
              have H := HA.out; clear HA; simp only [impl_IsPrimitiveMorphism.l2] at H; by_cases c15 : x46_4 < ((rd_L1 x6_2 x40_3).length : Int)
              ·rw [if_pos c15] at H; have c15b0 : decide (x46_4 < ((rd_L1 x6_2 x40_3).length : Int)) = true := decide_eq_true c15; clear c15; (try simp only [hl3_2] at c15b0); by_cases c16 : 0 ≤ x46_4
               ·rw [if_pos c16] at H; have c16b0 : decide (0 ≤ x46_4) = true := decide_eq_true c16; clear c16; by_cases c17 : x46_4 < ((rd_L1 x6_2 x40_3).length : Int)
                ·rw [if_pos c17] at H; have c17b0 : decide (x46_4 < ((rd_L1 x6_2 x40_3).length : Int)) = true := decide_eq_true c17; clear c17; (try simp only [hl3_2] at c17b0); by_cases c18 : x7_4 = true
                 ·subst c18; have H1 : (impl_IsPrimitiveMorphism.l2 k4 x3_2 (t241.length : Int) x6_2 (decide ((rd (rd_L1 x6_2 x40_3) x46_4) > 0)) (wrap64 ((t241.length : Int) * (t241.length : Int))) x36_2 x6_2 (x6_2.length : Int) x40_3 (rd_L1 x6_2 x40_3) ((rd_L1 x6_2 x40_3).length : Int) (wrap64 (x46_4 + 1))) = some r := by rw [if_pos rfl] at H; exact H
                  clear H; have H := H1; clear H1; have H' := am H; clear H; have p246 : 0 ≤ (x46_4 : Int) := oD; have q246 : x46_4 < ((rd_L1 x6_2 x40_3).length : Int) := oD; obtain ⟨ad246, e246, hx246_0⟩ := Kd.at_int HR245_0.out x46_4 p246 q246; cases e246; replace p246 := eq_true p246; replace q246 := eq_true q246; go_wp2; go_roundg k4
                  case measure => have := HJ2.out; have := HK2.out; have := HK3.out; have := HK4.out; omega
                  case rel => exact ⟨(decide ((rd (rd_L1 x6_2 x40_3) x46_4) > 0)), (wrap64 (x46_4 + 1)), (by first | rfl | (simp; done) | (simp [*]; done)), (by first | rfl | (simp; done) | (simp [*]; done)), H', ⟨by have := HJ2.out; have := HK2.out; have := HK3.out; have := HK4.out; omega⟩, ⟨by (try simp only [hl3_2]); exact rV HO_3⟩, ⟨by (try simp only [hl3_2]); exact rV HO_6⟩, ⟨by (try simp only [hl3_2]); exact rV HO_38⟩, ⟨by (try simp only [hl3_2]); exact rV HO_241000⟩, ⟨by (try simp only [hl3_2]); exact rX BK240⟩, ⟨by repeat (first | (with_reducible exact HR245_0.out) | (with_reducible refine Kd.C_alloc ?_ _) | (with_reducible refine Kd.C_drewN ?_ _) | (with_reducible refine Kd.C_drew ?_) | exact HR245_0.out)⟩, ⟨by exact rB HB⟩⟩
                 ·replace c18 := Bool.eq_false_iff.mpr c18; subst c18; have H1 : (impl_IsPrimitiveMorphism.l2 k4 x3_2 (t241.length : Int) x6_2 false (wrap64 ((t241.length : Int) * (t241.length : Int))) x36_2 x6_2 (x6_2.length : Int) x40_3 (rd_L1 x6_2 x40_3) ((rd_L1 x6_2 x40_3).length : Int) (wrap64 (x46_4 + 1))) = some r := by rw [if_neg (show ¬ (false = true) by decide)] at H; exact H
                  clear H; have H := H1; clear H1; have H' := am H; clear H; have p246 : 0 ≤ (x46_4 : Int) := oD; have q246 : x46_4 < ((rd_L1 x6_2 x40_3).length : Int) := oD; obtain ⟨ad246, e246, hx246_0⟩ := Kd.at_int HR245_0.out x46_4 p246 q246; cases e246; replace p246 := eq_true p246; replace q246 := eq_true q246; go_wp2; go_roundg k4
                  case measure => have := HJ2.out; have := HK2.out; have := HK3.out; have := HK4.out; omega
                  case rel => exact ⟨(false), (wrap64 (x46_4 + 1)), (by first | rfl | (simp; done) | (simp [*]; done)), (by first | rfl | (simp; done) | (simp [*]; done)), H', ⟨by have := HJ2.out; have := HK2.out; have := HK3.out; have := HK4.out; omega⟩, ⟨by (try simp only [hl3_2]); exact rV HO_3⟩, ⟨by (try simp only [hl3_2]); exact rV HO_6⟩, ⟨by (try simp only [hl3_2]); exact rV HO_38⟩, ⟨by (try simp only [hl3_2]); exact rV HO_241000⟩, ⟨by (try simp only [hl3_2]); exact rX BK240⟩, ⟨by repeat (first | (with_reducible exact HR245_0.out) | (with_reducible refine Kd.C_alloc ?_ _) | (with_reducible refine Kd.C_drewN ?_ _) | (with_reducible refine Kd.C_drew ?_) | exact HR245_0.out)⟩, ⟨by exact rB HB⟩⟩
                ·rw [if_neg c17] at H; exact absurd H (by simp)
               ·rw [if_neg c16] at H; exact absurd H (by simp)
              ·rw [if_neg c15] at H; have c15b0 : decide (x46_4 < ((rd_L1 x6_2 x40_3).length : Int)) = false := decide_eq_false c15; clear c15; (try simp only [hl3_2] at c15b0); have H' := am H; clear H; go_wp2; go_roundg k4
               case measure => have := HJ2.out; have := HK2.out; have := HK3.out; have := HK4.out; omega
               case rel => exact ⟨(x7_4), (wrap64 (x40_3 + 1)), (by first | rfl | (simp; done) | (simp [*]; done)), (by first | rfl | (simp; done) | (simp [*]; done)), H', ⟨by have := HJ2.out; have := HK2.out; have := HK3.out; have := HK4.out; omega⟩, ⟨by (try simp only [hl3_2]); exact rV HO_3⟩, ⟨by (try simp only [hl3_2]); exact rV HO_6⟩, ⟨by (try simp only [hl3_2]); exact rV HO_38⟩, ⟨by (try simp only [hl3_2]); exact rV HO_241000⟩, ⟨by (try simp only [hl3_2]); exact rX BK240⟩, ⟨by exact rB HB⟩⟩
           ·rw [if_neg c14] at H; exact absurd H (by simp)
          ·rw [if_neg c13] at H; exact absurd H (by simp)
         ·rw [if_neg c12] at H; have c12b0 : decide (x40_3 < (x6_2.length : Int)) = false := decide_eq_false c12; clear c12; (try simp only [hl3_2] at c12b0); by_cases c19 : x7_3 = true
          ·subst c19; have H1 : (some true) = some r := by rw [if_pos rfl] at H; exact H
           clear H; have H := H1; clear H1; obtain rfl := Option.some.inj H; go_wp2; go_ret; exact ⟨by first | rfl | (simp [errW_none, errW_some] <;> rfl) | (simp [*, errW_none, errW_some] <;> rfl), by exact rB HB⟩
          ·replace c19 := Bool.eq_false_iff.mpr c19; subst c19; have H1 : ((impl_square.f k3 (t241.length : Int)).bind fun t247 => (impl_IsPrimitiveMorphism.l3 k3 x3_2 (t241.length : Int) t247 (wrap64 ((t241.length : Int) * (t241.length : Int))) x36_2 x6_2 (x6_2.length : Int) 0)) = some r := by rw [if_neg (show ¬ (false = true) by decide)] at H; exact H
           clear H; have H := H1; clear H1; replace H := bE H; obtain ⟨t247, A200, H⟩ := H; replace H : (impl_IsPrimitiveMorphism.l3 k3 x3_2 (t241.length : Int) t247 (wrap64 ((t241.length : Int) * (t241.length : Int))) x36_2 x6_2 (x6_2.length : Int) 0) = some r := H; have A20 := am A200; clear A200; have H' := am H; clear H; go_wp2_with ((with_reducible refine gate_callee (f := 114) rfl ?_); refine Aside0.out ?_); refine am ?_; refine goesL_ (some 59) rfl rfl Try.func114 (by kernel_rfl) rfl #[.int .i64 (t241.length : Int)] rfl (by (try simp only [hl3_2]); (try simp only [List.map_toArray, List.map_cons, List.map_nil]); first | done | rfl) ?_; refine (impl_square.calls k3 (t241.length : Int) t247 _ A20.out).mono ?_; rintro e w21 ⟨v248, rfl, ho0, hb⟩; refine ⟨_, rfl, ?_⟩; have HM := am (Kd.V_reads' HO_3.out).2.2; have HX := am (Kd.V_reads' HO_6.out).2.2; have HO_12 := am ho0; have HN := am hb; clear ho0 hb; generalize wr = wb at *; go_wp2; go_loopg [62] k3 (fun kq v62 w' => ∃ (x12_4 : List (List Int)) (x62_4 : Int), v62 = .int .i64 x62_4 ∧ Aside0 (impl_IsPrimitiveMorphism.l3 kq x3_2 (t241.length : Int) x12_4 (wrap64 ((t241.length : Int) * (t241.length : Int))) x36_2 x6_2 (x6_2.length : Int) x62_4 = some r) ∧ Aside0 (kq ≤ k3) ∧ Aside0 (Kd.S (Kd.slice 3 (Kd.int .i64)) 36 w' wb.heap.size (fun _ => True) v248 x12_4) ∧ Aside0 (Below wb.heap.size wb w'))
           case atStart => exact ⟨t247, 0, (by first | rfl | (simp; done) | (simp [*]; done)), H', ⟨Nat.le_refl _⟩, HO_12, HN⟩
           case round =>
            clear H' HO_12 HN; obtain ⟨x12_4, x62_4, rfl, HA, HK4, HO_12, HN⟩ := hrel; cases gk with
            | zero => exact absurd HA.out (by simp [impl_IsPrimitiveMorphism.l3])
            | succ k4 =>
             have H := HA.out; clear HA; simp only [impl_IsPrimitiveMorphism.l3] at H; by_cases c22 : x62_4 < (x6_2.length : Int)
             ·rw [if_pos c22] at H; have c22b0 := decide_eq_true c22; by_cases c23 : 0 ≤ x62_4
              case neg => rw [if_neg c23] at H; cases H
              rw [if_pos c23, if_pos c22] at H; have H' := am H; clear H; obtain ⟨ad250, A250, c250, e250, hx250_0, hl250, hC250⟩ := at_L1 HX.out x62_4 c23 c22; cases e250; replace hx250_0 := (HN.out.cell (World.block_lt_of_cell? wb _ hx250_0)).trans hx250_0; have HC250 := am hC250; have p250 := eq_true c23; have q250 := eq_true c22; clear hl250 hC250 c22 c23; go_wp2; go_loopg [69] k4 (fun kq v69 w' => ∃ (x12_5 : List (List Int)) (x69_5 : Int), v69 = .int .i64 x69_5 ∧ Aside0 (impl_IsPrimitiveMorphism.l4 kq x3_2 (t241.length : Int) x12_5 x62_4 (wrap64 ((t241.length : Int) * (t241.length : Int))) x36_2 x6_2 (x6_2.length : Int) x62_4 (rd_L1 x6_2 x62_4) ((rd_L1 x6_2 x62_4).length : Int) x69_5 = some r) ∧ Aside0 (kq ≤ k4) ∧ Aside0 (Kd.S (Kd.slice 3 (Kd.int .i64)) 36 w' wb.heap.size (fun _ => True) v248 x12_5) ∧ Aside0 (Below wb.heap.size wb w'))
              case atStart => exact ⟨x12_4, 0, (by first | rfl | (simp; done) | (simp [*]; done)), H', ⟨Nat.le_refl _⟩, HO_12, HN⟩
              case round =>
               clear H' HO_12 HN; obtain ⟨x12_5, x69_5, rfl, HA, HK5, HO_12, HN⟩ := hrel; cases gk with
               | zero => exact absurd HA.out (by simp [impl_IsPrimitiveMorphism.l4])
               | succ k5 =>
                have H := HA.out; clear HA; simp only [impl_IsPrimitiveMorphism.l4] at H; by_cases c25 : x69_5 < ((rd_L1 x6_2 x62_4).length : Int)
                ·rw [if_pos c25] at H; have c25b0 := decide_eq_true c25; by_cases c26 : 0 ≤ x69_5
                 case neg => rw [if_neg c26] at H; cases H
                 rw [if_pos c26, if_pos c25] at H; by_cases c28 : x69_5 < (x3_2.length : Int)
                 case neg => rw [if_neg c28] at H; cases H
                 rw [if_pos c28] at H; have H' := am H; clear H; obtain ⟨ad251, e251, hx251_0⟩ := Kd.at_int HC250.out x69_5 c26 c25; cases e251; replace hx251_0 := (HN.out.cell (World.block_lt_of_cell? wb _ hx251_0)).trans hx251_0; obtain ⟨ad252, A252, c252, e252, hx252_0, hl252, hC252⟩ := at_L1 HM.out x69_5 c26 c28; cases e252; replace hx252_0 := (HN.out.cell (World.block_lt_of_cell? wb _ hx252_0)).trans hx252_0; have HC252 := am hC252; have p251 := eq_true c26; have q251 := eq_true c25; have q252 := eq_true c28; clear hl252 hC252 c25 c26 c28; go_wp2; go_loopg [79] k5 (fun kq v79 w' => ∃ (x12_6 : List (List Int)) (x79_6 : Int), v79 = .int .i64 x79_6 ∧ Aside0 (impl_IsPrimitiveMorphism.l5 kq x3_2 (t241.length : Int) x12_6 x62_4 (wrap64 ((t241.length : Int) * (t241.length : Int))) x36_2 x6_2 (x6_2.length : Int) x62_4 (rd_L1 x6_2 x62_4) ((rd_L1 x6_2 x62_4).length : Int) x69_5 (rd_L1 x3_2 x69_5) ((rd_L1 x3_2 x69_5).length : Int) x79_6 = some r) ∧ Aside0 (kq ≤ k5) ∧ Aside0 (Kd.S (Kd.slice 3 (Kd.int .i64)) 36 w' wb.heap.size (fun _ => True) v248 x12_6) ∧ Aside0 (Below wb.heap.size wb w'))
                 case atStart => exact ⟨x12_5, 0, (by first | rfl | (simp; done) | (simp [*]; done)), H', ⟨Nat.le_refl _⟩, HO_12, HN⟩
                 case round =>
                  clear H' HO_12 HN; obtain ⟨x12_6, x79_6, rfl, HA, HK6, HO_12, HN⟩ := hrel; cases gk with
                  | zero => exact absurd HA.out (by simp [impl_IsPrimitiveMorphism.l5])
                  | succ k6 =>
                   have H := HA.out; clear HA; simp only [impl_IsPrimitiveMorphism.l5] at H; by_cases c29 : x79_6 < ((rd_L1 x3_2 x69_5).length : Int)
                   ·rw [if_pos c29] at H; have c29b0 := decide_eq_true c29; by_cases c30 : 0 ≤ x79_6
                    case neg => rw [if_neg c30] at H; cases H
                    rw [if_pos c30, if_pos c29] at H; by_cases c32 : 0 ≤ x62_4
                    case neg => rw [if_neg c32] at H; cases H
                    rw [if_pos c32] at H; by_cases c33 : x62_4 < (x12_6.length : Int)
                    case neg => rw [if_neg c33] at H; cases H
                    rw [if_pos c33] at H; by_cases c34 : x79_6 < ((rd_L1 x12_6 x62_4).length : Int)
                    case neg => rw [if_neg c34] at H; cases H
                    rw [if_pos c34] at H; obtain ⟨ad253, e253, hx253_0⟩ := Kd.at_int HC252.out x79_6 c30 c29; cases e253; replace hx253_0 := (HN.out.cell (World.block_lt_of_cell? wb _ hx253_0)).trans hx253_0; have p253 := eq_true c30; have q253 := eq_true c29; have p13 := eq_true c32; have q13 := eq_true c33; have q14 := eq_true c34; clear c29 c30 c32 c33 c34; go_upto_region 30 with fail; have HO2 := am (Kd.S_drew HO_12.out); have HN2 := am (below_drew1 HN.out); have hx253 : wr.drew.cell? (ad253.add x79_6.toNat) = _ := hx253_0; clear HO_12 HN; obtain ⟨An, cn, rfl⟩ := Kd.S_slice HO2.out; obtain ⟨adn, Ar, cr, en, hxn, hln, hCn⟩ := at_L1 (Kd.S_reads' HO2.out).2.2 x62_4 (of_eq_true p13) (of_eq_true q13); subst en; clear hxn hln hCn; obtain ⟨oki, cv, hcl, hM, hcc, hoki, hback⟩ := Kd.S_borrow HO2.out [] x62_4 (of_eq_true p13) (of_eq_true q13); obtain ⟨v0, rfl, hR0⟩ := hM; have hrw : x12_6.getD x62_4.toNat [] = rd_L1 x12_6 x62_4 := rfl; rw [hrw] at hR0; clear hrw; obtain ⟨row, hrow⟩ : ∃ row, rd_L1 x12_6 x62_4 = row := ⟨_, rfl⟩; rw [hrow] at hR0; rw [hrow] at H; rw [hrow] at q14; have HROW := am hrow; clear hrow; obtain ⟨g0, c0, rfl, hb0, hl0, cells0, hg0⟩ := Kd.R_form hR0 (by have := of_eq_true q14; have := of_eq_true p253; omega); have hcu : wr.drew.cell? (adn.add x62_4.toNat) = some (.slice (some ⟨g0, 0, none⟩) row.length c0) := by have h_ := hcc 0 _ rfl; rwa [Nat.add_zero, show (Kd.slice 3 (Kd.int .i64)).sz = 1 from rfl, Nat.mul_one] at h_
                    obtain ⟨ce, hcel, hMe, hcce, hfre⟩ := Kd.R_elem hR0 0 x79_6 (of_eq_true p253) (of_eq_true q14); have hMe' : ce = [.int .i64 (row.getD x79_6.toNat 0)] := hMe; subst hMe'; have hcr : wr.drew.cell? ⟨g0, x79_6.toNat, none⟩ = some (.int .i64 (rd row x79_6)) := by have h_ := hcce 0 _ rfl; rwa [Nat.add_zero, show (Kd.int .i64).sz = 1 from rfl, Nat.mul_one] at h_
                    have hfr0 : wr.drew.frozen? ⟨g0, x79_6.toNat, none⟩ = false := by have h_ := hfre 0; rwa [Nat.add_zero, show (Kd.int .i64).sz = 1 from rfl, Nat.mul_one] at h_
                    have hown0 : ∀ k, (Value.slice (some ⟨g0, 0, none⟩) row.length c0).ownBlock = some k → oki k := hR0.1; obtain ⟨nv, hnv⟩ : ∃ nv, mx (rd row x79_6) (wrap64 ((mn (rd (rd_L1 x6_2 x62_4) x69_5) 1) * (mn (rd (rd_L1 x3_2 x69_5) x79_6) 1))) = nv := ⟨_, rfl⟩; rw [hnv] at H; have HNV := am hnv; clear hnv; have H' := am H; clear H; refine start_ (n := 20) (S := fun w' => w'.cell? (adn.add x62_4.toNat) = some (.slice (some ⟨g0, 0, none⟩) row.length c0) ∧ w'.cell? ⟨g0, x79_6.toNat, none⟩ = some (.int .i64 (rd row x79_6))) (ds := [19]) #[false, false, false, false, false, false, false, false, false, false, false, false, false, false, false, false, false, false, false, false] (by kernel_rfl) rfl rfl ⟨hcu, hcr⟩ (fun hHeld => ?_); generalize wr.drew = w77 at *; refine pure_ (i := 0) (N := some 84) (v := ?_) (a' := ?_) (bA 20 1) rfl rfl (by kernel_rfl) (fun _ _ _ h => h) (Or.inl ⟨by rfl, ?_⟩) ?_ ?_; rotate_left; (intro w'; go_simp; (with_reducible rfl)); rotate_left; (simp only [Act.put, qa, qz, qs, i64_w, i32_w]; rfl); refine pure_ (i := 1) (N := some 85) (v := ?_) (a' := ?_) (bA 20 3) rfl rfl (by kernel_rfl) (fun _ _ _ h => h) (Or.inl ⟨by rfl, ?_⟩) ?_ ?_; rotate_left
                    ·intro w'; go_simp; (with_reducible rfl)
                    rotate_left; (simp only [Act.put, qa, qz, qs, i64_w, i32_w]; rfl); refine pure_ (i := 2) (N := some 86) (v := ?_) (a' := ?_) (bA 20 7) rfl rfl (by kernel_rfl) (fun _ _ _ h => h) (Or.inl ⟨by rfl, ?_⟩) ?_ ?_; rotate_left
                    ·intro w'; go_simp; (with_reducible rfl)
                    rotate_left; (simp only [Act.put, qa, qz, qs, i64_w, i32_w]; rfl); refine take_ (i := 3) (N := some 87) (v := ?_) (a' := ?_) (bA 20 15) rfl rfl (by kernel_rfl) (fun _ _ _ h => h) (Or.inl ⟨by rfl, ?_⟩) hHeld ?_ ?_; rotate_left
                    ·rintro w' ⟨s0, s1⟩; go_simp; (with_reducible rfl)
                    rotate_left; (simp only [Act.put, qa, qz, qs, i64_w, i32_w]; rfl); refine pure_ (i := 4) (N := some 88) (v := ?_) (a' := ?_) (bA 20 31) rfl rfl (by kernel_rfl) (fun _ _ _ h => h) (Or.inl ⟨by rfl, ?_⟩) ?_ ?_; rotate_left
                    ·intro w'; go_simp; (with_reducible rfl)
                    rotate_left; (simp only [Act.put, qa, qz, qs, i64_w, i32_w]; rfl); refine pure_ (i := 5) (N := some 89) (v := ?_) (a' := ?_) (bA 20 63) rfl rfl (by kernel_rfl) (fun _ _ _ h => h) (Or.inl ⟨by rfl, ?_⟩) ?_ ?_; rotate_left
                    ·intro w'; go_simp; (with_reducible rfl)
                    rotate_left; (simp only [Act.put, qa, qz, qs, i64_w, i32_w]; rfl); refine pure_ (i := 6) (N := some 90) (v := ?_) (a' := ?_) (bA 20 127) rfl rfl (by kernel_rfl) (fun _ _ _ h => h) (Or.inl ⟨by rfl, ?_⟩) ?_ ?_; rotate_left
                    ·intro w'; go_simp; (with_reducible rfl)
                    rotate_left; (simp only [Act.put, qa, qz, qs, i64_w, i32_w]; rfl); refine pure_ (i := 7) (N := some 91) (v := ?_) (a' := ?_) (bA 20 255) rfl rfl (by kernel_rfl) (fun _ _ _ h => h) (Or.inl ⟨by rfl, ?_⟩) ?_ ?_; rotate_left
                    ·intro w'; go_simp; (with_reducible rfl)
                    rotate_left; (simp only [Act.put, qa, qz, qs, i64_w, i32_w]; rfl); refine take_ (i := 8) (N := some 92) (v := ?_) (a' := ?_) (bA 20 511) rfl rfl (by kernel_rfl) (fun _ _ _ h => h) (Or.inl ⟨by rfl, ?_⟩) hHeld ?_ ?_; rotate_left
                    ·rintro w' ⟨s0, s1⟩; go_simp; (with_reducible rfl)
                    rotate_left; (simp only [Act.put, qa, qz, qs, i64_w, i32_w]; rfl); refine pure_ (i := 9) (N := some 93) (v := ?_) (a' := ?_) (bA 20 1023) rfl rfl (by kernel_rfl) (fun _ _ _ h => h) (Or.inl ⟨by rfl, ?_⟩) ?_ ?_; rotate_left
                    ·intro w'; go_simp; (with_reducible rfl)
                    rotate_left; (simp only [Act.put, qa, qz, qs, i64_w, i32_w]; rfl); refine pure_ (i := 10) (N := some 94) (v := ?_) (a' := ?_) (bA 20 2047) rfl rfl (by kernel_rfl) (fun _ _ _ h => h) (Or.inl ⟨by rfl, ?_⟩) ?_ ?_; rotate_left
                    ·intro w'; go_simp; (with_reducible rfl)
                    rotate_left; (simp only [Act.put, qa, qz, qs, i64_w, i32_w]; rfl); refine take_ (i := 11) (N := some 95) (v := ?_) (a' := ?_) (bA 20 4095) rfl rfl (by kernel_rfl) (fun _ _ _ h => h) (Or.inl ⟨by rfl, ?_⟩) hHeld ?_ ?_; rotate_left
                    ·rintro w' ⟨s0, s1⟩; go_simp; (with_reducible rfl)
                    rotate_left; (simp only [Act.put, qa, qz, qs, i64_w, i32_w]; rfl); refine pure_ (i := 12) (N := some 96) (v := ?_) (a' := ?_) (bA 20 8191) rfl rfl (by kernel_rfl) (fun _ _ _ h => h) (Or.inl ⟨by rfl, ?_⟩) ?_ ?_; rotate_left
                    ·intro w'; go_simp; (with_reducible rfl)
                    rotate_left; (simp only [Act.put, qa, qz, qs, i64_w, i32_w]; rfl); refine pure_ (i := 13) (N := some 97) (v := ?_) (a' := ?_) (bA 20 16383) rfl rfl (by kernel_rfl) (fun _ _ _ h => h) (Or.inl ⟨by rfl, ?_⟩) ?_ ?_; rotate_left
                    ·intro w'; go_simp; (with_reducible rfl)
                    rotate_left; (simp only [Act.put, qa, qz, qs, i64_w, i32_w]; rfl); refine pure_ (i := 14) (N := some 98) (v := ?_) (a' := ?_) (bA 20 32767) rfl rfl (by kernel_rfl) (fun _ _ _ h => h) (Or.inl ⟨by rfl, ?_⟩) ?_ ?_; rotate_left
                    ·intro w'; go_simp; (with_reducible rfl)
                    rotate_left; (simp only [Act.put, qa, qz, qs, i64_w, i32_w]; rfl); refine pure_ (i := 15) (N := some 99) (v := ?_) (a' := ?_) (bA 20 65535) rfl rfl (by kernel_rfl) (fun _ _ _ h => h) (Or.inl ⟨by rfl, ?_⟩) ?_ ?_; rotate_left
                    ·intro w'; go_simp; (with_reducible rfl)
                    rotate_left; (simp only [Act.put, qa, qz, qs, i64_w, i32_w]; rfl); refine pure_ (i := 16) (N := some 100) (v := ?_) (a' := ?_) (bA 20 131071) rfl rfl (by kernel_rfl) (fun _ _ _ h => h) (Or.inl ⟨by rfl, ?_⟩) ?_ ?_; rotate_left
                    ·intro w'; go_simp; (with_reducible rfl)
                    rotate_left; (simp only [Act.put, qa, qz, qs, i64_w, i32_w]; rfl); refine pure_ (i := 17) (N := some 101) (v := ?_) (a' := ?_) (bA 20 262143) rfl rfl (by kernel_rfl) (fun _ _ _ h => h) (Or.inl ⟨by rfl, ?_⟩) ?_ ?_; rotate_left
                    ·intro w'; go_simp; (with_reducible rfl)
                    rotate_left; (simp only [Act.put, qa, qz, qs, i64_w, i32_w]; rfl); refine pure_ (i := 18) (N := some 102) (v := ?_) (a' := ?_) (bA 20 524287) rfl rfl (by kernel_rfl) (fun _ _ _ h => h) (Or.inl ⟨by rfl, ?_⟩) ?_ ?_; rotate_left
                    ·intro w'; go_simp; (with_reducible rfl)
                    rotate_left; (simp only [Act.put, qa, qz, qs, i64_w, i32_w]; rfl); refine last_ (i := 19) (N := none) (bA 20 1048575) rfl rfl (by kernel_rfl) (by decide) (fun K hK => ?_); refine skip_ (w1 := ?_) (by rfl) rfl ?_ ?_; rotate_left
                    ·go_simp; rfl
                    refine hK.out _ _ ?_; clear hK K; refine done_ (by kernel_rfl) ?_; obtain ⟨m1, hm1⟩ : ∃ m1, (if (1 : Int) < rd (rd_L1 x6_2 x62_4) x69_5 then (1 : Int) else rd (rd_L1 x6_2 x62_4) x69_5) = m1 := ⟨_, rfl⟩; obtain ⟨m2, hm2⟩ : ∃ m2, (if (1 : Int) < rd (rd_L1 x3_2 x69_5) x79_6 then (1 : Int) else rd (rd_L1 x3_2 x69_5) x79_6) = m2 := ⟨_, rfl⟩; have hnv : (if rd row x79_6 < wrap64 (m1 * m2) then wrap64 (m1 * m2) else rd row x79_6) = nv := by rw [← hm1, ← hm2]; exact HNV.out
                    rw [hm1, hm2, hnv]; clear hm1 hm2 hnv; have hseg := Kd.R_seg hR0 x79_6 (of_eq_true p253) (of_eq_true q14) (c := [.int .i64 (row.getD x79_6.toNat 0)]) (seg := [.int .i64 nv]) (j := 0) rfl hcce (Nat.le_refl 1) (x' := nv) (okp := fun _ => False) rfl (fun _ hk => hk.elim); rw [Nat.add_zero, show (Kd.int .i64).sz = 1 from rfl, Nat.mul_one] at hseg; have HO9 := am (show Kd.S (Kd.slice 3 (Kd.int .i64)) 36 (w77.setCell ⟨g0, x79_6.toNat, none⟩ (.int .i64 nv)) wb.heap.size (fun _ => True) (.slice (some adn) x12_6.length cn) (x12_6.set x62_4.toNat (row.set x79_6.toNat nv)) from hback hseg.2 (fun k hk => hown0 k (by rw [← hk]; simp [Value.ownBlock])) ⟨_, rfl, hseg.1⟩); have HN9 := am (show Below wb.heap.size wb (w77.setCell ⟨g0, x79_6.toNat, none⟩ (.int .i64 nv)) from below_set HN2.out hb0); clear hseg hback hR0 hoki hown0 hMe hcce hfre hcc hcl hcel hg0 HO2 HN2 hHeld hcu hcr hfr0 hx253; generalize w77.setCell ⟨g0, x79_6.toNat, none⟩ (.int .i64 nv) = w80 at *; go_wp2; go_roundg k6
                    case measure => have := HJ2.out; have := HK2.out; have := HK3.out; have := HK4.out; have := HK5.out; have := HK6.out; omega
                    case rel => exact ⟨_, (wrap64 (x79_6 + 1)), (by first | rfl | (simp; done) | (simp [*]; done)), H', ⟨by have := HJ2.out; have := HK2.out; have := HK3.out; have := HK4.out; have := HK5.out; have := HK6.out; omega⟩, HO9, HN9⟩
                   ·rw [if_neg c29] at H; have c29b0 := decide_eq_false c29; clear c29; have H' := am H; clear H; go_wp2; go_roundg k6
                    case measure => have := HJ2.out; have := HK2.out; have := HK3.out; have := HK4.out; have := HK5.out; have := HK6.out; omega
                    case rel => exact ⟨_, (wrap64 (x69_5 + 1)), (by first | rfl | (simp; done) | (simp [*]; done)), H', ⟨by have := HJ2.out; have := HK2.out; have := HK3.out; have := HK4.out; have := HK5.out; have := HK6.out; omega⟩, HO_12, HN⟩
                ·rw [if_neg c25] at H; have c25b0 := decide_eq_false c25; clear c25; have H' := am H; clear H; go_wp2; go_roundg k5
                 case measure => have := HJ2.out; have := HK2.out; have := HK3.out; have := HK4.out; have := HK5.out; omega
                 case rel => exact ⟨_, (wrap64 (x62_4 + 1)), (by first | rfl | (simp; done) | (simp [*]; done)), H', ⟨by have := HJ2.out; have := HK2.out; have := HK3.out; have := HK4.out; have := HK5.out; omega⟩, HO_12, HN⟩
             ·rw [if_neg c22] at H; have c22b0 := decide_eq_false c22; clear c22; have H' := am H; clear H; go_wp2; (try simp only [← hl3_2]); go_roundg k4
              case measure => have := HJ2.out; have := HK2.out; have := HK3.out; have := HK4.out; omega
              case rel => exact ⟨_, _, (wrap64 (x36_2 + 1)), _, _, (by first | rfl | (simp; done) | (simp [*]; done)), H', ⟨by have := HJ2.out; have := HK2.out; have := HK3.out; have := HK4.out; omega⟩, ⟨by (try simp only [hl3_2]); exact Kd.V_below HO_3.out HN.out⟩, ⟨Kd.V_mono (Kd.S_V (Kd.S_types (Kd.S_lower (Kd.S_newM (M := fun k_ => w.heap.size ≤ k_) HO_12.out (below_size HB.out) (fun k_ h_ => h_)) (below_size HB.out)) (blk_below BK240.out HN.out) (by decide))) (fun k_ hk => ⟨.inr hk.1.1, hk.2⟩)⟩, ⟨Kd.V_below HO_241000.out HN.out⟩, ⟨blk_below BK240.out HN.out⟩, ⟨below_step HB.out HN.out⟩⟩
      ·rw [if_neg c10] at H; have c10b0 : decide (x36_2 < (wrap64 ((t241.length : Int) * (t241.length : Int)))) = false := decide_eq_false c10; clear c10; (try simp only [hl3_2] at c10b0); obtain rfl := Option.some.inj H; go_wp2; go_ret; exact ⟨by first | rfl | (simp [errW_none, errW_some] <;> rfl) | (simp [*, errW_none, errW_some] <;> rfl), by exact rB HB⟩
end Go.Proofs.Ytooamcjgejajeaa.M
