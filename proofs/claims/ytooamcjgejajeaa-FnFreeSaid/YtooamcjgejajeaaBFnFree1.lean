/- Texts of the claim on FnFree, joined (part 1 of 6): walks of the functions, what they come to, and in the last part the row. No condition of mine. -/
import Derived.Test.YtooamcjgejajeaaBFnFree0
import Derived.Test.YtooamcjgejajeaaProg
import Derived.Below
import Derived.Deep.Draws
import Derived.Deep.AppendLies
import Derived.Maps.AppendAt
import Derived.OwnWalk
import Derived.Laws.BytesArg
import Derived.Laws.MakeOwn
import Derived.Laws.OwnMore
import Derived.Deep.OwnRows
import Derived.Tactics
import Derived.Lib.ConvBytes
import Derived.Laws.Slices
import Derived.WalkKit
import Derived.KernelRfl
import Derived.RowKit3
import Derived.Deep.LoopGhost
import Derived.Deep.QuietTactic
import Derived.BigQuiet
import Derived.WideLaws
import Derived.Deep.DeepCutAuto
import Derived.Deep.CutBlock
import Derived.Deep.RegionHeld3
import Derived.Laws.Rows
import Derived.Lib.AppendStr
import Derived.ArgAppend
import Derived.Laws.IdiomCopy
import Derived.OrdersHeld
import Derived.Laws.BitsLemmas
import Derived.RowKit
/- Two words for the walks of this claim: a call of a function value that a slot holds. No condition. -/
namespace Go.Proofs.Ytooamcjgejajeaa.KW
open Go.Proofs.YtooamcjgejajeaaW.PrintWords Go.Proofs.YtooamcjgejajeaaW.PrintLast
variable {P : Program} {ops : Array Oper} {Q : Exit → Act → World → Prop}
theorem gate_calleeV {rest : List Oper} {o : Oper} {a : Act} {W : World} {t : Tmp} {as0 : Array Operand} {ts : Array TypeId} (_ho : o.op = .call { callee := .value (.tmp t), args := as0, argTypes := ts }) (h : wpList P ops Q (o :: rest) a W) : wpList P ops Q (o :: rest) a W := h
theorem goesV_ {rest : List Oper} {oi : Oper} {a : Act} {w : World} (N : Option Tmp) (hd : oi.dst = N) (hg : oi.guard = none) {t : Tmp} {f : FuncId} {cap : Array Value} {fn : Func} {as0 : Array Operand} {ts : Array TypeId}
    (hf : P.funcs[f]? = some fn) (hname : (fn.name == "runtime.NumGoroutine") = false) (hb : fn.body.isSome = true) (args : Array Value)
    (hop : oi.op = .call { callee := .value (.tmp t), args := as0, argTypes := ts }) (hv : a.eval (.tmp t) = .func (.func f) #[] cap) (hargs : as0.map a.eval ++ cap = args)
    (h : Calls P f args w fun e w' => ∃ v, e = .returned v ∧ wpList P ops Q rest (a.put N v) w') : wpList P ops Q (oi :: rest) a w := by
  refine wpList_plain hg fun K hK => ?_
  have he := enters_ hf hname hb args w; have hrun : (execOp a.eval oi).run P w = .ok (.enter f args) w := by
    unfold execOp; simp only [hop, resolve, hv]; simp [Deferred.ofValue, invoke, hargs, he]
  unfold Oper.wp; rw [hrun, Oper.upon_enter]; refine h.mono fun e w'' hh => ?_
  obtain ⟨v, rfl, hk⟩ := hh; subst hd; exact hK _ _ hk
end Go.Proofs.Ytooamcjgejajeaa.KW
/- Plain lemmas on rounds, lists and whole numbers, with no program in sight. No condition. -/
namespace Go.Proofs.Ytooamcjgejajeaa.K
open Go.RowKit Go.Proofs.YtooamcjgejajeaaW.PrintWords
/-- Induction downwards from n. -/
theorem down {P : Nat → Prop} (n : Nat) (h0 : P n) (hs : ∀ i, i < n → P (i + 1) → P i) : ∀ i, i ≤ n → P i := by
  intro i hi; obtain ⟨d, rfl⟩ : ∃ d, n = i + d := ⟨n - i, by omega⟩; clear hi
  induction d generalizing i with
  | zero => exact h0
  | succ d ih =>
    refine hs i (by omega) ?_; refine ih (i + 1) ?_ ?_
    · rw [show i + 1 + d = i + (d + 1) from by omega]; exact h0
    · intro j hj; exact hs j (by omega)
theorem wsucc {i : Nat} (h : i < 9223372036854775807) : wrap64 ((i : Int) + 1) = ((i + 1 : Nat) : Int) := by
  unfold wrap64; omega
theorem w_id {a : Int} (h1 : -9223372036854775808 ≤ a) (h2 : a ≤ 9223372036854775807) : wrap64 a = a := by
  unfold wrap64; omega
theorem rd_at (xs : List Int) (i : Nat) : rd xs (i : Int) = xs.getD i 0 := by simp [rd]
theorem rd_get (xs : List Int) (i : Nat) (h : i < xs.length) : rd xs (i : Int) = xs[i] := by
  rw [rd_at, List.getD_eq_getElem?_getD, List.getElem?_eq_getElem h]; rfl
theorem Ev.some {α : Type} (r : α) : Ev (fun _ => Option.some r) r := Ev.now r
theorem Ev.val {α : Type} {x : Option α} {r : α} (h : x = Option.some r) : Ev (fun _ => x) r := ⟨0, fun _ _ => h⟩
theorem Ev.if_pos {α : Type} {c : Prop} [Decidable c] {f g : Nat → Option α} {r : α} (h : c) (k : Ev f r) : Ev (fun n => if c then f n else g n) r :=
  Ev.congr (fun _ => _root_.if_pos h) k
theorem Ev.if_neg {α : Type} {c : Prop} [Decidable c] {f g : Nat → Option α} {r : α} (h : ¬ c) (k : Ev g r) : Ev (fun n => if c then f n else g n) r :=
  Ev.congr (fun _ => _root_.if_neg h) k
theorem Ev.ite {α : Type} {c : Prop} [Decidable c] {f g : Nat → Option α} {r : α} (h1 : c → Ev f r) (h2 : ¬ c → Ev g r) : Ev (fun n => if c then f n else g n) r := by
  by_cases h : c
  · exact Ev.if_pos h (h1 h)
  · exact Ev.if_neg h (h2 h)
theorem Ev.same {α : Type} {g : Nat → Option α} {r q : α} (h : Ev g r) (e : r = q) : Ev g q := e ▸ h
/-- A row told by its places. -/
def row (n : Nat) (f : Nat → Int) : List Int := (List.range n).map f
theorem drop_eq {α : Type} (xs : List α) (i : Nat) (h : i < xs.length) : xs.drop i = xs[i] :: xs.drop (i + 1) := List.drop_eq_getElem_cons h
theorem take_succ {α : Type} (xs : List α) (i : Nat) (h : i < xs.length) : xs.take (i + 1) = xs.take i ++ [xs[i]] := by
  rw [List.take_add_one, List.getElem?_eq_getElem h]; rfl
def total : List (List Int) → Nat
  | [] => 0
  | x :: xs => x.length + total xs
theorem total_mem (xs : List (List Int)) (x : List Int) (h : x ∈ xs) : x.length ≤ total xs := by
  induction xs with
  | nil => cases h
  | cons y ys ih => 
    rcases List.mem_cons.1 h with rfl | h
    · simp only [total]; omega
    · have := ih h; simp only [total]; omega
theorem total_at (xs : List (List Int)) (i : Nat) (h : i < xs.length) : xs[i].length ≤ total xs := total_mem xs _ (List.getElem_mem h)
end Go.Proofs.Ytooamcjgejajeaa.K
namespace Go.Proofs.Ytooamcjgejajeaa.M
open Go.RowKit Go.Proofs.Ytooamcjgejajeaa.KW Go.Proofs.YtooamcjgejajeaaW.PrintWords Go.Proofs.YtooamcjgejajeaaW.PrintLast Go.Proofs.YtooamcjgejajeaaW.PrintMore
attribute [local go_sem] max2_int min2_int max_two min_two max_three min_three max_four min_four
set_option linter.unusedVariables false
set_option linter.unusedSimpArgs false
def errW : Option Int → Value
 | none => .nilIface
 | some c => .iface 0 (.int .i64 c)
theorem errW_none : errW none = .nilIface := rfl
theorem errW_some (c : Int) : errW (some c) = .iface 0 (.int .i64 c) := rfl
theorem info3 : (Try.prog.info? 3).map (fun i => (i.zero, i.size, i.bytes)) = some (some (.int .i64 0), 1, 8) := by kernel_rfl
theorem info9 : (Try.prog.info? 9).map (fun i => (i.zero, i.size, i.bytes)) = some (some (.string ⟨#[]⟩), 1, 16) := by kernel_rfl
theorem info36 : (Try.prog.info? 36).map (fun i => (i.zero, i.size, i.bytes)) = some (some (.slice none 0 0), 1, 24) := by kernel_rfl
-- the values' own types
def rd_L1 (xs : List (List Int)) (i : Int) : (List Int) := xs.getD i.toNat ([] : List Int)
theorem at_L1 {w : World} {A : Option Addr} {n : Nat} {xs : List (List Int)} (h : Kd.C (Kd.slice 3 (Kd.int .i64)) w A n xs) (i : Int) (h0 : 0 ≤ i) (h1 : i < n) : ∃ ad A0 c0, A = some ad ∧ w.cell? (ad.add i.toNat) = some (.slice A0 (rd_L1 xs i).length c0) ∧ (rd_L1 xs i).length ≤ c0 ∧ (Kd.int .i64).C w A0 (rd_L1 xs i).length (rd_L1 xs i) := by
 obtain ⟨ad, c, e, _, hK, hc0⟩ := Kd.C_get h ([] : List Int) i h0 h1; have hc : ∀ j u, c[j]? = some u → w.cell? (ad.add (i.toNat * 1 + j)) = some u := hc0; obtain ⟨A0, c0, rfl, l0, g0⟩ := hK; exact ⟨ad, A0, c0, e, by have hq := hc 0 _ rfl; rwa [Nat.mul_one, Nat.add_zero] at hq, l0, g0⟩
end Go.Proofs.Ytooamcjgejajeaa.M
/- Short words for facts that events leave alone. No condition. -/
namespace Go.Proofs.Ytooamcjgejajeaa.KW
open Go.RowKit Go.Proofs.YtooamcjgejajeaaW.PrintWords Go.Proofs.YtooamcjgejajeaaW.PrintLast
class Ge (b g : Nat) : Prop where
  le : b ≤ g
class Nq (a b : Nat) : Prop where
  ne : a ≠ b
class Re (w w' : World) : Prop where
  r : Below w.heap.size w w'
class Rw (b : Nat) (w w' : World) : Prop where
  r : b ≤ w.heap.size → Below b w w'
class Rk (b g : Nat) (w w' : World) : Prop where
  r : w.heap.size ≤ w'.heap.size ∧ ∀ i, i < b → i < w.heap.size → i ≠ g → w'.heap[i]? = w.heap[i]?
class Rq (g : Nat) (w w' : World) : Prop where
  r : w.heap.size ≤ w'.heap.size ∧ (g < w.heap.size → w'.heap[g]? = w.heap[g]?)
variable {w w' w0 : World} {b g h j n : Nat} {o : Obj} {v : Value}
instance : Re w w := ⟨Below.refl _ _⟩
instance [q : Re w w'] : Re w (w'.alloc o) := ⟨below_alloc q.r o⟩
instance [q : Re w w'] : Re w (w'.drewN n) := ⟨pw_below_drewN q.r n⟩
instance [q : Re w w'] : Re w w'.drew := ⟨below_drew1 q.r⟩
instance : Rw b w w := ⟨fun _ => Below.refl _ _⟩
instance [q : Rw b w w'] : Rw b w (w'.alloc o) := ⟨fun hb => (q.r hb).alloc (Nat.le_trans hb (q.r hb).size) o⟩
instance [q : Rw b w w'] : Rw b w (w'.drewN n) := ⟨fun hb => pw_below_drewN (q.r hb) n⟩
instance [q : Rw b w w'] : Rw b w w'.drew := ⟨fun hb => (q.r hb).drew⟩
instance [q : Rw b w w'] [k : Ge b h] : Rw b w (w'.setCell ⟨h, j, none⟩ v) := ⟨fun hb => (q.r hb).setCell k.le _⟩
theorem heap_alloc_lt (w : World) (o : Obj) (i : Nat) (h : i < w.heap.size) : (w.alloc o).heap[i]? = w.heap[i]? := (below_alloc (Below.refl w.heap.size w) o).block i h
theorem size_alloc (w : World) (o : Obj) : w.heap.size ≤ (w.alloc o).heap.size := (below_alloc (Below.refl w.heap.size w) o).size
theorem size_set (w : World) (p : Addr) (v : Value) : w.heap.size ≤ (w.setCell p v).heap.size := by simp [World.setCell]
instance : Rk b g w w := ⟨Nat.le_refl _, fun _ _ _ _ => rfl⟩
instance [q : Rk b g w w'] : Rk b g w (w'.alloc o) := ⟨Nat.le_trans q.r.1 (size_alloc _ _), fun i h1 h2 h3 => (heap_alloc_lt _ _ _ (Nat.lt_of_lt_of_le h2 q.r.1)).trans (q.r.2 i h1 h2 h3)⟩
instance [q : Rk b g w w'] : Rk b g w (w'.drewN n) := ⟨q.r.1, fun i h1 h2 h3 => q.r.2 i h1 h2 h3⟩
instance [q : Rk b g w w'] : Rk b g w w'.drew := ⟨q.r.1, fun i h1 h2 h3 => q.r.2 i h1 h2 h3⟩
instance rkFar [q : Rk b g w w'] [k : Ge b h] : Rk b g w (w'.setCell ⟨h, j, none⟩ v) := ⟨Nat.le_trans q.r.1 (size_set _ _ _), fun i h1 h2 h3 => (Below.heap_setCell w' ⟨h, j, none⟩ v i (fun e => Nat.lt_irrefl _ (Nat.lt_of_lt_of_le h1 (e ▸ k.le)))).trans (q.r.2 i h1 h2 h3)⟩
instance rkOwn [q : Rk b g w w'] : Rk b g w (w'.setCell ⟨g, j, none⟩ v) := ⟨Nat.le_trans q.r.1 (size_set _ _ _), fun i h1 h2 h3 => (Below.heap_setCell w' ⟨g, j, none⟩ v i h3).trans (q.r.2 i h1 h2 h3)⟩
instance : Rq g w w := ⟨Nat.le_refl _, fun _ => rfl⟩
instance [q : Rq g w w'] : Rq g w (w'.alloc o) := ⟨Nat.le_trans q.r.1 (size_alloc _ _), fun h1 => (heap_alloc_lt _ _ _ (Nat.lt_of_lt_of_le h1 q.r.1)).trans (q.r.2 h1)⟩
instance [q : Rq g w w'] : Rq g w (w'.drewN n) := ⟨q.r.1, q.r.2⟩
instance [q : Rq g w w'] : Rq g w w'.drew := ⟨q.r.1, q.r.2⟩
instance [q : Rq g w w'] [k : Nq g h] : Rq g w (w'.setCell ⟨h, j, none⟩ v) := ⟨Nat.le_trans q.r.1 (size_set _ _ _), fun h1 => (Below.heap_setCell w' ⟨h, j, none⟩ v g k.ne).trans (q.r.2 h1)⟩
theorem mT {α β : Type} (f : α → β) (l : List α) : l.toArray.map f = (l.map f).toArray := by simp
theorem mC {α β : Type} (f : α → β) (x : α) (l : List α) : (x :: l).map f = f x :: l.map f := rfl
theorem mN {α β : Type} (f : α → β) : ([] : List α).map f = [] := rfl
def bL : Nat → Nat → List Bool
  | 0, _ => []
  | n + 1, k => (k % 2 == 1) :: bL n (k / 2)
def bA (n k : Nat) : Array Bool := (bL n k).toArray
theorem qa {α : Type} (l : List α) (i : Nat) (a : α) : l.toArray.setIfInBounds i a = (l.set i a).toArray := List.setIfInBounds_toArray ..
theorem qz {α : Type} {x a : α} {l : List α} : (x :: l).set 0 a = a :: l := rfl
theorem qs {α : Type} {x a : α} {l : List α} {n : Nat} : (x :: l).set (n + 1) a = x :: l.set n a := rfl
theorem am {p : Prop} (h : p) : Aside0 p := ⟨h⟩
theorem rB (h : Aside0 (Below w0.heap.size w0 w)) [q : Rw w0.heap.size w w'] : Below w0.heap.size w0 w' := h.out.trans (q.r h.out.size)
theorem rK (h : Aside0 (KeepBut w0 w g none)) [q : Rk w0.heap.size g w w'] : KeepBut w0 w' g none := ⟨Nat.le_trans h.out.1 q.r.1, fun i h1 h2 h3 => (q.r.2 i h1 (Nat.lt_of_lt_of_le h1 h.out.1) h2).trans (h.out.2 i h1 h2 h3)⟩
theorem xX (h : w.heap[g]? = some o) [q : Rq g w w'] : w'.heap[g]? = some o := (q.r.2 (blk_lt h)).trans h
theorem rX (h : Aside0 (w.heap[g]? = some o)) [q : Rq g w w'] : w'.heap[g]? = some o := xX h.out
variable {α : Type} {d : Kd α} {e base : Nat} {ok : Nat → Prop} {u : Value} {xs : List α} {A : Option Addr}
theorem xR (h : d.R e w base ok u xs) [q : Re w w'] : d.R e w' base ok u xs := Kd.R_below h q.r
theorem rR (h : Aside0 (d.R e w base ok u xs)) [q : Re w w'] : d.R e w' base ok u xs := xR h.out
theorem xS (h : Kd.S d e w base ok u xs) [q : Re w w'] : Kd.S d e w' base ok u xs := Kd.S_below h q.r
theorem rS (h : Aside0 (Kd.S d e w base ok u xs)) [q : Re w w'] : Kd.S d e w' base ok u xs := xS h.out
theorem xN (h : Kd.N d e w base ok u xs) [q : Re w w'] : Kd.N d e w' base ok u xs := Kd.N_below h q.r
theorem rN (h : Aside0 (Kd.N d e w base ok u xs)) [q : Re w w'] : Kd.N d e w' base ok u xs := xN h.out
theorem xV (h : Kd.V d e w base ok u xs) [q : Re w w'] : Kd.V d e w' base ok u xs := Kd.V_below h q.r
theorem rV (h : Aside0 (Kd.V d e w base ok u xs)) [q : Re w w'] : Kd.V d e w' base ok u xs := xV h.out
theorem xC (h : d.C w A n xs) [q : Re w w'] : d.C w' A n xs := Kd.C_below h q.r
end Go.Proofs.Ytooamcjgejajeaa.KW
namespace Go.Proofs.Ytooamcjgejajeaa.M
open Go.RowKit Go.Proofs.Ytooamcjgejajeaa.KW Go.Proofs.YtooamcjgejajeaaW.PrintWords Go.Proofs.YtooamcjgejajeaaW.PrintLast Go.Proofs.YtooamcjgejajeaaW.PrintMore
attribute [local go_sem] max2_int min2_int max_two min_two max_three min_three max_four min_four
set_option linter.unusedVariables false
set_option linter.unusedSimpArgs false
/-- A state of type 114 at block g of W; what its slices lead to came in by w0. -/
def IsS114 (w0 W : World) (g : Nat) (f0 : List Int) (f1 : Int) (f2 : Int) : Prop := ∃ A0 c0, W.heap[g]? = some (.cells #[.slice A0 f0.length c0, .int .i64 f1, .int .i64 f2] 114 (0, 0)) ∧ w0.heap.size ≤ g ∧ Kd.C (Kd.int .u8) w0 A0 f0.length f0
theorem IsS114.grown {w0 W : World} {g : Nat} {f0 : List Int} {f1 : Int} {f2 : Int} {W1 : World} {row : Option Nat} (h : IsS114 w0 W g f0 f1 f2) (hw : W.grownBy W1 row) (hne : some g ≠ row) : IsS114 w0 W1 g f0 f1 f2 := by
 obtain ⟨A0, c0, hb, hg, hr0⟩ := h; exact ⟨A0, c0, blk_grown hb hw hne, hg, hr0⟩
theorem IsS114.own_neN {w0 W : World} {g : Nat} {f0 : List Int} {f1 : Int} {f2 : Int} {α : Type} {d : Kd α} {e : Nat} {base : Nat} {ok : Nat → Prop} {v : Value} {xs : List α} (h : IsS114 w0 W g f0 f1 f2) (ho : Kd.N d e W base ok v xs) (ht : e ≠ 114) : some g ≠ v.ownBlock := by
 obtain ⟨A0, c0, hb, hg, hr0⟩ := h; exact Kd.N_ne ho hb ht
theorem IsS114.fresh {w0 W : World} {g : Nat} {f0 : List Int} {f1 : Int} {f2 : Int} (h : IsS114 w0 W g f0 f1 f2) : ∀ k, W.heap.size ≤ k → k ≠ g := by
 obtain ⟨A0, c0, hb, hg, hr0⟩ := h; exact Kd.freshB hb
theorem IsS114.kept {w0 W : World} {g : Nat} {f0 : List Int} {f1 : Int} {f2 : Int} {W1 : World} {S : Nat → Prop} (h : IsS114 w0 W g f0 f1 f2) (hk : Kept W W1 S) (hne : ¬ S g) : IsS114 w0 W1 g f0 f1 f2 := by
 obtain ⟨A0, c0, hb, hg, hr0⟩ := h; exact ⟨A0, c0, blk_kept hb hk hne, hg, hr0⟩
theorem IsS114.below {w0 W : World} {g : Nat} {f0 : List Int} {f1 : Int} {f2 : Int} {W1 : World} (h : IsS114 w0 W g f0 f1 f2) (hw : Below W.heap.size W W1) : IsS114 w0 W1 g f0 f1 f2 := h.grown (grown_of_below hw none) (by simp)
theorem IsS114.alloc {w0 W : World} {g : Nat} {f0 : List Int} {f1 : Int} {f2 : Int} (h : IsS114 w0 W g f0 f1 f2) (o : Obj) : IsS114 w0 (W.alloc o) g f0 f1 f2 := h.below (below_alloc (Below.refl _ _) o)
theorem IsS114.drewN {w0 W : World} {g : Nat} {f0 : List Int} {f1 : Int} {f2 : Int} (h : IsS114 w0 W g f0 f1 f2) (m : Nat) : IsS114 w0 (W.drewN m) g f0 f1 f2 := h
theorem IsS114.drew {w0 W : World} {g : Nat} {f0 : List Int} {f1 : Int} {f2 : Int} (h : IsS114 w0 W g f0 f1 f2) : IsS114 w0 W.drew g f0 f1 f2 := h
theorem IsS114.at_ {w0 W : World} {g : Nat} {f0 : List Int} {f1 : Int} {f2 : Int} {w' : World} {m : Nat} (hq : W.drewN m = w') (h : IsS114 w0 W g f0 f1 f2) : IsS114 w0 w' g f0 f1 f2 := by subst hq; exact IsS114.drewN h m
theorem IsS114.apart {w0 W : World} {g : Nat} {f0 : List Int} {f1 : Int} {f2 : Int} {α : Type} {d : Kd α} {e : Nat} {base : Nat} {ok : Nat → Prop} {v : Value} {xs : List α} (h : IsS114 w0 W g f0 f1 f2) (ho : d.R e W base ok v xs) (ht : ∀ q, q ∈ e :: d.E → q ≠ 114) : d.R e W base (fun k => ok k ∧ k ≠ g) v xs := by
 obtain ⟨A0, c0, hb, hg, hr0⟩ := h; exact Kd.R_types ho hb ht
theorem IsS114.own_ne {w0 W : World} {g : Nat} {f0 : List Int} {f1 : Int} {f2 : Int} {α : Type} {d : Kd α} {e : Nat} {base : Nat} {ok : Nat → Prop} {v : Value} {xs : List α} (h : IsS114 w0 W g f0 f1 f2) (ho : d.R e W base ok v xs) (ht : e ≠ 114) : some g ≠ v.ownBlock := by
 obtain ⟨A0, c0, hb, hg, hr0⟩ := h; exact Kd.R_ne ho hb ht
theorem IsS114.apartQ {w0 W : World} {g : Nat} {f0 : List Int} {f1 : Int} {f2 : Int} {α : Type} {d : Kd α} {e : Nat} {base : Nat} {ok : Nat → Prop} {v : Value} {xs : List α} (h : IsS114 w0 W g f0 f1 f2) (ho : d.Q e W base ok v xs) (ht : ∀ q, q ∈ e :: d.E → q ≠ 114) : d.Q e W base (fun k => ok k ∧ k ≠ g) v xs := by
 obtain ⟨A0, c0, hb, hg, hr0⟩ := h; exact Kd.Q_types ho hb ht
theorem IsS114.own_neQ {w0 W : World} {g : Nat} {f0 : List Int} {f1 : Int} {f2 : Int} {α : Type} {d : Kd α} {e : Nat} {base : Nat} {ok : Nat → Prop} {v : Value} {xs : List α} (h : IsS114 w0 W g f0 f1 f2) (ho : d.Q e W base ok v xs) (ht : e ≠ 114) : some g ≠ v.ownBlock := by
 obtain ⟨A0, c0, hb, hg, hr0⟩ := h; exact Kd.Q_ne ho hb ht
theorem IsS114.apartS {w0 W : World} {g : Nat} {f0 : List Int} {f1 : Int} {f2 : Int} {α : Type} {d : Kd α} {e : Nat} {base : Nat} {ok : Nat → Prop} {v : Value} {xs : List α} (h : IsS114 w0 W g f0 f1 f2) (ho : d.S e W base ok v xs) (ht : ∀ q, q ∈ e :: d.E → q ≠ 114) : d.S e W base (fun k => ok k ∧ k ≠ g) v xs := by
 obtain ⟨A0, c0, hb, hg, hr0⟩ := h; exact Kd.S_types ho hb ht
theorem IsS114.own_neS {w0 W : World} {g : Nat} {f0 : List Int} {f1 : Int} {f2 : Int} {α : Type} {d : Kd α} {e : Nat} {base : Nat} {ok : Nat → Prop} {v : Value} {xs : List α} (h : IsS114 w0 W g f0 f1 f2) (ho : d.S e W base ok v xs) (ht : e ≠ 114) : some g ≠ v.ownBlock := by
 obtain ⟨A0, c0, hb, hg, hr0⟩ := h; exact Kd.S_ne ho hb ht
theorem IsS114.lt {w0 W : World} {g : Nat} {f0 : List Int} {f1 : Int} {f2 : Int} (h : IsS114 w0 W g f0 f1 f2) : g < W.heap.size := by
 obtain ⟨A0, c0, hb, hg, hr0⟩ := h; exact blk_lt hb
theorem IsS114.ge {w0 W : World} {g : Nat} {f0 : List Int} {f1 : Int} {f2 : Int} (h : IsS114 w0 W g f0 f1 f2) : w0.heap.size ≤ g := by
 obtain ⟨A0, c0, hb, hg, hr0⟩ := h; exact hg
theorem IsS114.ne_blk {w0 W : World} {g : Nat} {f0 : List Int} {f1 : Int} {f2 : Int} {a : Nat} {cs : Array Value} {t : TypeId} {fr : Nat × Nat} (h : IsS114 w0 W g f0 f1 f2) (hb2 : W.heap[a]? = some (.cells cs t fr)) (ht : t ≠ 114) : g ≠ a := by
 obtain ⟨A0, c0, hb, hg, hr0⟩ := h; rintro rfl; rw [hb] at hb2; injection hb2 with hb2; injection hb2 with _ ht2; exact ht ht2.symm
theorem IsS114.far {w0 W : World} {g : Nat} {f0 : List Int} {f1 : Int} {f2 : Int} {p : Addr} (h : IsS114 w0 W g f0 f1 f2) (hne : g ≠ p.block) (u : Value) : IsS114 w0 (W.setCell p u) g f0 f1 f2 := by
 obtain ⟨A0, c0, hb, hg, hr0⟩ := h; exact ⟨A0, c0, blk_far hb hne u, hg, hr0⟩
theorem cellS114_0 {W : World} {g : Nat} {A0 : Option Addr} {c0 : Nat} {f0 : List Int} {f1 : Int} {f2 : Int} (h : W.heap[g]? = some (.cells #[.slice A0 f0.length c0, .int .i64 f1, .int .i64 f2] 114 (0, 0))) : W.cell? ⟨g, 0, none⟩ = some (.slice A0 f0.length c0) := (blk_cell h 0).trans rfl
theorem cellS114_1 {W : World} {g : Nat} {A0 : Option Addr} {c0 : Nat} {f0 : List Int} {f1 : Int} {f2 : Int} (h : W.heap[g]? = some (.cells #[.slice A0 f0.length c0, .int .i64 f1, .int .i64 f2] 114 (0, 0))) : W.cell? ⟨g, 1, none⟩ = some (.int .i64 f1) := (blk_cell h 1).trans rfl
theorem IsS114.set_1 {w0 W : World} {g : Nat} {f0 : List Int} {f1 : Int} {f2 : Int} (h : IsS114 w0 W g f0 f1 f2) (x : Int) : IsS114 w0 (W.setCell ⟨g, 1, none⟩ (.int .i64 x)) g f0 x f2 := by
 obtain ⟨A0, c0, hb, hg, hr0⟩ := h; exact ⟨A0, c0, by simpa using blk_set hb 1 (.int .i64 x), hg, hr0⟩
theorem cellS114_2 {W : World} {g : Nat} {A0 : Option Addr} {c0 : Nat} {f0 : List Int} {f1 : Int} {f2 : Int} (h : W.heap[g]? = some (.cells #[.slice A0 f0.length c0, .int .i64 f1, .int .i64 f2] 114 (0, 0))) : W.cell? ⟨g, 2, none⟩ = some (.int .i64 f2) := (blk_cell h 2).trans rfl
theorem IsS114.set_2 {w0 W : World} {g : Nat} {f0 : List Int} {f1 : Int} {f2 : Int} (h : IsS114 w0 W g f0 f1 f2) (x : Int) : IsS114 w0 (W.setCell ⟨g, 2, none⟩ (.int .i64 x)) g f0 f1 x := by
 obtain ⟨A0, c0, hb, hg, hr0⟩ := h; exact ⟨A0, c0, by simpa using blk_set hb 2 (.int .i64 x), hg, hr0⟩
theorem IsS114.new (w0 W : World) (A0 : Option Addr) (c0 : Nat) (f0 : List Int) (f1 : Int) (f2 : Int) (hB : Below w0.heap.size w0 W) (hr0 : Kd.C (Kd.int .u8) w0 A0 f0.length f0) : IsS114 w0 (W.alloc (.cells #[.slice A0 f0.length c0, .int .i64 f1, .int .i64 f2] 114)) W.heap.size f0 f1 f2 := ⟨A0, c0, by simpa using heap_alloc_new W _, hB.size, hr0⟩
def spec_l1New.l0 : Nat → List Int → Int → Int → Option (List Int × Int × Int)
 | 0, _, _, _ => none
 | k + 1, x0, x3, x4 => if x4 < (x0.length : Int) then (if x4 < 4000 then (if 0 ≤ x4 then (spec_l1New.l0 k x0 (Go.bits .and .i64 (wrap64 ((wrap64 ((wrap64 (x3 * 131)) + (wrap64 (rd x0 x4)))) + 7)) 1073741823) (wrap64 (x4 + 1))) else (none)) else (some (x0, 0, x3))) else (some (x0, 0, x3))
def spec_l1New.f (k : Nat) (l0 : List Int) : Option (List Int × Int × Int) := spec_l1New.l0 k l0 (wrap64 (10101 + (l0.length : Int))) 0
theorem spec_l1New.mono_l : ∀ k, (∀ y0 y1 y2, LeO (spec_l1New.l0 k y0 y1 y2) (spec_l1New.l0 (k + 1) y0 y1 y2))
 | 0 => fun _ _ _ r h => by simp [spec_l1New.l0] at h
 | k + 1 => by
  have ih0 := spec_l1New.mono_l k
  ·intro y0 y1 y2; unfold spec_l1New.l0
   repeat' first
   | (with_reducible exact ih0 _ _ _)
   | (with_reducible exact LeO.refl _)
   | (with_reducible exact LeO.none _)
   | (with_reducible refine LeO.ite ?_ ?_)
   | (with_reducible refine LeO.bind ?_ (fun _ => ?_))
   | exact ih0 _ _ _
   | exact LeO.none _
   | refine LeO.ite ?_ ?_
   | refine LeO.bind ?_ (fun _ => ?_)
theorem spec_l1New.mono : ∀ a0 k, LeO (spec_l1New.f k a0) (spec_l1New.f (k + 1) a0) := by
 intro a0 k; have ih0 := spec_l1New.mono_l k; unfold spec_l1New.f
 repeat' first
   | (with_reducible exact ih0 _ _ _)
   | (with_reducible exact LeO.refl _)
   | (with_reducible exact LeO.none _)
   | (with_reducible refine LeO.ite ?_ ?_)
   | (with_reducible refine LeO.bind ?_ (fun _ => ?_))
   | exact ih0 _ _ _
   | exact LeO.none _
   | refine LeO.ite ?_ ?_
   | refine LeO.bind ?_ (fun _ => ?_)
set_option maxHeartbeats 8000000 in
set_option maxRecDepth 100000 in
theorem spec_l1New.calls (k : Nat) (A0 : Option Addr) (c0 : Nat) (l0 : List Int) (r1 : List Int) (r2 : Int) (r3 : Int) (w0 w : World) (hB : Below w0.heap.size w0 w) (hr0 : Kd.C (Kd.int .u8) w0 A0 l0.length l0) (hc0 : l0.length ≤ c0) (h : spec_l1New.f k l0 = some (r1, r2, r3)) :
  Calls Try.prog 126 #[.slice A0 l0.length c0] w fun e w' => ∃ g_ : Nat, e = .returned (.pointer (some ⟨g_, 0, none⟩)) ∧ IsS114 w0 w' g_ r1 r2 r3 ∧ Below w0.heap.size w0 w' ∧ Below w.heap.size w w' := by
 have hu114 := Try.underlying114; have HR0 := Aside0.mk hr0; have HC0 := Aside0.mk hc0; clear hr0 hc0; have HBW := Aside0.mk (Below.refl w.heap.size w); have HW0 := Aside0.mk hB.size; have HB := Aside0.mk hB; clear hB; have H : (spec_l1New.l0 k l0 (wrap64 (10101 + (l0.length : Int))) 0) = some (r1, r2, r3) := h; clear h; have H' := Aside0.mk H; clear H; go_enter Try.func126, Try.ntmps126; go_wp2; go_loopg [3, 4] k (fun kq v3 v4 w' => ∃ (x3_1 : Int) (x4_1 : Int), v3 = .int .i64 x3_1 ∧ v4 = .int .i64 x4_1 ∧ Aside0 (spec_l1New.l0 kq l0 x3_1 x4_1 = some (r1, r2, r3)) ∧ Aside0 (kq ≤ k) ∧ Aside0 (Below w0.heap.size w0 w') ∧ Aside0 (Below w.heap.size w w'))
 case atStart => exact ⟨(wrap64 (10101 + (l0.length : Int))), (0), (by first | rfl | (simp; done) | (simp [*]; done)), (by first | rfl | (simp; done) | (simp [*]; done)), H', ⟨Nat.le_refl _⟩, ⟨by repeat (first | (with_reducible first | exact HB.out | apply below_alloc | apply pw_below_drewN | apply below_drew1) | exact HB.out)⟩, ⟨by repeat (first | (with_reducible first | exact HBW.out | apply below_alloc | apply pw_below_drewN | apply below_drew1) | exact HBW.out)⟩⟩
 case round =>
  clear H'
  try clear c1
  obtain ⟨x3_1, x4_1, rfl, rfl, HA, HK1, HB, HBW⟩ := hrel; cases gk with
  | zero => exact absurd HA.out (by simp [spec_l1New.l0])
  | succ k1 =>
   have H := HA.out; clear HA; simp only [spec_l1New.l0] at H; by_cases c2 : x4_1 < (l0.length : Int)
   ·rw [if_pos c2] at H; have c2b0 : decide (x4_1 < (l0.length : Int)) = true := decide_eq_true c2; clear c2; by_cases c3 : x4_1 < 4000
    ·rw [if_pos c3] at H; have c3b0 : decide (x4_1 < 4000) = true := decide_eq_true c3; clear c3; by_cases c4 : 0 ≤ x4_1
     ·rw [if_pos c4] at H; have c4b0 : decide (0 ≤ x4_1) = true := decide_eq_true c4; clear c4; have H' := Aside0.mk H; clear H; have p678 : 0 ≤ (x4_1 : Int) := of_decide_eq_true (by first | (with_reducible assumption) | assumption); have q678 : x4_1 < (l0.length : Int) := of_decide_eq_true (by first | (with_reducible assumption) | assumption); obtain ⟨ad678, e678, hx678_0⟩ := Kd.at_int HR0.out x4_1 p678 q678; cases e678; replace hx678_0 := pw_cell_below HB.out hx678_0; replace p678 := eq_true p678; replace q678 := eq_true q678; go_wp2; go_roundg k1
      case measure => have := HK1.out; omega
      case rel => exact ⟨(Go.bits .and .i64 (wrap64 ((wrap64 ((wrap64 (x3_1 * 131)) + (wrap64 (rd l0 x4_1)))) + 7)) 1073741823), (wrap64 (x4_1 + 1)), (by first | rfl | (simp; done) | (simp [*]; done)), (by first | rfl | (simp; done) | (simp [*]; done)), H', ⟨by have := HK1.out; omega⟩, ⟨by repeat (first | (with_reducible first | exact HB.out | apply below_alloc | apply pw_below_drewN | apply below_drew1) | exact HB.out)⟩, ⟨by repeat (first | (with_reducible first | exact HBW.out | apply below_alloc | apply pw_below_drewN | apply below_drew1) | exact HBW.out)⟩⟩
     ·rw [if_neg c4] at H; exact absurd H (by simp)
    ·rw [if_neg c3] at H; have c3b0 : decide (x4_1 < 4000) = false := decide_eq_false c3; clear c3; simp only [Option.some.injEq, Prod.mk.injEq] at H; obtain ⟨rfl, rfl, rfl⟩ := H; go_wp2_with (first | ((with_reducible refine gate_dst (N := 31) rfl ?_); refine box_event ?hg (N := 31) ?hd (cs := #[.slice A0 l0.length c0, .int .i64 0, .int .i64 x3_1]) (t := 114) ?hr ?_; (case hd => rfl); (case hg => rfl); (case hr => first | (go_simp; done) | (go_simp; rfl)); intro gb679 hg w5 hbox hb; have n0_ := Aside0.mk (below_step HBW.out hb); have n1_ := Aside0.mk (below_step (by repeat (first | (with_reducible first | exact HB.out | apply below_alloc | apply pw_below_drewN | apply below_drew1) | exact HB.out)) hb); have n2_ := Aside0.mk (hbox); have n3_ := Aside0.mk ((by rw [hg]; exact (below_size (by repeat (first | (with_reducible first | exact HBW.out | apply below_alloc | apply pw_below_drewN | apply below_drew1) | exact HBW.out))) : w.heap.size ≤ gb679)); have n4_ := Aside0.mk ((Nat.le_trans HW0.out (by rw [hg]; exact (below_size (by repeat (first | (with_reducible first | exact HBW.out | apply below_alloc | apply pw_below_drewN | apply below_drew1) | exact HBW.out))) : w.heap.size ≤ gb679) : w0.heap.size ≤ gb679)); clear HBW; clear HB; have HBW := n0_; have HB := n1_; have BK679 := n2_; have GW679 := n3_; have GE679 := n4_; clear n0_ n1_ n2_ n3_ n4_; clear hb hbox hg)); go_ret; exact ⟨_, rfl, (show IsS114 w0 _ gb679 l0 0 x3_1 from ⟨_, _, by (with_reducible repeat (first | refine blk_drewN ?_ _ | refine blk_drew ?_ | refine blk_alloc ?_ _)); exact BK679.out, GE679.out, HR0.out⟩), by repeat (first | (with_reducible first | exact HB.out | apply below_alloc | apply pw_below_drewN | apply below_drew1 | refine below_set ?_ GE679.out) | exact HB.out), by repeat (first | (with_reducible first | exact HBW.out | apply below_alloc | apply pw_below_drewN | apply below_drew1 | refine below_set ?_ GW679.out) | exact HBW.out)⟩
   ·rw [if_neg c2] at H; have c2b0 : decide (x4_1 < (l0.length : Int)) = false := decide_eq_false c2; clear c2; simp only [Option.some.injEq, Prod.mk.injEq] at H; obtain ⟨rfl, rfl, rfl⟩ := H; go_wp2_with (first | ((with_reducible refine gate_dst (N := 31) rfl ?_); refine box_event ?hg (N := 31) ?hd (cs := #[.slice A0 l0.length c0, .int .i64 0, .int .i64 x3_1]) (t := 114) ?hr ?_; (case hd => rfl); (case hg => rfl); (case hr => first | (go_simp; done) | (go_simp; rfl)); intro gb680 hg w6 hbox hb; have n0_ := Aside0.mk (below_step HBW.out hb); have n1_ := Aside0.mk (below_step (by repeat (first | (with_reducible first | exact HB.out | apply below_alloc | apply pw_below_drewN | apply below_drew1) | exact HB.out)) hb); have n2_ := Aside0.mk (hbox); have n3_ := Aside0.mk ((by rw [hg]; exact (below_size (by repeat (first | (with_reducible first | exact HBW.out | apply below_alloc | apply pw_below_drewN | apply below_drew1) | exact HBW.out))) : w.heap.size ≤ gb680)); have n4_ := Aside0.mk ((Nat.le_trans HW0.out (by rw [hg]; exact (below_size (by repeat (first | (with_reducible first | exact HBW.out | apply below_alloc | apply pw_below_drewN | apply below_drew1) | exact HBW.out))) : w.heap.size ≤ gb680) : w0.heap.size ≤ gb680)); clear HBW; clear HB; have HBW := n0_; have HB := n1_; have BK680 := n2_; have GW680 := n3_; have GE680 := n4_; clear n0_ n1_ n2_ n3_ n4_; clear hb hbox hg)); go_ret; exact ⟨_, rfl, (show IsS114 w0 _ gb680 l0 0 x3_1 from ⟨_, _, by (with_reducible repeat (first | refine blk_drewN ?_ _ | refine blk_drew ?_ | refine blk_alloc ?_ _)); exact BK680.out, GE680.out, HR0.out⟩), by repeat (first | (with_reducible first | exact HB.out | apply below_alloc | apply pw_below_drewN | apply below_drew1 | refine below_set ?_ GE680.out) | exact HB.out), by repeat (first | (with_reducible first | exact HBW.out | apply below_alloc | apply pw_below_drewN | apply below_drew1 | refine below_set ?_ GW680.out) | exact HBW.out)⟩
end Go.Proofs.Ytooamcjgejajeaa.M
/- Short words for states that events leave alone. No condition. -/
namespace Go.Proofs.Ytooamcjgejajeaa.M
open Go.RowKit Go.Proofs.Ytooamcjgejajeaa.KW Go.Proofs.YtooamcjgejajeaaW.PrintWords Go.Proofs.YtooamcjgejajeaaW.PrintLast
theorem IsS114.m {w0 W : World} {g : Nat} {f0 : List Int} {f1 : Int} {f2 : Int} {W' : World} (h : Aside0 (IsS114 w0 W g f0 f1 f2)) [q : Rq g W W'] : IsS114 w0 W' g f0 f1 f2 := by
  obtain ⟨A0, c0, hb, hg, hr0⟩ := h.out; exact ⟨A0, c0, xX hb, hg, hr0⟩
end Go.Proofs.Ytooamcjgejajeaa.M
namespace Go.Proofs.Ytooamcjgejajeaa.M
open Go.RowKit Go.Proofs.Ytooamcjgejajeaa.KW Go.Proofs.YtooamcjgejajeaaW.PrintWords Go.Proofs.YtooamcjgejajeaaW.PrintLast Go.Proofs.YtooamcjgejajeaaW.PrintMore
attribute [local go_sem] max2_int min2_int max_two min_two max_three min_three max_four min_four
set_option linter.unusedVariables false
set_option linter.unusedSimpArgs false
def spec_l1In.f (a0 : Int) (a1 : Int) (a2 : Int) : Option (Bool) := if a0 ≥ a1 then (some (decide (a0 ≤ a2))) else (some false)
set_option maxHeartbeats 8000000 in
set_option maxRecDepth 100000 in
theorem spec_l1In.calls (a0 : Int) (a1 : Int) (a2 : Int) (r : Bool) (w : World) (h : spec_l1In.f a0 a1 a2 = some r) :
  Calls Try.prog 115 #[.int .i64 a0, .int .i64 a1, .int .i64 a2] w fun e w' => e = .returned (.bool r) ∧ Drawn0 w w' := by
 have H : (if a0 ≥ a1 then (some (decide (a0 ≤ a2))) else (some false)) = some r := h; clear h; by_cases c4 : a0 ≥ a1
 ·rw [if_pos c4] at H; have c4b0 : decide (a1 ≤ a0) = true := decide_eq_true c4; clear c4; obtain rfl := Option.some.inj H; go_enter Try.func115, Try.ntmps115; go_wp2; go_ret; exact ⟨by first | rfl | (simp; done) | (simp [*]; done), by repeat (first | exact Drawn0.refl _ | apply Drawn0.step)⟩
 ·rw [if_neg c4] at H; have c4b0 : decide (a1 ≤ a0) = false := decide_eq_false c4; clear c4; obtain rfl := Option.some.inj H; go_enter Try.func115, Try.ntmps115; go_wp2; go_ret; exact ⟨by first | rfl | (simp; done) | (simp [*]; done), by repeat (first | exact Drawn0.refl _ | apply Drawn0.step)⟩
def spec_l10Match.l0 : Nat → List Int → Int → Int → Int → Option (Int)
 | 0, _, _, _, _ => none
 | k + 1, x0, x1, x2, x7 => if (wrap64 (x1 + x7)) < (x0.length : Int) then (if 0 ≤ (wrap64 (x1 + x7)) then (if 0 ≤ (wrap64 ((wrap64 (x1 + x7)) - x2)) then (if (wrap64 ((wrap64 (x1 + x7)) - x2)) < (x0.length : Int) then (if (rd x0 (wrap64 (x1 + x7))) = (rd x0 (wrap64 ((wrap64 (x1 + x7)) - x2))) then (spec_l10Match.l0 k x0 x1 x2 (wrap64 (x7 + 1))) else (some (mn x7 (wrap64 ((x0.length : Int) - x1))))) else (none)) else (none)) else (none)) else (some (mn x7 (wrap64 ((x0.length : Int) - x1))))
def spec_l10Match.f (k : Nat) (l0 : List Int) (a1 : Int) (a2 : Int) : Option (Int) := spec_l10Match.l0 k l0 a1 a2 a2
theorem spec_l10Match.mono_l : ∀ k, (∀ y0 y1 y2 y3, LeO (spec_l10Match.l0 k y0 y1 y2 y3) (spec_l10Match.l0 (k + 1) y0 y1 y2 y3))
 | 0 => fun _ _ _ _ r h => by simp [spec_l10Match.l0] at h
 | k + 1 => by
  have ih0 := spec_l10Match.mono_l k
  ·intro y0 y1 y2 y3; unfold spec_l10Match.l0
   repeat' first
   | (with_reducible exact ih0 _ _ _ _)
   | (with_reducible exact LeO.refl _)
   | (with_reducible exact LeO.none _)
   | (with_reducible refine LeO.ite ?_ ?_)
   | (with_reducible refine LeO.bind ?_ (fun _ => ?_))
theorem spec_l10Match.mono : ∀ a0 a1 a2 k, LeO (spec_l10Match.f k a0 a1 a2) (spec_l10Match.f (k + 1) a0 a1 a2) := by
 intro a0 a1 a2 k; have ih0 := spec_l10Match.mono_l k; unfold spec_l10Match.f
 repeat' first
   | (with_reducible exact ih0 _ _ _ _)
   | (with_reducible exact LeO.refl _)
   | (with_reducible exact LeO.none _)
   | (with_reducible refine LeO.ite ?_ ?_)
   | (with_reducible refine LeO.bind ?_ (fun _ => ?_))
set_option maxHeartbeats 8000000 in
set_option maxRecDepth 100000 in
theorem spec_l10Match.calls (k : Nat) (A0 : Option Addr) (c0 : Nat) (l0 : List Int) (a1 : Int) (a2 : Int) (r : Int) (w : World) (hr0 : Kd.C (Kd.int .i64) w A0 l0.length l0) (hc0 : l0.length ≤ c0) (h : spec_l10Match.f k l0 a1 a2 = some r) :
  Calls Try.prog 162 #[.slice A0 l0.length c0, .int .i64 a1, .int .i64 a2] w fun e w' => e = .returned (.int .i64 r) ∧ Below w.heap.size w w' := by
 have HR0 := am hr0; have HC0 := am hc0; clear hr0 hc0; have HB := am (Below.refl w.heap.size w); have H : (spec_l10Match.l0 k l0 a1 a2 a2) = some r := h; clear h; have H' := am H; clear H; go_enter Try.func162, Try.ntmps162; go_wp2
 repeat (go_quiet (fail); try go_wp2)
 go_loopg [7] k (fun kq v7 w' => ∃ (x7_1 : Int), v7 = .int .i64 x7_1 ∧ Aside0 (spec_l10Match.l0 kq l0 a1 a2 x7_1 = some r) ∧ Aside0 (kq ≤ k) ∧ Aside0 (Below w.heap.size w w'))
 case atStart => exact ⟨(a2), (by first | rfl | (simp; done) | (simp [*]; done)), H', ⟨Nat.le_refl _⟩, ⟨by exact rB HB⟩⟩
 case round =>
  clear H'
  try clear c1
  try clear p2
  obtain ⟨x7_1, rfl, HA, HK1, HB⟩ := hrel; cases gk with
  | zero => exact absurd HA.out (by simp [spec_l10Match.l0])
  | succ k1 =>
   have H := HA.out; clear HA; simp only [spec_l10Match.l0] at H; by_cases c4 : (wrap64 (a1 + x7_1)) < (l0.length : Int)
   ·rw [if_pos c4] at H; have c4b0 : decide ((wrap64 (a1 + x7_1)) < (l0.length : Int)) = true := decide_eq_true c4; clear c4; obtain ⟨ji5, hji5⟩ : ∃ j_ : Int, (wrap64 (a1 + x7_1)) = j_ := ⟨_, rfl⟩; replace H : (if 0 ≤ (ji5) then (if 0 ≤ (wrap64 ((ji5) - a2)) then (if (wrap64 ((ji5) - a2)) < (l0.length : Int) then (if (rd l0 (ji5)) = (rd l0 (wrap64 ((ji5) - a2))) then (spec_l10Match.l0 k1 l0 a1 a2 (wrap64 (x7_1 + 1))) else (some (mn x7_1 (wrap64 ((l0.length : Int) - a1))))) else (none)) else (none)) else (none)) = some r := by first | (rw [hji5] at H; exact H) | (simp only [hji5] at H ⊢; exact H)
    (try rw [hji5] at c4b0); have hji5w : (IntKind.i64.wrap (a1 + x7_1)) = ji5 := (i64_w _).trans hji5; by_cases c6 : 0 ≤ (ji5)
    ·rw [if_pos c6] at H; have c6b0 : decide (0 ≤ (ji5)) = true := decide_eq_true c6; clear c6; obtain ⟨ji7, hji7⟩ : ∃ j_ : Int, (wrap64 ((ji5) - a2)) = j_ := ⟨_, rfl⟩; replace H : (if 0 ≤ (ji7) then (if (ji7) < (l0.length : Int) then (if (rd l0 (ji5)) = (rd l0 (ji7)) then (spec_l10Match.l0 k1 l0 a1 a2 (wrap64 (x7_1 + 1))) else (some (mn x7_1 (wrap64 ((l0.length : Int) - a1))))) else (none)) else (none)) = some r := by first | (rw [hji7] at H; exact H) | (simp only [hji7] at H ⊢; exact H)
     have hji7w : (IntKind.i64.wrap ((ji5) - a2)) = ji7 := (i64_w _).trans hji7; by_cases c8 : 0 ≤ (ji7)
     ·rw [if_pos c8] at H; have c8b0 : decide (0 ≤ (ji7)) = true := decide_eq_true c8; clear c8; by_cases c9 : (ji7) < (l0.length : Int)
      ·rw [if_pos c9] at H; have c9b0 : decide ((ji7) < (l0.length : Int)) = true := decide_eq_true c9; clear c9; by_cases c10 : (rd l0 (ji5)) = (rd l0 (ji7))
       ·rw [if_pos c10] at H; have c10b0 : ((rd l0 (ji5)) == (rd l0 (ji7))) = true := beq_iff_eq.mpr c10; have c10b1 : ((rd l0 (ji5)) != (rd l0 (ji7))) = false := bne_eq_false_iff_eq.mpr c10; clear c10; have H' := am H; clear H; have p392 : 0 ≤ ((ji5) : Int) := of_decide_eq_true (by first | (with_reducible assumption) | assumption); have q392 : (ji5) < (l0.length : Int) := of_decide_eq_true (by first | (with_reducible assumption) | assumption); obtain ⟨ad392, e392, hx392_0⟩ := Kd.at_int HR0.out (ji5) p392 q392; cases e392; replace hx392_0 := (HB.out.cell (World.block_lt_of_cell? w _ hx392_0)).trans hx392_0; replace p392 := eq_true p392; replace q392 := eq_true q392; have p393 : 0 ≤ ((ji7) : Int) := of_decide_eq_true (by first | (with_reducible assumption) | assumption); have q393 : (ji7) < (l0.length : Int) := of_decide_eq_true (by first | (with_reducible assumption) | assumption); obtain ⟨ad393, e393, hx393_0⟩ := Kd.at_int HR0.out (ji7) p393 q393; obtain rfl : ad392 = ad393 := (by injection e393); replace hx393_0 := (HB.out.cell (World.block_lt_of_cell? w _ hx393_0)).trans hx393_0; replace p393 := eq_true p393; replace q393 := eq_true q393; go_wp2
        repeat (go_quiet (fail); try go_wp2)
        go_roundg k1
        case measure => have := HK1.out; omega
        case rel => exact ⟨(wrap64 (x7_1 + 1)), (by first | rfl | (simp; done) | (simp [*]; done)), H', ⟨by have := HK1.out; omega⟩, ⟨by exact rB HB⟩⟩
       ·rw [if_neg c10] at H; have c10b0 : ((rd l0 (ji5)) == (rd l0 (ji7))) = false := beq_eq_false_iff_ne.mpr c10; have c10b1 : ((rd l0 (ji5)) != (rd l0 (ji7))) = true := bne_iff_ne.mpr c10; obtain ⟨ji11, hji11⟩ : ∃ j_ : Int, (mn x7_1 (wrap64 ((l0.length : Int) - a1))) = j_ := ⟨_, rfl⟩; replace H : (some ji11) = some r := by first | (rw [hji11] at H; exact H) | (simp only [hji11] at H ⊢; exact H)
        have hji11_ : (if (wrap64 ((l0.length : Int) - a1)) < x7_1 then (wrap64 ((l0.length : Int) - a1)) else x7_1) = ji11 := hji11; obtain rfl := Option.some.inj H; have p392 : 0 ≤ ((ji5) : Int) := of_decide_eq_true (by first | (with_reducible assumption) | assumption); have q392 : (ji5) < (l0.length : Int) := of_decide_eq_true (by first | (with_reducible assumption) | assumption); obtain ⟨ad392, e392, hx392_0⟩ := Kd.at_int HR0.out (ji5) p392 q392; cases e392; replace hx392_0 := (HB.out.cell (World.block_lt_of_cell? w _ hx392_0)).trans hx392_0; replace p392 := eq_true p392; replace q392 := eq_true q392; have p393 : 0 ≤ ((ji7) : Int) := of_decide_eq_true (by first | (with_reducible assumption) | assumption); have q393 : (ji7) < (l0.length : Int) := of_decide_eq_true (by first | (with_reducible assumption) | assumption); obtain ⟨ad393, e393, hx393_0⟩ := Kd.at_int HR0.out (ji7) p393 q393; obtain rfl : ad392 = ad393 := (by injection e393); replace hx393_0 := (HB.out.cell (World.block_lt_of_cell? w _ hx393_0)).trans hx393_0; replace p393 := eq_true p393; replace q393 := eq_true q393; go_wp2
        repeat (go_quiet (fail); try go_wp2)
        go_ret; exact ⟨by first | rfl | (simp [errW_none, errW_some] <;> rfl) | (simp only [← hji5, ← hji7, ← hji11]; first | rfl | (simp [errW_none, errW_some] <;> rfl)) | (simp [*, errW_none, errW_some] <;> rfl), by exact rB HB⟩
      ·rw [if_neg c9] at H; exact absurd H (by simp)
     ·rw [if_neg c8] at H; exact absurd H (by simp)
    ·rw [if_neg c6] at H; exact absurd H (by simp)
   ·rw [if_neg c4] at H; have c4b0 : decide ((wrap64 (a1 + x7_1)) < (l0.length : Int)) = false := decide_eq_false c4; clear c4; obtain ⟨ji12, hji12⟩ : ∃ j_ : Int, (mn x7_1 (wrap64 ((l0.length : Int) - a1))) = j_ := ⟨_, rfl⟩; replace H : (some ji12) = some r := by first | (rw [hji12] at H; exact H) | (simp only [hji12] at H ⊢; exact H)
    have hji12_ : (if (wrap64 ((l0.length : Int) - a1)) < x7_1 then (wrap64 ((l0.length : Int) - a1)) else x7_1) = ji12 := hji12; obtain rfl := Option.some.inj H; go_wp2
    repeat (go_quiet (fail); try go_wp2)
    go_ret; exact ⟨by first | rfl | (simp [errW_none, errW_some] <;> rfl) | (simp only [← hji12]; first | rfl | (simp [errW_none, errW_some] <;> rfl)) | (simp [*, errW_none, errW_some] <;> rfl), by exact rB HB⟩
mutual
def spec_HasPower.j0 : Nat → List Int → Int → Int → Bool → Option (Bool)
 | 0, _, _, _, _ => none
 | k + 1, x0, x1, x2, x18 => if x18 = true then (some false) else (spec_HasPower.l0 k x0 x1 x2 0)
def spec_HasPower.l0 : Nat → List Int → Int → Int → Int → Option (Bool)
 | 0, _, _, _, _ => none
 | k + 1, x0, x1, x2, x7 => if x7 < (x0.length : Int) then (spec_HasPower.j2 k x0 x1 x2 x7 (decide ((x0.length : Int) ≤ 128))) else (spec_HasPower.j2 k x0 x1 x2 x7 false)
def spec_HasPower.j2 : Nat → List Int → Int → Int → Int → Bool → Option (Bool)
 | 0, _, _, _, _, _ => none
 | k + 1, x0, x1, x2, x7, x27 => if x27 = true then (spec_HasPower.l1 k x0 x1 x2 x7 1) else (some false)
def spec_HasPower.l1 : Nat → List Int → Int → Int → Int → Int → Option (Bool)
 | 0, _, _, _, _, _ => none
 | k + 1, x0, x1, x2, x7, x8 => if (wrap64 (x7 + x8)) < (x0.length : Int) then ((spec_l10Match.f k x0 x7 x8).bind fun t396 => (if (wrap64 (t396 * x2)) ≥ (wrap64 (x8 * x1)) then (some true) else (spec_HasPower.l1 k x0 x1 x2 x7 (wrap64 (x8 + 1))))) else (spec_HasPower.l0 k x0 x1 x2 (wrap64 (x7 + 1)))
end
def spec_HasPower.f (k : Nat) (l0 : List Int) (a1 : Int) (a2 : Int) : Option (Bool) := (spec_l1In.f a1 2 20).bind fun t394 => (if t394 = true then ((spec_l1In.f a2 1 (wrap64 (a1 - 1))).bind fun t395 => (spec_HasPower.j0 k l0 a1 a2 (!t395))) else (spec_HasPower.j0 k l0 a1 a2 true))
theorem spec_HasPower.mono_l : ∀ k, (∀ y0 y1 y2 y3, LeO (spec_HasPower.j0 k y0 y1 y2 y3) (spec_HasPower.j0 (k + 1) y0 y1 y2 y3)) ∧ (∀ y0 y1 y2 y3, LeO (spec_HasPower.l0 k y0 y1 y2 y3) (spec_HasPower.l0 (k + 1) y0 y1 y2 y3)) ∧ (∀ y0 y1 y2 y3 y4, LeO (spec_HasPower.j2 k y0 y1 y2 y3 y4) (spec_HasPower.j2 (k + 1) y0 y1 y2 y3 y4)) ∧ (∀ y0 y1 y2 y3 y4, LeO (spec_HasPower.l1 k y0 y1 y2 y3 y4) (spec_HasPower.l1 (k + 1) y0 y1 y2 y3 y4))
 | 0 => ⟨fun _ _ _ _ r h => by simp [spec_HasPower.j0] at h, fun _ _ _ _ r h => by simp [spec_HasPower.l0] at h, fun _ _ _ _ _ r h => by simp [spec_HasPower.j2] at h, fun _ _ _ _ _ r h => by simp [spec_HasPower.l1] at h⟩
 | k + 1 => by
  obtain ⟨ih0, ih1, ih2, ih3⟩ := spec_HasPower.mono_l k; refine ⟨?_, ?_, ?_, ?_⟩
  ·intro y0 y1 y2 y3; unfold spec_HasPower.j0
   repeat' first
   | (with_reducible exact ih0 _ _ _ _)
   | (with_reducible exact ih1 _ _ _ _)
   | (with_reducible exact ih2 _ _ _ _ _)
   | (with_reducible exact ih3 _ _ _ _ _)
   | (with_reducible exact spec_l10Match.mono _ _ _ _)
   | (with_reducible exact LeO.refl _)
   | (with_reducible exact LeO.none _)
   | (with_reducible refine LeO.ite ?_ ?_)
   | (with_reducible refine LeO.bind ?_ (fun _ => ?_))
  ·intro y0 y1 y2 y3; unfold spec_HasPower.l0
   repeat' first
   | (with_reducible exact ih0 _ _ _ _)
   | (with_reducible exact ih1 _ _ _ _)
   | (with_reducible exact ih2 _ _ _ _ _)
   | (with_reducible exact ih3 _ _ _ _ _)
   | (with_reducible exact spec_l10Match.mono _ _ _ _)
   | (with_reducible exact LeO.refl _)
   | (with_reducible exact LeO.none _)
   | (with_reducible refine LeO.ite ?_ ?_)
   | (with_reducible refine LeO.bind ?_ (fun _ => ?_))
  ·intro y0 y1 y2 y3 y4; unfold spec_HasPower.j2
   repeat' first
   | (with_reducible exact ih0 _ _ _ _)
   | (with_reducible exact ih1 _ _ _ _)
   | (with_reducible exact ih2 _ _ _ _ _)
   | (with_reducible exact ih3 _ _ _ _ _)
   | (with_reducible exact spec_l10Match.mono _ _ _ _)
   | (with_reducible exact LeO.refl _)
   | (with_reducible exact LeO.none _)
   | (with_reducible refine LeO.ite ?_ ?_)
   | (with_reducible refine LeO.bind ?_ (fun _ => ?_))
  ·intro y0 y1 y2 y3 y4; unfold spec_HasPower.l1
   repeat' first
   | (with_reducible exact ih0 _ _ _ _)
   | (with_reducible exact ih1 _ _ _ _)
   | (with_reducible exact ih2 _ _ _ _ _)
   | (with_reducible exact ih3 _ _ _ _ _)
   | (with_reducible exact spec_l10Match.mono _ _ _ _)
   | (with_reducible exact LeO.refl _)
   | (with_reducible exact LeO.none _)
   | (with_reducible refine LeO.ite ?_ ?_)
   | (with_reducible refine LeO.bind ?_ (fun _ => ?_))
theorem spec_HasPower.mono : ∀ a0 a1 a2 k, LeO (spec_HasPower.f k a0 a1 a2) (spec_HasPower.f (k + 1) a0 a1 a2) := by
 intro a0 a1 a2 k; obtain ⟨ih0, ih1, ih2, ih3⟩ := spec_HasPower.mono_l k; unfold spec_HasPower.f
 repeat' first
   | (with_reducible exact ih0 _ _ _ _)
   | (with_reducible exact ih1 _ _ _ _)
   | (with_reducible exact ih2 _ _ _ _ _)
   | (with_reducible exact ih3 _ _ _ _ _)
   | (with_reducible exact spec_l10Match.mono _ _ _ _)
   | (with_reducible exact LeO.refl _)
   | (with_reducible exact LeO.none _)
   | (with_reducible refine LeO.ite ?_ ?_)
   | (with_reducible refine LeO.bind ?_ (fun _ => ?_))
set_option maxHeartbeats 8000000 in
set_option maxRecDepth 100000 in
theorem spec_HasPower.calls (k : Nat) (A0 : Option Addr) (c0 : Nat) (l0 : List Int) (a1 : Int) (a2 : Int) (r : Bool) (w : World) (hr0 : Kd.C (Kd.int .i64) w A0 l0.length l0) (hc0 : l0.length ≤ c0) (h : spec_HasPower.f k l0 a1 a2 = some r) :
  Calls Try.prog 123 #[.slice A0 l0.length c0, .int .i64 a1, .int .i64 a2] w fun e w' => e = .returned (.bool r) ∧ Below w.heap.size w w' := by
 have HR0 := am hr0; have HC0 := am hc0; clear hr0 hc0; have HB := am (Below.refl w.heap.size w); have H : ((spec_l1In.f a1 2 20).bind fun t394 => (if t394 = true then ((spec_l1In.f a2 1 (wrap64 (a1 - 1))).bind fun t395 => (spec_HasPower.j0 k l0 a1 a2 (!t395))) else (spec_HasPower.j0 k l0 a1 a2 true))) = some r := h; clear h; have HC4 := am H; clear H; go_enter Try.func123, Try.ntmps123; go_upto_region 1 with (fail); go_cut [18] (fun v18 wc => ∃ (kq : Nat) (x18_3 : Bool), v18 = .bool x18_3 ∧ Aside0 (spec_HasPower.j0 kq l0 a1 a2 x18_3 = some r) ∧ Aside0 (kq ≤ k) ∧ Aside0 (Below w.heap.size w wc))
 case first =>
  have H := HC4.out; clear HC4; replace H := Option.bind_eq_some_iff.mp H; obtain ⟨t394, A50, H⟩ := H; replace H : (if t394 = true then ((spec_l1In.f a2 1 (wrap64 (a1 - 1))).bind fun t395 => (spec_HasPower.j0 k l0 a1 a2 (!t395))) else (spec_HasPower.j0 k l0 a1 a2 true)) = some r := H; have A5 := am A50; clear A50; by_cases c6 : t394 = true
  ·subst c6; have H1 : ((spec_l1In.f a2 1 (wrap64 (a1 - 1))).bind fun t395 => (spec_HasPower.j0 k l0 a1 a2 (!t395))) = some r := by rw [if_pos rfl] at H; exact H
   clear H; have H := H1; clear H1; replace H := Option.bind_eq_some_iff.mp H; obtain ⟨t395, A70, H⟩ := H; replace H : (spec_HasPower.j0 k l0 a1 a2 (!t395)) = some r := H; have A7 := am A70; clear A70; have H' := am H; clear H; go_wp2_with (first | ((with_reducible refine gate_callee (f := 115) rfl ?_); refine goesL_ (some 10) rfl rfl Try.func115 (by kernel_rfl) rfl #[.int .i64 a1, .int .i64 2, .int .i64 20] rfl (by (try simp only [mT, mC, mN]); first | done | rfl) ?_; (with_reducible refine (spec_l1In.calls a1 2 20 true _ A5.out).mono ?_); rintro e w' ⟨rfl, ⟨nd, rfl⟩⟩; refine ⟨_, rfl, ?_⟩) | (go_at_call 115; (with_reducible refine (spec_l1In.calls a2 1 (wrap64 (a1 - 1)) t395 _ A7.out).mono ?_); rintro e w' ⟨rfl, ⟨nd, rfl⟩⟩)); go_meet
   case rel => exact ⟨_, (!t395), (by first | rfl | (simp; done) | (simp [*]; done)), H', ⟨by first | omega | exact Nat.le_refl _⟩, ⟨by exact rB HB⟩⟩
  ·replace c6 := Bool.eq_false_iff.mpr c6; subst c6; have H1 : (spec_HasPower.j0 k l0 a1 a2 true) = some r := by rw [if_neg (show ¬ (false = true) by decide)] at H; exact H
   clear H; have H := H1; clear H1; have H' := am H; clear H; go_wp2_with (first | ((with_reducible refine gate_callee (f := 115) rfl ?_); refine goesL_ (some 10) rfl rfl Try.func115 (by kernel_rfl) rfl #[.int .i64 a1, .int .i64 2, .int .i64 20] rfl (by (try simp only [mT, mC, mN]); first | done | rfl) ?_; (with_reducible refine (spec_l1In.calls a1 2 20 false _ A5.out).mono ?_); rintro e w' ⟨rfl, ⟨nd, rfl⟩⟩; refine ⟨_, rfl, ?_⟩)); go_meet
   case rel => exact ⟨_, (true), (by first | rfl | (simp; done) | (simp [*]; done)), H', ⟨by first | omega | exact Nat.le_refl _⟩, ⟨by exact rB HB⟩⟩
 case rest =>
  clear HC4
  try clear c1
  try clear p2
  try clear c6
  try clear p6
  obtain ⟨kq, x18_3, rfl, HA, HJ3, HB⟩ := hcut; cases kq with
  | zero => exact absurd HA.out (by simp [spec_HasPower.j0])
  | succ kj3 =>
   have H := HA.out; clear HA; simp only [spec_HasPower.j0] at H; by_cases c8 : x18_3 = true
   ·subst c8; have H1 : (some false) = some r := by rw [if_pos rfl] at H; exact H
    clear H; have H := H1; clear H1; obtain rfl := Option.some.inj H; go_wp2; go_ret; exact ⟨by first | rfl | (simp [errW_none, errW_some] <;> rfl) | (simp [*, errW_none, errW_some] <;> rfl), by exact rB HB⟩
   ·replace c8 := Bool.eq_false_iff.mpr c8; subst c8; have H1 : (spec_HasPower.l0 kj3 l0 a1 a2 0) = some r := by rw [if_neg (show ¬ (false = true) by decide)] at H; exact H
    clear H; have H := H1; clear H1; have H' := am H; clear H; go_wp2; go_loopg [7] kj3 (fun kq v7 w' => ∃ (x7_2 : Int), v7 = .int .i64 x7_2 ∧ Aside0 (spec_HasPower.l0 kq l0 a1 a2 x7_2 = some r) ∧ Aside0 (kq ≤ kj3) ∧ Aside0 (Below w.heap.size w w'))
    case atStart => exact ⟨(0), (by first | rfl | (simp; done) | (simp [*]; done)), H', ⟨Nat.le_refl _⟩, ⟨by exact rB HB⟩⟩
    case round =>
     clear H'
     try clear c1
     try clear p2
     try clear c6
     try clear p6
     try clear c8
     try clear p2
     try clear p6
     obtain ⟨x7_2, rfl, HA, HK2, HB⟩ := hrel; cases gk with
     | zero => exact absurd HA.out (by simp [spec_HasPower.l0])
     | succ k2 =>
      have H := HA.out; clear HA; simp only [spec_HasPower.l0] at H; have HC9 := am H; clear H; go_upto_region 4 with (fail); go_cut [27] (fun v27 wc => ∃ (kq : Nat) (x27_8 : Bool), v27 = .bool x27_8 ∧ Aside0 (spec_HasPower.j2 kq l0 a1 a2 x7_2 x27_8 = some r) ∧ Aside0 (kq ≤ k2) ∧ Aside0 (Below w.heap.size w wc))
      case first =>
       have H := HC9.out; clear HC9; by_cases c10 : x7_2 < (l0.length : Int)
       ·rw [if_pos c10] at H; have c10b0 : decide (x7_2 < (l0.length : Int)) = true := decide_eq_true c10; clear c10
        (first | rw [c10b0] | (simp only [i64_w, i32_w]; rw [c10b0]) | skip)
        have H' := am H; clear H; go_wp2; go_meet
        case rel => exact ⟨_, (decide ((l0.length : Int) ≤ 128)), (by first | rfl | (simp; done) | (simp [*]; done)), H', ⟨by have := HJ3.out; have := HK2.out; first | omega | exact Nat.le_refl _⟩, ⟨by exact rB HB⟩⟩
       ·rw [if_neg c10] at H; have c10b0 : decide (x7_2 < (l0.length : Int)) = false := decide_eq_false c10; clear c10
        (first | rw [c10b0] | (simp only [i64_w, i32_w]; rw [c10b0]) | skip)
        have H' := am H; clear H; go_wp2; go_meet
        case rel => exact ⟨_, (false), (by first | rfl | (simp; done) | (simp [*]; done)), H', ⟨by have := HJ3.out; have := HK2.out; first | omega | exact Nat.le_refl _⟩, ⟨by exact rB HB⟩⟩
      case rest =>
       clear HC9
       try clear c1
       try clear p2
       try clear c6
       try clear p6
       try clear c8
       try clear c10
       try clear c10b0
       try clear p2
       try clear p6
       obtain ⟨kq, x27_8, rfl, HA, HJ8, HB⟩ := hcut; cases kq with
       | zero => exact absurd HA.out (by simp [spec_HasPower.j2])
       | succ kj8 =>
        have H := HA.out; clear HA; simp only [spec_HasPower.j2] at H; by_cases c11 : x27_8 = true
        ·subst c11; have H1 : (spec_HasPower.l1 kj8 l0 a1 a2 x7_2 1) = some r := by rw [if_pos rfl] at H; exact H
         clear H; have H := H1; clear H1; have H' := am H; clear H; go_wp2; go_loopg [8] kj8 (fun kq v8 w' => ∃ (x8_4 : Int), v8 = .int .i64 x8_4 ∧ Aside0 (spec_HasPower.l1 kq l0 a1 a2 x7_2 x8_4 = some r) ∧ Aside0 (kq ≤ kj8) ∧ Aside0 (Below w.heap.size w w'))
         case atStart => exact ⟨(1), (by first | rfl | (simp; done) | (simp [*]; done)), H', ⟨Nat.le_refl _⟩, ⟨by exact rB HB⟩⟩
         case round =>
          clear H'
          try clear c1
          try clear p2
          try clear c6
          try clear p6
          try clear c8
          try clear c10
          try clear c10b0
          try clear c11
          try clear p2
          try clear p6
          obtain ⟨x8_4, rfl, HA, HK4, HB⟩ := hrel; cases gk with
          | zero => exact absurd HA.out (by simp [spec_HasPower.l1])
          | succ k4 =>
           have H := HA.out; clear HA; simp only [spec_HasPower.l1] at H; by_cases c12 : (wrap64 (x7_2 + x8_4)) < (l0.length : Int)
           ·rw [if_pos c12] at H; have c12b0 : decide ((wrap64 (x7_2 + x8_4)) < (l0.length : Int)) = true := decide_eq_true c12; clear c12; replace H := Option.bind_eq_some_iff.mp H; obtain ⟨t396, A130, H⟩ := H; replace H : (if (wrap64 (t396 * a2)) ≥ (wrap64 (x8_4 * a1)) then (some true) else (spec_HasPower.l1 k4 l0 a1 a2 x7_2 (wrap64 (x8_4 + 1)))) = some r := H; have A13 := am A130; clear A130; by_cases c14 : (wrap64 (t396 * a2)) ≥ (wrap64 (x8_4 * a1))
            ·rw [if_pos c14] at H; have c14b0 : decide ((wrap64 (x8_4 * a1)) ≤ (wrap64 (t396 * a2))) = true := decide_eq_true c14; clear c14; obtain rfl := Option.some.inj H; go_wp2_with (first | ((with_reducible refine gate_callee (f := 162) rfl ?_); refine goesL_ (some 41) rfl rfl Try.func162 (by kernel_rfl) rfl #[.slice A0 l0.length c0, .int .i64 x7_2, .int .i64 x8_4] rfl (by (try simp only [mT, mC, mN]); first | done | rfl) ?_; (with_reducible refine (spec_l10Match.calls k4 _ _ l0 x7_2 x8_4 t396 _ ?side1 ?side2 A13.out).mono ?_); (case side1 => exact xC ((Kd.C_below HR0.out HB.out))); (case side2 => exact HC0.out); rintro e w15 ⟨rfl, hb⟩; refine ⟨_, rfl, ?_⟩; replace HB := am (below_step (by exact rB HB) hb); clear hb)); go_ret; exact ⟨by first | rfl | (simp [errW_none, errW_some] <;> rfl) | (simp [*, errW_none, errW_some] <;> rfl), by exact rB HB⟩
            ·rw [if_neg c14] at H; have c14b0 : decide ((wrap64 (x8_4 * a1)) ≤ (wrap64 (t396 * a2))) = false := decide_eq_false c14; clear c14; have H' := am H; clear H; go_wp2_with (first | ((with_reducible refine gate_callee (f := 162) rfl ?_); refine goesL_ (some 41) rfl rfl Try.func162 (by kernel_rfl) rfl #[.slice A0 l0.length c0, .int .i64 x7_2, .int .i64 x8_4] rfl (by (try simp only [mT, mC, mN]); first | done | rfl) ?_; (with_reducible refine (spec_l10Match.calls k4 _ _ l0 x7_2 x8_4 t396 _ ?side1 ?side2 A13.out).mono ?_); (case side1 => exact xC ((Kd.C_below HR0.out HB.out))); (case side2 => exact HC0.out); rintro e w16 ⟨rfl, hb⟩; refine ⟨_, rfl, ?_⟩; replace HB := am (below_step (by exact rB HB) hb); clear hb)); go_roundg k4
             case measure => have := HJ3.out; have := HK2.out; have := HJ8.out; have := HK4.out; omega
             case rel => exact ⟨(wrap64 (x8_4 + 1)), (by first | rfl | (simp; done) | (simp [*]; done)), H', ⟨by have := HJ3.out; have := HK2.out; have := HJ8.out; have := HK4.out; omega⟩, ⟨by exact rB HB⟩⟩
           ·rw [if_neg c12] at H; have c12b0 : decide ((wrap64 (x7_2 + x8_4)) < (l0.length : Int)) = false := decide_eq_false c12; clear c12; have H' := am H; clear H; go_wp2; go_roundg k4
            case measure => have := HJ3.out; have := HK2.out; have := HJ8.out; have := HK4.out; omega
            case rel => exact ⟨(wrap64 (x7_2 + 1)), (by first | rfl | (simp; done) | (simp [*]; done)), H', ⟨by have := HJ3.out; have := HK2.out; have := HJ8.out; have := HK4.out; omega⟩, ⟨by exact rB HB⟩⟩
        ·replace c11 := Bool.eq_false_iff.mpr c11; subst c11; have H1 : (some false) = some r := by rw [if_neg (show ¬ (false = true) by decide)] at H; exact H
         clear H; have H := H1; clear H1; obtain rfl := Option.some.inj H; go_wp2; go_ret; exact ⟨by first | rfl | (simp [errW_none, errW_some] <;> rfl) | (simp [*, errW_none, errW_some] <;> rfl), by exact rB HB⟩
def spec_HasSquare.f (k : Nat) (l0 : List Int) : Option (Bool) := (spec_HasPower.f k l0 2 1).bind fun t397 => (some t397)
theorem spec_HasSquare.mono : ∀ a0 k, LeO (spec_HasSquare.f k a0) (spec_HasSquare.f (k + 1) a0) := by
 intro a0 k; unfold spec_HasSquare.f
 repeat' first
   | (with_reducible exact spec_HasPower.mono _ _ _ _)
   | (with_reducible exact LeO.refl _)
   | (with_reducible exact LeO.none _)
   | (with_reducible refine LeO.ite ?_ ?_)
   | (with_reducible refine LeO.bind ?_ (fun _ => ?_))
set_option maxHeartbeats 8000000 in
set_option maxRecDepth 100000 in
theorem spec_HasSquare.calls (k : Nat) (A0 : Option Addr) (c0 : Nat) (l0 : List Int) (r : Bool) (w : World) (hr0 : Kd.C (Kd.int .i64) w A0 l0.length l0) (hc0 : l0.length ≤ c0) (h : spec_HasSquare.f k l0 = some r) :
  Calls Try.prog 44 #[.slice A0 l0.length c0] w fun e w' => e = .returned (.bool r) ∧ Below w.heap.size w w' := by
 have HR0 := am hr0; have HC0 := am hc0; clear hr0 hc0; have HB := am (Below.refl w.heap.size w); have H : ((spec_HasPower.f k l0 2 1).bind fun t397 => (some t397)) = some r := h; clear h; replace H := Option.bind_eq_some_iff.mp H; obtain ⟨t397, A20, H⟩ := H; replace H : (some t397) = some r := H; have A2 := am A20; clear A20; obtain rfl := Option.some.inj H; go_enter Try.func44, Try.ntmps44; go_wp2_with (first | ((with_reducible refine gate_callee (f := 123) rfl ?_); refine goesL_ (some 4) rfl rfl Try.func123 (by kernel_rfl) rfl #[.slice A0 l0.length c0, .int .i64 2, .int .i64 1] rfl (by (try simp only [mT, mC, mN]); first | done | rfl) ?_; (with_reducible refine (spec_HasPower.calls k _ _ l0 2 1 t397 _ ?side1 ?side2 A2.out).mono ?_); (case side1 => exact xC (HR0.out)); (case side2 => exact HC0.out); rintro e w3 ⟨rfl, hb⟩; refine ⟨_, rfl, ?_⟩; replace HB := am (below_step (by exact rB HB) hb); clear hb)); go_ret; exact ⟨by first | rfl | (simp [errW_none, errW_some] <;> rfl) | (simp [*, errW_none, errW_some] <;> rfl), by exact rB HB⟩
def spec_IsWord.l0 : Nat → List Int → Int → Int → Option (Bool)
 | 0, _, _, _ => none
 | k + 1, x0, x1, x5 => if x5 < (x0.length : Int) then (if 0 ≤ x5 then (if (rd x0 x5) < 0 then (some false) else (if (rd x0 x5) ≥ x1 then (some false) else (spec_IsWord.l0 k x0 x1 (wrap64 (x5 + 1))))) else (none)) else ((spec_l1In.f x1 1 16).bind fun t107 => (if t107 = true then (some (decide ((x0.length : Int) ≤ 400))) else (some false)))
def spec_IsWord.f (k : Nat) (l0 : List Int) (a1 : Int) : Option (Bool) := spec_IsWord.l0 k l0 a1 0
theorem spec_IsWord.mono_l : ∀ k, (∀ y0 y1 y2, LeO (spec_IsWord.l0 k y0 y1 y2) (spec_IsWord.l0 (k + 1) y0 y1 y2))
 | 0 => fun _ _ _ r h => by simp [spec_IsWord.l0] at h
 | k + 1 => by
  have ih0 := spec_IsWord.mono_l k
  ·intro y0 y1 y2; unfold spec_IsWord.l0
   repeat' first
   | (with_reducible exact ih0 _ _ _)
   | (with_reducible exact LeO.refl _)
   | (with_reducible exact LeO.none _)
   | (with_reducible refine LeO.ite ?_ ?_)
   | (with_reducible refine LeO.bind ?_ (fun _ => ?_))
theorem spec_IsWord.mono : ∀ a0 a1 k, LeO (spec_IsWord.f k a0 a1) (spec_IsWord.f (k + 1) a0 a1) := by
 intro a0 a1 k; have ih0 := spec_IsWord.mono_l k; unfold spec_IsWord.f
 repeat' first
   | (with_reducible exact ih0 _ _ _)
   | (with_reducible exact LeO.refl _)
   | (with_reducible exact LeO.none _)
   | (with_reducible refine LeO.ite ?_ ?_)
   | (with_reducible refine LeO.bind ?_ (fun _ => ?_))
set_option maxHeartbeats 8000000 in
set_option maxRecDepth 100000 in
theorem spec_IsWord.calls (k : Nat) (A0 : Option Addr) (c0 : Nat) (l0 : List Int) (a1 : Int) (r : Bool) (w : World) (hr0 : Kd.C (Kd.int .i64) w A0 l0.length l0) (hc0 : l0.length ≤ c0) (h : spec_IsWord.f k l0 a1 = some r) :
  Calls Try.prog 129 #[.slice A0 l0.length c0, .int .i64 a1] w fun e w' => e = .returned (.bool r) ∧ Drawn0 w w' := by
 have HR0 := am hr0; have HC0 := am hc0; clear hr0 hc0; have H : (spec_IsWord.l0 k l0 a1 0) = some r := h; clear h; have H' := am H; clear H; go_enter Try.func129, Try.ntmps129; go_wp2; go_loopg [5] k (fun kq v5 w' => ∃ (x5_1 : Int), v5 = .int .i64 x5_1 ∧ Aside0 (spec_IsWord.l0 kq l0 a1 x5_1 = some r) ∧ Aside0 (kq ≤ k) ∧ Drawn0 w w')
 case atStart => exact ⟨(0), (by first | rfl | (simp; done) | (simp [*]; done)), H', ⟨Nat.le_refl _⟩, by repeat (first | exact Drawn0.refl _ | apply Drawn0.step)⟩
 case round =>
  clear H'
  try clear c1
  try clear p2
  obtain ⟨x5_1, rfl, HA, HK1, ⟨m1, rfl⟩⟩ := hrel; cases gk with
  | zero => exact absurd HA.out (by simp [spec_IsWord.l0])
  | succ k1 =>
   have H := HA.out; clear HA; simp only [spec_IsWord.l0] at H; by_cases c3 : x5_1 < (l0.length : Int)
   ·rw [if_pos c3] at H; have c3b0 : decide (x5_1 < (l0.length : Int)) = true := decide_eq_true c3; clear c3; by_cases c4 : 0 ≤ x5_1
    ·rw [if_pos c4] at H; have c4b0 : decide (0 ≤ x5_1) = true := decide_eq_true c4; clear c4; by_cases c5 : (rd l0 x5_1) < 0
     ·rw [if_pos c5] at H; have c5b0 : decide ((rd l0 x5_1) < 0) = true := decide_eq_true c5; clear c5; obtain rfl := Option.some.inj H; have p105 : 0 ≤ (x5_1 : Int) := of_decide_eq_true (by first | (with_reducible assumption) | assumption); have q105 : x5_1 < (l0.length : Int) := of_decide_eq_true (by first | (with_reducible assumption) | assumption); obtain ⟨ad105, e105, hx105_0⟩ := Kd.at_int HR0.out x5_1 p105 q105; cases e105; replace p105 := eq_true p105; replace q105 := eq_true q105; go_wp2; go_ret; exact ⟨by first | rfl | (simp; done) | (simp [*]; done), by repeat (first | exact Drawn0.refl _ | apply Drawn0.step)⟩
     ·rw [if_neg c5] at H; have c5b0 : decide ((rd l0 x5_1) < 0) = false := decide_eq_false c5; clear c5; by_cases c6 : (rd l0 x5_1) ≥ a1
      ·rw [if_pos c6] at H; have c6b0 : decide (a1 ≤ (rd l0 x5_1)) = true := decide_eq_true c6; clear c6; obtain rfl := Option.some.inj H; have p105 : 0 ≤ (x5_1 : Int) := of_decide_eq_true (by first | (with_reducible assumption) | assumption); have q105 : x5_1 < (l0.length : Int) := of_decide_eq_true (by first | (with_reducible assumption) | assumption); obtain ⟨ad105, e105, hx105_0⟩ := Kd.at_int HR0.out x5_1 p105 q105; cases e105; replace p105 := eq_true p105; replace q105 := eq_true q105; have p106 : 0 ≤ (x5_1 : Int) := of_decide_eq_true (by first | (with_reducible assumption) | assumption); have q106 : x5_1 < (l0.length : Int) := of_decide_eq_true (by first | (with_reducible assumption) | assumption); obtain ⟨ad106, e106, hx106_0⟩ := Kd.at_int HR0.out x5_1 p106 q106; obtain rfl : ad105 = ad106 := (by injection e106); replace p106 := eq_true p106; replace q106 := eq_true q106; go_wp2; go_ret; exact ⟨by first | rfl | (simp; done) | (simp [*]; done), by repeat (first | exact Drawn0.refl _ | apply Drawn0.step)⟩
      ·rw [if_neg c6] at H; have c6b0 : decide (a1 ≤ (rd l0 x5_1)) = false := decide_eq_false c6; clear c6; have H' := am H; clear H; have p105 : 0 ≤ (x5_1 : Int) := of_decide_eq_true (by first | (with_reducible assumption) | assumption); have q105 : x5_1 < (l0.length : Int) := of_decide_eq_true (by first | (with_reducible assumption) | assumption); obtain ⟨ad105, e105, hx105_0⟩ := Kd.at_int HR0.out x5_1 p105 q105; cases e105; replace p105 := eq_true p105; replace q105 := eq_true q105; have p106 : 0 ≤ (x5_1 : Int) := of_decide_eq_true (by first | (with_reducible assumption) | assumption); have q106 : x5_1 < (l0.length : Int) := of_decide_eq_true (by first | (with_reducible assumption) | assumption); obtain ⟨ad106, e106, hx106_0⟩ := Kd.at_int HR0.out x5_1 p106 q106; obtain rfl : ad105 = ad106 := (by injection e106); replace p106 := eq_true p106; replace q106 := eq_true q106; go_wp2; go_roundg k1
       case measure => have := HK1.out; omega
       case rel => exact ⟨(wrap64 (x5_1 + 1)), (by first | rfl | (simp; done) | (simp [*]; done)), H', ⟨by have := HK1.out; omega⟩, by repeat (first | exact Drawn0.refl _ | apply Drawn0.step)⟩
    ·rw [if_neg c4] at H; exact absurd H (by simp)
   ·rw [if_neg c3] at H; have c3b0 : decide (x5_1 < (l0.length : Int)) = false := decide_eq_false c3; clear c3; replace H := Option.bind_eq_some_iff.mp H; obtain ⟨t107, A70, H⟩ := H; replace H : (if t107 = true then (some (decide ((l0.length : Int) ≤ 400))) else (some false)) = some r := H; have A7 := am A70; clear A70; by_cases c8 : t107 = true
    ·subst c8; have H1 : (some (decide ((l0.length : Int) ≤ 400))) = some r := by rw [if_pos rfl] at H; exact H
     clear H; have H := H1; clear H1; obtain rfl := Option.some.inj H; go_wp2_with (first | ((with_reducible refine gate_callee (f := 115) rfl ?_); refine goesL_ (some 26) rfl rfl Try.func115 (by kernel_rfl) rfl #[.int .i64 a1, .int .i64 1, .int .i64 16] rfl (by (try simp only [mT, mC, mN]); first | done | rfl) ?_; (with_reducible refine (spec_l1In.calls a1 1 16 true _ A7.out).mono ?_); rintro e w' ⟨rfl, ⟨nd, rfl⟩⟩; refine ⟨_, rfl, ?_⟩)); go_ret; exact ⟨by first | rfl | (simp; done) | (simp [*]; done), by repeat (first | exact Drawn0.refl _ | apply Drawn0.step)⟩
    ·replace c8 := Bool.eq_false_iff.mpr c8; subst c8; have H1 : (some false) = some r := by rw [if_neg (show ¬ (false = true) by decide)] at H; exact H
     clear H; have H := H1; clear H1; obtain rfl := Option.some.inj H; go_wp2_with (first | ((with_reducible refine gate_callee (f := 115) rfl ?_); refine goesL_ (some 26) rfl rfl Try.func115 (by kernel_rfl) rfl #[.int .i64 a1, .int .i64 1, .int .i64 16] rfl (by (try simp only [mT, mC, mN]); first | done | rfl) ?_; (with_reducible refine (spec_l1In.calls a1 1 16 false _ A7.out).mono ?_); rintro e w' ⟨rfl, ⟨nd, rfl⟩⟩; refine ⟨_, rfl, ?_⟩)); go_ret; exact ⟨by first | rfl | (simp; done) | (simp [*]; done), by repeat (first | exact Drawn0.refl _ | apply Drawn0.step)⟩
def spec_IsMorphism.l0 : Nat → Int → List (List Int) → Option (Bool)
 | 0, _, _ => none
 | k + 1, x3, x109000 => if x3 < (x109000.length : Int) then (if 0 ≤ x3 then ((spec_IsWord.f k (rd_L1 x109000 x3) (x109000.length : Int)).bind fun t110 => (if t110 = true then (if ((rd_L1 x109000 x3).length : Int) > 8 then (some false) else (spec_IsMorphism.l0 k (wrap64 (x3 + 1)) x109000)) else (some false))) else (none)) else ((spec_l1In.f (x109000.length : Int) 1 16).bind fun t112 => (some t112))
def spec_IsMorphism.f (k : Nat) (l0_0 : List (List Int)) : Option (Bool) := spec_IsMorphism.l0 k 0 l0_0
theorem spec_IsMorphism.mono_l : ∀ k, (∀ y0 y1, LeO (spec_IsMorphism.l0 k y0 y1) (spec_IsMorphism.l0 (k + 1) y0 y1))
 | 0 => fun _ _ r h => by simp [spec_IsMorphism.l0] at h
 | k + 1 => by
  have ih0 := spec_IsMorphism.mono_l k
  ·intro y0 y1; unfold spec_IsMorphism.l0
   repeat' first
   | (with_reducible exact ih0 _ _)
   | (with_reducible exact spec_IsWord.mono _ _ _)
   | (with_reducible exact LeO.refl _)
   | (with_reducible exact LeO.none _)
   | (with_reducible refine LeO.ite ?_ ?_)
   | (with_reducible refine LeO.bind ?_ (fun _ => ?_))
theorem spec_IsMorphism.mono : ∀ a0 k, LeO (spec_IsMorphism.f k a0) (spec_IsMorphism.f (k + 1) a0) := by
 intro a0 k; have ih0 := spec_IsMorphism.mono_l k; unfold spec_IsMorphism.f
 repeat' first
   | (with_reducible exact ih0 _ _)
   | (with_reducible exact spec_IsWord.mono _ _ _)
   | (with_reducible exact LeO.refl _)
   | (with_reducible exact LeO.none _)
   | (with_reducible refine LeO.ite ?_ ?_)
   | (with_reducible refine LeO.bind ?_ (fun _ => ?_))
set_option maxHeartbeats 8000000 in
set_option maxRecDepth 100000 in
theorem spec_IsMorphism.calls (k : Nat) (A0_0 : Option Addr) (c0_0 : Nat) (l0_0 : List (List Int)) (r : Bool) (w : World) (hr0_0 : Kd.C (Kd.slice 3 (Kd.int .i64)) w A0_0 l0_0.length l0_0) (hc0_0 : l0_0.length ≤ c0_0) (h : spec_IsMorphism.f k l0_0 = some r) :
  Calls Try.prog 109 #[.agg #[.slice A0_0 l0_0.length c0_0]] w fun e w' => e = .returned (.bool r) ∧ Below w.heap.size w w' := by
 have hu28 := Try.underlying28; have HR0_0 := am hr0_0; have HC0_0 := am hc0_0; clear hr0_0 hc0_0; have HB := am (Below.refl w.heap.size w); have H : (spec_IsMorphism.l0 k 0 l0_0) = some r := h; clear h; have H' := am H; clear H; go_enter Try.func109, Try.ntmps109; go_wp2_with (first | ((with_reducible refine gate_dst (N := 1) rfl ?_); (try (refine gate_guard (by rfl) ?_; dsimp only)); refine box_event ?hg (N := 1) ?hd (cs := #[.slice A0_0 l0_0.length c0_0]) (t := 28) ?hr ?_; (case hd => rfl); (case hg => rfl); (case hr => first | (go_simp; done) | (go_simp; rfl)); intro gb108 hg w2 hbox hb; have BK108 := am (hbox); have GW108 := am ((by rw [hg]; exact (below_size (by exact rB HB)) : w.heap.size ≤ gb108)); have GE108 := am ((by rw [hg]; exact (below_size (by exact rB HB)) : w.heap.size ≤ gb108)); replace HB := am (below_step (by exact rB HB) hb); have qW108 := Ge.mk GW108.out; have qE108 := Ge.mk GE108.out; clear hb hbox hg))
 repeat (go_quiet (first | ((with_reducible refine gate_dst (N := 1) rfl ?_); (try (refine gate_guard (by rfl) ?_; dsimp only)); refine box_event ?hg (N := 1) ?hd (cs := #[.slice A0_0 l0_0.length c0_0]) (t := 28) ?hr ?_; (case hd => rfl); (case hg => rfl); (case hr => first | (go_simp; done) | (go_simp; rfl)); intro gb108 hg w2 hbox hb; have BK108 := am (hbox); have GW108 := am ((by rw [hg]; exact (below_size (by exact rB HB)) : w.heap.size ≤ gb108)); have GE108 := am ((by rw [hg]; exact (below_size (by exact rB HB)) : w.heap.size ≤ gb108)); replace HB := am (below_step (by exact rB HB) hb); have qW108 := Ge.mk GW108.out; have qE108 := Ge.mk GE108.out; clear hb hbox hg)); try go_wp2_with (first | ((with_reducible refine gate_dst (N := 1) rfl ?_); (try (refine gate_guard (by rfl) ?_; dsimp only)); refine box_event ?hg (N := 1) ?hd (cs := #[.slice A0_0 l0_0.length c0_0]) (t := 28) ?hr ?_; (case hd => rfl); (case hg => rfl); (case hr => first | (go_simp; done) | (go_simp; rfl)); intro gb108 hg w2 hbox hb; have BK108 := am (hbox); have GW108 := am ((by rw [hg]; exact (below_size (by exact rB HB)) : w.heap.size ≤ gb108)); have GE108 := am ((by rw [hg]; exact (below_size (by exact rB HB)) : w.heap.size ≤ gb108)); replace HB := am (below_step (by exact rB HB) hb); have qW108 := Ge.mk GW108.out; have qE108 := Ge.mk GE108.out; clear hb hbox hg)))
 go_loopg [3] k (fun kq v3 w' => ∃ (x3_1 : Int), v3 = .int .i64 x3_1 ∧ Aside0 (spec_IsMorphism.l0 kq x3_1 l0_0 = some r) ∧ Aside0 (kq ≤ k) ∧ Aside0 (w'.heap[gb108]? = some (.cells #[(.slice A0_0 l0_0.length c0_0)] 28 (0, 0))) ∧ Aside0 (Below w.heap.size w w'))
 case atStart => exact ⟨(0), (by first | rfl | (simp; done) | (simp [*]; done)), H', ⟨Nat.le_refl _⟩, ⟨by exact rX BK108⟩, ⟨by exact rB HB⟩⟩
 case round =>
  clear H'
  try clear c1
  try clear p2
  obtain ⟨x3_1, rfl, HA, HK1, BK108, HB⟩ := hrel; cases gk with
  | zero => exact absurd HA.out (by simp [spec_IsMorphism.l0])
  | succ k1 =>
   have H := HA.out; clear HA; simp only [spec_IsMorphism.l0] at H; by_cases c3 : x3_1 < (l0_0.length : Int)
   ·rw [if_pos c3] at H; have c3b0 : decide (x3_1 < (l0_0.length : Int)) = true := decide_eq_true c3; clear c3; by_cases c4 : 0 ≤ x3_1
    ·rw [if_pos c4] at H; have c4b0 : decide (0 ≤ x3_1) = true := decide_eq_true c4; clear c4; replace H := Option.bind_eq_some_iff.mp H; obtain ⟨t110, A50, H⟩ := H; replace H : (if t110 = true then (if ((rd_L1 l0_0 x3_1).length : Int) > 8 then (some false) else (spec_IsMorphism.l0 k1 (wrap64 (x3_1 + 1)) l0_0)) else (some false)) = some r := H; have A5 := am A50; clear A50; by_cases c6 : t110 = true
     ·subst c6; have H1 : (if ((rd_L1 l0_0 x3_1).length : Int) > 8 then (some false) else (spec_IsMorphism.l0 k1 (wrap64 (x3_1 + 1)) l0_0)) = some r := by rw [if_pos rfl] at H; exact H
      clear H; have H := H1; clear H1; by_cases c7 : ((rd_L1 l0_0 x3_1).length : Int) > 8
      ·rw [if_pos c7] at H; have c7b0 : decide (8 < ((rd_L1 l0_0 x3_1).length : Int)) = true := decide_eq_true c7; have c7b1 : decide (8 < (rd_L1 l0_0 x3_1).length) = true := decide_eq_true (by omega); clear c7; obtain rfl := Option.some.inj H; have hcz8_0 : wr.cell? ⟨gb108, 0, none⟩ = some (.slice A0_0 l0_0.length c0_0) := (blk_cell BK108.out 0).trans rfl; have hfz8_0 := blk_frozen BK108.out 0; have p109 : 0 ≤ (x3_1 : Int) := of_decide_eq_true (by first | (with_reducible assumption) | assumption); have q109 : x3_1 < (l0_0.length : Int) := of_decide_eq_true (by first | (with_reducible assumption) | assumption); obtain ⟨ad109, A109_0, c109_0, e109, hx109_0, hl109_0, hi109_0⟩ := at_L1 HR0_0.out x3_1 p109 q109; cases e109; replace hx109_0 := (HB.out.cell (World.block_lt_of_cell? w _ hx109_0)).trans hx109_0; have HR109_0 := am hi109_0; have HC109_0 := am hl109_0; clear hi109_0 hl109_0; replace p109 := eq_true p109; replace q109 := eq_true q109; go_wp2_with (first | (go_at_call 129; (with_reducible refine (spec_IsWord.calls k1 _ _ (rd_L1 l0_0 x3_1) (l0_0.length : Int) true _ ?side1 ?side2 A5.out).mono ?_); (case side1 => exact xC ((Kd.C_below HR109_0.out HB.out))); (case side2 => exact HC109_0.out); rintro e w' ⟨rfl, ⟨nd, rfl⟩⟩; (try first | exact ⟨rfl, _, World.drewN_drewN _ _ _⟩ | exact ⟨rfl, _, Eq.trans (World.drewN_drewN _ _ _) (congrArg (World.drewN _) (Nat.add_assoc _ _ _))⟩); have p111 : 0 ≤ (x3_1 : Int) := of_decide_eq_true (by first | (with_reducible assumption) | assumption); have q111 : x3_1 < (l0_0.length : Int) := of_decide_eq_true (by first | (with_reducible assumption) | assumption); obtain ⟨ad111, A111_0, c111_0, e111, hx111_0, hl111_0, hi111_0⟩ := at_L1 HR0_0.out x3_1 p111 q111; obtain rfl : ad109 = ad111 := (by injection e111); replace hx111_0 := (HB.out.cell (World.block_lt_of_cell? w _ hx111_0)).trans hx111_0; have HR111_0 := am hi111_0; have HC111_0 := am hl111_0; clear hi111_0 hl111_0; replace p111 := eq_true p111; replace q111 := eq_true q111; have ea_ := Option.some.inj (hx109_0.symm.trans hx111_0); injection ea_ with ea_ en_ ec_; subst ea_; subst ec_; clear en_))
       repeat (go_quiet (first | (go_at_call 129; (with_reducible refine (spec_IsWord.calls k1 _ _ (rd_L1 l0_0 x3_1) (l0_0.length : Int) true _ ?side1 ?side2 A5.out).mono ?_); (case side1 => exact xC ((Kd.C_below HR109_0.out HB.out))); (case side2 => exact HC109_0.out); rintro e w' ⟨rfl, ⟨nd, rfl⟩⟩; (try first | exact ⟨rfl, _, World.drewN_drewN _ _ _⟩ | exact ⟨rfl, _, Eq.trans (World.drewN_drewN _ _ _) (congrArg (World.drewN _) (Nat.add_assoc _ _ _))⟩); have p111 : 0 ≤ (x3_1 : Int) := of_decide_eq_true (by first | (with_reducible assumption) | assumption); have q111 : x3_1 < (l0_0.length : Int) := of_decide_eq_true (by first | (with_reducible assumption) | assumption); obtain ⟨ad111, A111_0, c111_0, e111, hx111_0, hl111_0, hi111_0⟩ := at_L1 HR0_0.out x3_1 p111 q111; obtain rfl : ad109 = ad111 := (by injection e111); replace hx111_0 := (HB.out.cell (World.block_lt_of_cell? w _ hx111_0)).trans hx111_0; have HR111_0 := am hi111_0; have HC111_0 := am hl111_0; clear hi111_0 hl111_0; replace p111 := eq_true p111; replace q111 := eq_true q111; have ea_ := Option.some.inj (hx109_0.symm.trans hx111_0); injection ea_ with ea_ en_ ec_; subst ea_; subst ec_; clear en_)); try go_wp2_with (first | (go_at_call 129; (with_reducible refine (spec_IsWord.calls k1 _ _ (rd_L1 l0_0 x3_1) (l0_0.length : Int) true _ ?side1 ?side2 A5.out).mono ?_); (case side1 => exact xC ((Kd.C_below HR109_0.out HB.out))); (case side2 => exact HC109_0.out); rintro e w' ⟨rfl, ⟨nd, rfl⟩⟩; (try first | exact ⟨rfl, _, World.drewN_drewN _ _ _⟩ | exact ⟨rfl, _, Eq.trans (World.drewN_drewN _ _ _) (congrArg (World.drewN _) (Nat.add_assoc _ _ _))⟩); have p111 : 0 ≤ (x3_1 : Int) := of_decide_eq_true (by first | (with_reducible assumption) | assumption); have q111 : x3_1 < (l0_0.length : Int) := of_decide_eq_true (by first | (with_reducible assumption) | assumption); obtain ⟨ad111, A111_0, c111_0, e111, hx111_0, hl111_0, hi111_0⟩ := at_L1 HR0_0.out x3_1 p111 q111; obtain rfl : ad109 = ad111 := (by injection e111); replace hx111_0 := (HB.out.cell (World.block_lt_of_cell? w _ hx111_0)).trans hx111_0; have HR111_0 := am hi111_0; have HC111_0 := am hl111_0; clear hi111_0 hl111_0; replace p111 := eq_true p111; replace q111 := eq_true q111; have ea_ := Option.some.inj (hx109_0.symm.trans hx111_0); injection ea_ with ea_ en_ ec_; subst ea_; subst ec_; clear en_)))
       go_ret; exact ⟨by first | rfl | (simp [errW_none, errW_some] <;> rfl) | (simp [*, errW_none, errW_some] <;> rfl), by exact rB HB⟩
      ·rw [if_neg c7] at H; have c7b0 : decide (8 < ((rd_L1 l0_0 x3_1).length : Int)) = false := decide_eq_false c7; have c7b1 : decide (8 < (rd_L1 l0_0 x3_1).length) = false := decide_eq_false (by omega); clear c7; have H' := am H; clear H; have hcz9_0 : wr.cell? ⟨gb108, 0, none⟩ = some (.slice A0_0 l0_0.length c0_0) := (blk_cell BK108.out 0).trans rfl; have hfz9_0 := blk_frozen BK108.out 0; have p109 : 0 ≤ (x3_1 : Int) := of_decide_eq_true (by first | (with_reducible assumption) | assumption); have q109 : x3_1 < (l0_0.length : Int) := of_decide_eq_true (by first | (with_reducible assumption) | assumption); obtain ⟨ad109, A109_0, c109_0, e109, hx109_0, hl109_0, hi109_0⟩ := at_L1 HR0_0.out x3_1 p109 q109; cases e109; replace hx109_0 := (HB.out.cell (World.block_lt_of_cell? w _ hx109_0)).trans hx109_0; have HR109_0 := am hi109_0; have HC109_0 := am hl109_0; clear hi109_0 hl109_0; replace p109 := eq_true p109; replace q109 := eq_true q109; go_wp2_with (first | (go_at_call 129; (with_reducible refine (spec_IsWord.calls k1 _ _ (rd_L1 l0_0 x3_1) (l0_0.length : Int) true _ ?side1 ?side2 A5.out).mono ?_); (case side1 => exact xC ((Kd.C_below HR109_0.out HB.out))); (case side2 => exact HC109_0.out); rintro e w' ⟨rfl, ⟨nd, rfl⟩⟩; (try first | exact ⟨rfl, _, World.drewN_drewN _ _ _⟩ | exact ⟨rfl, _, Eq.trans (World.drewN_drewN _ _ _) (congrArg (World.drewN _) (Nat.add_assoc _ _ _))⟩); have p111 : 0 ≤ (x3_1 : Int) := of_decide_eq_true (by first | (with_reducible assumption) | assumption); have q111 : x3_1 < (l0_0.length : Int) := of_decide_eq_true (by first | (with_reducible assumption) | assumption); obtain ⟨ad111, A111_0, c111_0, e111, hx111_0, hl111_0, hi111_0⟩ := at_L1 HR0_0.out x3_1 p111 q111; obtain rfl : ad109 = ad111 := (by injection e111); replace hx111_0 := (HB.out.cell (World.block_lt_of_cell? w _ hx111_0)).trans hx111_0; have HR111_0 := am hi111_0; have HC111_0 := am hl111_0; clear hi111_0 hl111_0; replace p111 := eq_true p111; replace q111 := eq_true q111; have ea_ := Option.some.inj (hx109_0.symm.trans hx111_0); injection ea_ with ea_ en_ ec_; subst ea_; subst ec_; clear en_))
       repeat (go_quiet (first | (go_at_call 129; (with_reducible refine (spec_IsWord.calls k1 _ _ (rd_L1 l0_0 x3_1) (l0_0.length : Int) true _ ?side1 ?side2 A5.out).mono ?_); (case side1 => exact xC ((Kd.C_below HR109_0.out HB.out))); (case side2 => exact HC109_0.out); rintro e w' ⟨rfl, ⟨nd, rfl⟩⟩; (try first | exact ⟨rfl, _, World.drewN_drewN _ _ _⟩ | exact ⟨rfl, _, Eq.trans (World.drewN_drewN _ _ _) (congrArg (World.drewN _) (Nat.add_assoc _ _ _))⟩); have p111 : 0 ≤ (x3_1 : Int) := of_decide_eq_true (by first | (with_reducible assumption) | assumption); have q111 : x3_1 < (l0_0.length : Int) := of_decide_eq_true (by first | (with_reducible assumption) | assumption); obtain ⟨ad111, A111_0, c111_0, e111, hx111_0, hl111_0, hi111_0⟩ := at_L1 HR0_0.out x3_1 p111 q111; obtain rfl : ad109 = ad111 := (by injection e111); replace hx111_0 := (HB.out.cell (World.block_lt_of_cell? w _ hx111_0)).trans hx111_0; have HR111_0 := am hi111_0; have HC111_0 := am hl111_0; clear hi111_0 hl111_0; replace p111 := eq_true p111; replace q111 := eq_true q111; have ea_ := Option.some.inj (hx109_0.symm.trans hx111_0); injection ea_ with ea_ en_ ec_; subst ea_; subst ec_; clear en_)); try go_wp2_with (first | (go_at_call 129; (with_reducible refine (spec_IsWord.calls k1 _ _ (rd_L1 l0_0 x3_1) (l0_0.length : Int) true _ ?side1 ?side2 A5.out).mono ?_); (case side1 => exact xC ((Kd.C_below HR109_0.out HB.out))); (case side2 => exact HC109_0.out); rintro e w' ⟨rfl, ⟨nd, rfl⟩⟩; (try first | exact ⟨rfl, _, World.drewN_drewN _ _ _⟩ | exact ⟨rfl, _, Eq.trans (World.drewN_drewN _ _ _) (congrArg (World.drewN _) (Nat.add_assoc _ _ _))⟩); have p111 : 0 ≤ (x3_1 : Int) := of_decide_eq_true (by first | (with_reducible assumption) | assumption); have q111 : x3_1 < (l0_0.length : Int) := of_decide_eq_true (by first | (with_reducible assumption) | assumption); obtain ⟨ad111, A111_0, c111_0, e111, hx111_0, hl111_0, hi111_0⟩ := at_L1 HR0_0.out x3_1 p111 q111; obtain rfl : ad109 = ad111 := (by injection e111); replace hx111_0 := (HB.out.cell (World.block_lt_of_cell? w _ hx111_0)).trans hx111_0; have HR111_0 := am hi111_0; have HC111_0 := am hl111_0; clear hi111_0 hl111_0; replace p111 := eq_true p111; replace q111 := eq_true q111; have ea_ := Option.some.inj (hx109_0.symm.trans hx111_0); injection ea_ with ea_ en_ ec_; subst ea_; subst ec_; clear en_)))
       go_roundg k1
       case measure => have := HK1.out; omega
       case rel => exact ⟨(wrap64 (x3_1 + 1)), (by first | rfl | (simp; done) | (simp [*]; done)), H', ⟨by have := HK1.out; omega⟩, ⟨by exact rX BK108⟩, ⟨by exact rB HB⟩⟩
     ·replace c6 := Bool.eq_false_iff.mpr c6; subst c6; have H1 : (some false) = some r := by rw [if_neg (show ¬ (false = true) by decide)] at H; exact H
      clear H; have H := H1; clear H1; obtain rfl := Option.some.inj H; have hcz10_0 : wr.cell? ⟨gb108, 0, none⟩ = some (.slice A0_0 l0_0.length c0_0) := (blk_cell BK108.out 0).trans rfl; have hfz10_0 := blk_frozen BK108.out 0; have p109 : 0 ≤ (x3_1 : Int) := of_decide_eq_true (by first | (with_reducible assumption) | assumption); have q109 : x3_1 < (l0_0.length : Int) := of_decide_eq_true (by first | (with_reducible assumption) | assumption); obtain ⟨ad109, A109_0, c109_0, e109, hx109_0, hl109_0, hi109_0⟩ := at_L1 HR0_0.out x3_1 p109 q109; cases e109; replace hx109_0 := (HB.out.cell (World.block_lt_of_cell? w _ hx109_0)).trans hx109_0; have HR109_0 := am hi109_0; have HC109_0 := am hl109_0; clear hi109_0 hl109_0; replace p109 := eq_true p109; replace q109 := eq_true q109; go_wp2_with (first | (go_at_call 129; (with_reducible refine (spec_IsWord.calls k1 _ _ (rd_L1 l0_0 x3_1) (l0_0.length : Int) false _ ?side1 ?side2 A5.out).mono ?_); (case side1 => exact xC ((Kd.C_below HR109_0.out HB.out))); (case side2 => exact HC109_0.out); rintro e w' ⟨rfl, ⟨nd, rfl⟩⟩; (try first | exact ⟨rfl, _, World.drewN_drewN _ _ _⟩ | exact ⟨rfl, _, Eq.trans (World.drewN_drewN _ _ _) (congrArg (World.drewN _) (Nat.add_assoc _ _ _))⟩)))
      repeat (go_quiet (first | (go_at_call 129; (with_reducible refine (spec_IsWord.calls k1 _ _ (rd_L1 l0_0 x3_1) (l0_0.length : Int) false _ ?side1 ?side2 A5.out).mono ?_); (case side1 => exact xC ((Kd.C_below HR109_0.out HB.out))); (case side2 => exact HC109_0.out); rintro e w' ⟨rfl, ⟨nd, rfl⟩⟩; (try first | exact ⟨rfl, _, World.drewN_drewN _ _ _⟩ | exact ⟨rfl, _, Eq.trans (World.drewN_drewN _ _ _) (congrArg (World.drewN _) (Nat.add_assoc _ _ _))⟩))); try go_wp2_with (first | (go_at_call 129; (with_reducible refine (spec_IsWord.calls k1 _ _ (rd_L1 l0_0 x3_1) (l0_0.length : Int) false _ ?side1 ?side2 A5.out).mono ?_); (case side1 => exact xC ((Kd.C_below HR109_0.out HB.out))); (case side2 => exact HC109_0.out); rintro e w' ⟨rfl, ⟨nd, rfl⟩⟩; (try first | exact ⟨rfl, _, World.drewN_drewN _ _ _⟩ | exact ⟨rfl, _, Eq.trans (World.drewN_drewN _ _ _) (congrArg (World.drewN _) (Nat.add_assoc _ _ _))⟩))))
      go_ret; exact ⟨by first | rfl | (simp [errW_none, errW_some] <;> rfl) | (simp [*, errW_none, errW_some] <;> rfl), by exact rB HB⟩
    ·rw [if_neg c4] at H; exact absurd H (by simp)
   ·rw [if_neg c3] at H; have c3b0 : decide (x3_1 < (l0_0.length : Int)) = false := decide_eq_false c3; clear c3; replace H := Option.bind_eq_some_iff.mp H; obtain ⟨t112, A110, H⟩ := H; replace H : (some t112) = some r := H; have A11 := am A110; clear A110; obtain rfl := Option.some.inj H; have hcz12_0 : wr.cell? ⟨gb108, 0, none⟩ = some (.slice A0_0 l0_0.length c0_0) := (blk_cell BK108.out 0).trans rfl; have hfz12_0 := blk_frozen BK108.out 0; go_wp2_with (first | (go_at_call 115; (with_reducible refine (spec_l1In.calls (l0_0.length : Int) 1 16 t112 _ A11.out).mono ?_); rintro e w' ⟨rfl, ⟨nd, rfl⟩⟩; (try first | exact ⟨rfl, _, World.drewN_drewN _ _ _⟩ | exact ⟨rfl, _, Eq.trans (World.drewN_drewN _ _ _) (congrArg (World.drewN _) (Nat.add_assoc _ _ _))⟩)))
    repeat (go_quiet (first | (go_at_call 115; (with_reducible refine (spec_l1In.calls (l0_0.length : Int) 1 16 t112 _ A11.out).mono ?_); rintro e w' ⟨rfl, ⟨nd, rfl⟩⟩; (try first | exact ⟨rfl, _, World.drewN_drewN _ _ _⟩ | exact ⟨rfl, _, Eq.trans (World.drewN_drewN _ _ _) (congrArg (World.drewN _) (Nat.add_assoc _ _ _))⟩))); try go_wp2_with (first | (go_at_call 115; (with_reducible refine (spec_l1In.calls (l0_0.length : Int) 1 16 t112 _ A11.out).mono ?_); rintro e w' ⟨rfl, ⟨nd, rfl⟩⟩; (try first | exact ⟨rfl, _, World.drewN_drewN _ _ _⟩ | exact ⟨rfl, _, Eq.trans (World.drewN_drewN _ _ _) (congrArg (World.drewN _) (Nat.add_assoc _ _ _))⟩))))
    go_ret; exact ⟨by first | rfl | (simp [errW_none, errW_some] <;> rfl) | (simp [*, errW_none, errW_some] <;> rfl), by exact rB HB⟩
mutual
def spec_ApplyMorphism.j0 : Nat → List Int → List Int → Bool → List (List Int) → Option (List Int × Bool)
 | 0, _, _, _, _ => none
 | k + 1, x1, x6, x19, x379000 => if x19 = true then (some (x6, false)) else (spec_ApplyMorphism.l0 k x1 x6 0 x379000)
def spec_ApplyMorphism.l0 : Nat → List Int → List Int → Int → List (List Int) → Option (List Int × Bool)
 | 0, _, _, _, _ => none
 | k + 1, x1, x6, x7, x379000 => if x7 < (x1.length : Int) then (if 0 ≤ x7 then (if 0 ≤ (rd x1 x7) then (if (rd x1 x7) < (x379000.length : Int) then (if x6.length + (rd_L1 x379000 (rd x1 x7)).length < 17592186044416 then ((some (x6 ++ (rd_L1 x379000 (rd x1 x7)) : List Int)).bind fun y386 => (if (y386.length : Int) > 400 then (some ((([] : List Int)), false)) else (spec_ApplyMorphism.l0 k x1 y386 (wrap64 (x7 + 1)) x379000))) else (none)) else (none)) else (none)) else (none)) else (some (x6, true))
end
def spec_ApplyMorphism.f (k : Nat) (l0_0 : List (List Int)) (l1 : List Int) : Option (List Int × Bool) := (some (([] : List Int) : List Int)).bind fun y379 => ((spec_IsMorphism.f k l0_0).bind fun t382 => (if t382 = true then ((spec_IsWord.f k l1 (l0_0.length : Int)).bind fun t383 => (spec_ApplyMorphism.j0 k l1 y379 (!t383) l0_0)) else (spec_ApplyMorphism.j0 k l1 y379 true l0_0)))
theorem spec_ApplyMorphism.mono_l : ∀ k, (∀ y0 y1 y2 y3, LeO (spec_ApplyMorphism.j0 k y0 y1 y2 y3) (spec_ApplyMorphism.j0 (k + 1) y0 y1 y2 y3)) ∧ (∀ y0 y1 y2 y3, LeO (spec_ApplyMorphism.l0 k y0 y1 y2 y3) (spec_ApplyMorphism.l0 (k + 1) y0 y1 y2 y3))
 | 0 => ⟨fun _ _ _ _ r h => by simp [spec_ApplyMorphism.j0] at h, fun _ _ _ _ r h => by simp [spec_ApplyMorphism.l0] at h⟩
 | k + 1 => by
  obtain ⟨ih0, ih1⟩ := spec_ApplyMorphism.mono_l k; refine ⟨?_, ?_⟩
  ·intro y0 y1 y2 y3; unfold spec_ApplyMorphism.j0
   repeat' first
   | (with_reducible exact ih0 _ _ _ _)
   | (with_reducible exact ih1 _ _ _ _)
   | (with_reducible exact spec_IsMorphism.mono _ _)
   | (with_reducible exact spec_IsWord.mono _ _ _)
   | (with_reducible exact LeO.refl _)
   | (with_reducible exact LeO.none _)
   | (with_reducible refine LeO.ite ?_ ?_)
   | (with_reducible refine LeO.bind ?_ (fun _ => ?_))
  ·intro y0 y1 y2 y3; unfold spec_ApplyMorphism.l0
   repeat' first
   | (with_reducible exact ih0 _ _ _ _)
   | (with_reducible exact ih1 _ _ _ _)
   | (with_reducible exact spec_IsMorphism.mono _ _)
   | (with_reducible exact spec_IsWord.mono _ _ _)
   | (with_reducible exact LeO.refl _)
   | (with_reducible exact LeO.none _)
   | (with_reducible refine LeO.ite ?_ ?_)
   | (with_reducible refine LeO.bind ?_ (fun _ => ?_))
theorem spec_ApplyMorphism.mono : ∀ a0 a1 k, LeO (spec_ApplyMorphism.f k a0 a1) (spec_ApplyMorphism.f (k + 1) a0 a1) := by
 intro a0 a1 k; obtain ⟨ih0, ih1⟩ := spec_ApplyMorphism.mono_l k; unfold spec_ApplyMorphism.f
 repeat' first
   | (with_reducible exact ih0 _ _ _ _)
   | (with_reducible exact ih1 _ _ _ _)
   | (with_reducible exact spec_IsMorphism.mono _ _)
   | (with_reducible exact spec_IsWord.mono _ _ _)
   | (with_reducible exact LeO.refl _)
   | (with_reducible exact LeO.none _)
   | (with_reducible refine LeO.ite ?_ ?_)
   | (with_reducible refine LeO.bind ?_ (fun _ => ?_))
def spec_ApplyMorphism.T7 : Bool × List (List Nat × List Nat) := (true, [([], []), ([], []), ([1], [1]), ([], []), ([], []), ([3, 4], [3, 4]), ([5], [5]), ([2, 6], [2, 6]), ([7], [7]), ([0, 8], [0, 8]), ([9, 9, 0, 1, 2, 3, 4, 5, 6, 7, 8, 9], [0, 9])])
def spec_ApplyMorphism.B7 : List Nat := [0, 0, 2, 0, 0, 24, 56, 126, 254, 511, 1023]
theorem spec_ApplyMorphism.tab7 : rtab .any (opsOf Try.f95 7) = spec_ApplyMorphism.T7 := by kernel_rfl
theorem spec_ApplyMorphism.bits7 : waitsOk spec_ApplyMorphism.T7.2 spec_ApplyMorphism.B7 = true := by kernel_rfl
set_option maxHeartbeats 8000000 in
set_option maxRecDepth 100000 in
theorem spec_ApplyMorphism.calls (k : Nat) (A0_0 : Option Addr) (c0_0 : Nat) (l0_0 : List (List Int)) (A1 : Option Addr) (c1 : Nat) (l1 : List Int) (r1 : List Int) (r2 : Bool) (w : World) (hr0_0 : Kd.C (Kd.slice 3 (Kd.int .i64)) w A0_0 l0_0.length l0_0) (hc0_0 : l0_0.length ≤ c0_0) (hr1 : Kd.C (Kd.int .i64) w A1 l1.length l1) (hc1 : l1.length ≤ c1) (h : spec_ApplyMorphism.f k l0_0 l1 = some (r1, r2)) :
  Calls Try.prog 95 #[.agg #[.slice A0_0 l0_0.length c0_0], .slice A1 l1.length c1] w fun e w' => ∃ v0_ : Value, e = .returned (.tuple #[v0_, .bool r2]) ∧ Kd.R (Kd.int .i64) 3 w' w.heap.size (fun _ => True) v0_ r1 ∧ Below w.heap.size w w' := by
 have hu28 := Try.underlying28; have HR0_0 := am hr0_0; have HC0_0 := am hc0_0; clear hr0_0 hc0_0; have HR1 := am hr1; have HC1 := am hc1; clear hr1 hc1; have HB := am (Below.refl w.heap.size w); have H : ((some (([] : List Int) : List Int)).bind fun y379 => ((spec_IsMorphism.f k l0_0).bind fun t382 => (if t382 = true then ((spec_IsWord.f k l1 (l0_0.length : Int)).bind fun t383 => (spec_ApplyMorphism.j0 k l1 y379 (!t383) l0_0)) else (spec_ApplyMorphism.j0 k l1 y379 true l0_0)))) = some (r1, r2) := h; clear h; obtain ⟨y379, hy379⟩ : ∃ y_ : List Int, y_ = (([] : List Int)) := ⟨_, rfl⟩; replace H : ((spec_IsMorphism.f k l0_0).bind fun t382 => (if t382 = true then ((spec_IsWord.f k l1 (l0_0.length : Int)).bind fun t383 => (spec_ApplyMorphism.j0 k l1 y379 (!t383) l0_0)) else (spec_ApplyMorphism.j0 k l1 y379 true l0_0))) = some (r1, r2) := by rw [hy379]; first | exact H | exact (Option.bind_some _ _).symm.trans H
 have Ny379 := am hy379; clear hy379; have HC3 := am H; clear H; go_enter Try.func95, Try.ntmps95; go_upto_region 2 with (first | ((with_reducible refine gate_dst (N := 2) rfl ?_); (try (refine gate_guard (by rfl) ?_; dsimp only)); refine box_event ?hg (N := 2) ?hd (cs := #[.slice A0_0 l0_0.length c0_0]) (t := 28) ?hr ?_; (case hd => rfl); (case hg => rfl); (case hr => first | (go_simp; done) | (go_simp; rfl)); intro gb378 hg w4 hbox hb; have BK378 := am (hbox); have GW378 := am ((by rw [hg]; exact (below_size (by exact rB HB)) : w.heap.size ≤ gb378)); have GE378 := am ((by rw [hg]; exact (below_size (by exact rB HB)) : w.heap.size ≤ gb378)); replace HB := am (below_step (by exact rB HB) hb); have qW378 := Ge.mk GW378.out; have qE378 := Ge.mk GE378.out; clear hb hbox hg) | ((with_reducible refine gate_dst (N := 8) rfl ?_); (try (refine gate_guard (by rfl) ?_; dsimp only)); refine Kd.R_lit (Kd.int .i64) _ 3 ?hg (N := 8) ?hd (xs := ([] : List Int)) (inner := []) (ok := fun _ => True) (okp := fun _ => True) ?hr ?hp (fun _ hk => hk) trivial (Below.refl _ _) (Nat.le_refl _) (by simp) ?_; (case hd => rfl); (case hg => rfl); (case hr => first | (go_simp; done) | (go_simp; rfl)); (case hp => exact (Reps.none _ _)); intro v380 w5 ho6 hb hg_ hnew_; clear hg_ hnew_; (first | rw [← Ny379.out] at ho6 | (simp only [Int.reduceToNat] at ho6; rw [← Ny379.out] at ho6)); have HO381 := am (Kd.R_lower ho6 (below_size (by exact rB HB))); replace BK378 := am (blk_below (g := gb378) (o := .cells #[.slice A0_0 l0_0.length c0_0] 28 (0, 0)) (by exact rX BK378) hb); replace HB := am (below_step (by exact rB HB) hb); clear hb ho6)); (try simp only [Act.put, qa, qz, qs]); go_cut [19] (fun v19 wc => ∃ (kq : Nat) (x19_2 : Bool), v19 = .bool x19_2 ∧ Aside0 (spec_ApplyMorphism.j0 kq l1 y379 x19_2 l0_0 = some (r1, r2)) ∧ Aside0 (kq ≤ k) ∧ Aside0 (Kd.R (Kd.int .i64) 3 wc w.heap.size (fun _ => True) v380 y379) ∧ Aside0 (wc.heap[gb378]? = some (.cells #[(.slice A0_0 l0_0.length c0_0)] 28 (0, 0))) ∧ Aside0 (Below w.heap.size w wc))
 case first =>
  have H := HC3.out; clear HC3; replace H := Option.bind_eq_some_iff.mp H; obtain ⟨t382, A70, H⟩ := H; replace H : (if t382 = true then ((spec_IsWord.f k l1 (l0_0.length : Int)).bind fun t383 => (spec_ApplyMorphism.j0 k l1 y379 (!t383) l0_0)) else (spec_ApplyMorphism.j0 k l1 y379 true l0_0)) = some (r1, r2) := H; have A7 := am A70; clear A70; by_cases c8 : t382 = true
  ·subst c8; have H1 : ((spec_IsWord.f k l1 (l0_0.length : Int)).bind fun t383 => (spec_ApplyMorphism.j0 k l1 y379 (!t383) l0_0)) = some (r1, r2) := by rw [if_pos rfl] at H; exact H
   clear H; have H := H1; clear H1; replace H := Option.bind_eq_some_iff.mp H; obtain ⟨t383, A90, H⟩ := H; replace H : (spec_ApplyMorphism.j0 k l1 y379 (!t383) l0_0) = some (r1, r2) := H; have A9 := am A90; clear A90; have H' := am H; clear H; have hcz10_0 : w5.cell? ⟨gb378, 0, none⟩ = some (.slice A0_0 l0_0.length c0_0) := (blk_cell BK378.out 0).trans rfl; have hfz10_0 := blk_frozen BK378.out 0; go_wp2_with (first | ((with_reducible refine gate_callee (f := 109) rfl ?_); refine goesL_ (some 10) rfl rfl Try.func109 (by kernel_rfl) rfl #[.agg #[.slice A0_0 l0_0.length c0_0]] rfl (by (try simp only [mT, mC, mN]); first | done | rfl) ?_; (with_reducible refine (spec_IsMorphism.calls k _ _ l0_0 true _ ?side1 ?side2 A7.out).mono ?_); (case side1 => exact xC ((Kd.C_below HR0_0.out HB.out))); (case side2 => exact HC0_0.out); rintro e w11 ⟨rfl, hb⟩; refine ⟨_, rfl, ?_⟩; replace HO381 := am (Kd.R_below (by exact rR HO381) hb); replace BK378 := am (blk_below (g := gb378) (o := .cells #[.slice A0_0 l0_0.length c0_0] 28 (0, 0)) (by exact rX BK378) hb); replace HB := am (below_step (by exact rB HB) hb); clear hb; have hcz12_0 : w11.cell? ⟨gb378, 0, none⟩ = some (.slice A0_0 l0_0.length c0_0) := (blk_cell BK378.out 0).trans rfl; have hfz12_0 := blk_frozen BK378.out 0) | (go_at_call 129; (with_reducible refine (spec_IsWord.calls k _ _ l1 (l0_0.length : Int) t383 _ ?side1 ?side2 A9.out).mono ?_); (case side1 => exact xC ((Kd.C_below HR1.out HB.out))); (case side2 => exact HC1.out); rintro e w' ⟨rfl, ⟨nd, rfl⟩⟩)); go_meet
   case rel => exact ⟨_, (!t383), (by first | rfl | (simp; done) | (simp [*]; done)), H', ⟨by first | omega | exact Nat.le_refl _⟩, ⟨by exact rR HO381⟩, ⟨by exact rX BK378⟩, ⟨by exact rB HB⟩⟩
  ·replace c8 := Bool.eq_false_iff.mpr c8; subst c8; have H1 : (spec_ApplyMorphism.j0 k l1 y379 true l0_0) = some (r1, r2) := by rw [if_neg (show ¬ (false = true) by decide)] at H; exact H
   clear H; have H := H1; clear H1; have H' := am H; clear H; have hcz13_0 : w5.cell? ⟨gb378, 0, none⟩ = some (.slice A0_0 l0_0.length c0_0) := (blk_cell BK378.out 0).trans rfl; have hfz13_0 := blk_frozen BK378.out 0; go_wp2_with (first | ((with_reducible refine gate_callee (f := 109) rfl ?_); refine goesL_ (some 10) rfl rfl Try.func109 (by kernel_rfl) rfl #[.agg #[.slice A0_0 l0_0.length c0_0]] rfl (by (try simp only [mT, mC, mN]); first | done | rfl) ?_; (with_reducible refine (spec_IsMorphism.calls k _ _ l0_0 false _ ?side1 ?side2 A7.out).mono ?_); (case side1 => exact xC ((Kd.C_below HR0_0.out HB.out))); (case side2 => exact HC0_0.out); rintro e w14 ⟨rfl, hb⟩; refine ⟨_, rfl, ?_⟩; replace HO381 := am (Kd.R_below (by exact rR HO381) hb); replace BK378 := am (blk_below (g := gb378) (o := .cells #[.slice A0_0 l0_0.length c0_0] 28 (0, 0)) (by exact rX BK378) hb); replace HB := am (below_step (by exact rB HB) hb); clear hb)); go_meet
   case rel => exact ⟨_, (true), (by first | rfl | (simp; done) | (simp [*]; done)), H', ⟨by first | omega | exact Nat.le_refl _⟩, ⟨by exact rR HO381⟩, ⟨by exact rX BK378⟩, ⟨by exact rB HB⟩⟩
 case rest =>
  clear HC3
  try clear c1
  try clear p2
  try clear c8
  try clear c9
  try clear c10
  try clear hcz10_0
  try clear hcz12_0
  try clear hcz13_0
  try clear hfz10_0
  try clear hfz12_0
  try clear hfz13_0
  obtain ⟨kq, x19_2, rfl, HA, HJ2, HO_6, BK378, HB⟩ := hcut; cases kq with
  | zero => exact absurd HA.out (by simp [spec_ApplyMorphism.j0])
  | succ kj2 =>
   have H := HA.out; clear HA; simp only [spec_ApplyMorphism.j0] at H; by_cases c15 : x19_2 = true
   ·subst c15; have H1 : (some (y379, false)) = some (r1, r2) := by rw [if_pos rfl] at H; exact H
    clear H; have H := H1; clear H1; simp only [Option.some.injEq, Prod.mk.injEq] at H; obtain ⟨rfl, rfl⟩ := H; go_wp2; go_ret2; exact ⟨_, by first | rfl | (simp [errW_none, errW_some] <;> rfl) | (simp [*, errW_none, errW_some] <;> rfl), by exact rR HO_6, by exact rB HB⟩
   ·replace c15 := Bool.eq_false_iff.mpr c15; subst c15; have H1 : (spec_ApplyMorphism.l0 kj2 l1 y379 0 l0_0) = some (r1, r2) := by rw [if_neg (show ¬ (false = true) by decide)] at H; exact H
    clear H; have H := H1; clear H1; have H' := am H; clear H; go_wp2; go_loopg [6, 7] kj2 (fun kq v6 v7 w' => ∃ (x6_2 : List Int) (x7_2 : Int), v7 = .int .i64 x7_2 ∧ Aside0 (spec_ApplyMorphism.l0 kq l1 x6_2 x7_2 l0_0 = some (r1, r2)) ∧ Aside0 (kq ≤ kj2) ∧ Aside0 (Kd.R (Kd.int .i64) 3 w' w.heap.size (fun _ => True) v6 x6_2) ∧ Aside0 (w'.heap[gb378]? = some (.cells #[(.slice A0_0 l0_0.length c0_0)] 28 (0, 0))) ∧ Aside0 (Below w.heap.size w w'))
    case atStart => exact ⟨(y379), (0), (by first | rfl | (simp; done) | (simp [*]; done)), H', ⟨Nat.le_refl _⟩, ⟨by exact rR HO_6⟩, ⟨by exact rX BK378⟩, ⟨by exact rB HB⟩⟩
    case round =>
     clear H'
     try clear c1
     try clear p2
     try clear c8
     try clear c9
     try clear c10
     try clear c15
     try clear hcz10_0
     try clear hcz12_0
     try clear hcz13_0
     try clear hfz10_0
     try clear hfz12_0
     try clear hfz13_0
     try clear p2
     obtain ⟨x6_2, x7_2, rfl, HA, HK2, HO_6, BK378, HB⟩ := hrel; cases gk with
     | zero => exact absurd HA.out (by simp [spec_ApplyMorphism.l0])
     | succ k2 =>
      have H := HA.out; clear HA; simp only [spec_ApplyMorphism.l0] at H; by_cases c16 : x7_2 < (l1.length : Int)
      ·rw [if_pos c16] at H; have c16b0 : decide (x7_2 < (l1.length : Int)) = true := decide_eq_true c16; clear c16; by_cases c17 : 0 ≤ x7_2
       ·rw [if_pos c17] at H; have c17b0 : decide (0 ≤ x7_2) = true := decide_eq_true c17; clear c17; by_cases c18 : 0 ≤ (rd l1 x7_2)
        ·rw [if_pos c18] at H; have c18b0 : decide (0 ≤ (rd l1 x7_2)) = true := decide_eq_true c18; clear c18; by_cases c19 : (rd l1 x7_2) < (l0_0.length : Int)
         ·rw [if_pos c19] at H; have c19b0 : decide ((rd l1 x7_2) < (l0_0.length : Int)) = true := decide_eq_true c19; clear c19; by_cases c20 : x6_2.length + (rd_L1 l0_0 (rd l1 x7_2)).length < 17592186044416
          ·rw [if_pos c20] at H; have LMc20 := am c20; clear c20; obtain ⟨y386, hy386⟩ : ∃ y_ : List Int, y_ = (x6_2 ++ (rd_L1 l0_0 (rd l1 x7_2))) := ⟨_, rfl⟩; replace H : (if (y386.length : Int) > 400 then (some ((([] : List Int)), false)) else (spec_ApplyMorphism.l0 k2 l1 y386 (wrap64 (x7_2 + 1)) l0_0)) = some (r1, r2) := by rw [hy386]; first | exact H | exact (Option.bind_some _ _).symm.trans H
           have Ny386 := am hy386; clear hy386; by_cases c21 : (y386.length : Int) > 400
           ·rw [if_pos c21] at H; have c21b0 : decide (400 < (y386.length : Int)) = true := decide_eq_true c21; have c21b1 : decide (400 < y386.length) = true := decide_eq_true (by omega); clear c21; obtain ⟨y389, hy389⟩ : ∃ y_ : List Int, y_ = (([] : List Int)) := ⟨_, rfl⟩; replace H : (some (y389, false)) = some (r1, r2) := by rw [hy389]; first | exact H | exact (Option.bind_some _ _).symm.trans H
            have Ny389 := am hy389; clear hy389; simp only [Option.some.injEq, Prod.mk.injEq] at H; obtain ⟨rfl, rfl⟩ := H
            try go_wp2
            replace HO_6 := am (Kd.R_drew HO_6.out); replace BK378 := am (blk_drew BK378.out); replace HB := am (below_drew1 HB.out)
            have p384 : 0 ≤ (x7_2 : Int) := of_decide_eq_true (by first | (with_reducible assumption) | assumption); have q384 : x7_2 < (l1.length : Int) := of_decide_eq_true (by first | (with_reducible assumption) | assumption); obtain ⟨ad384, e384, hx384_0⟩ := Kd.at_int HR1.out x7_2 p384 q384; have hw384_0 := hx384_0; cases e384; replace hx384_0 := (HB.out.cell (World.block_lt_of_cell? w _ hx384_0)).trans hx384_0; replace p384 := eq_true p384; replace q384 := eq_true q384; have p385 : 0 ≤ ((rd l1 x7_2) : Int) := of_decide_eq_true (by first | (with_reducible assumption) | assumption); have q385 : (rd l1 x7_2) < (l0_0.length : Int) := of_decide_eq_true (by first | (with_reducible assumption) | assumption); obtain ⟨ad385, A385_0, c385_0, e385, hx385_0, hl385_0, hi385_0⟩ := at_L1 HR0_0.out (rd l1 x7_2) p385 q385; have hw385_0 := hx385_0; cases e385; replace hx385_0 := (HB.out.cell (World.block_lt_of_cell? w _ hx385_0)).trans hx385_0; have HR385_0 := am hi385_0; have HC385_0 := am hl385_0; clear hi385_0 hl385_0; replace p385 := eq_true p385; replace q385 := eq_true q385; refine start_ (n := 11) (S := fun w' => w'.cell? ⟨gb378, 0, none⟩ = some (.slice (some ad385) l0_0.length c0_0) ∧ w'.cell? (ad384.add (x7_2).toNat) = some (.int .i64 (rd l1 x7_2)) ∧ w'.cell? (ad385.add ((rd l1 x7_2)).toNat) = some (.slice A385_0 (rd_L1 l0_0 (rd l1 x7_2)).length c385_0)) (ds := []) #[false, false, false, false, false, false, false, false, false, false, false] (by kernel_rfl) rfl rfl ⟨(blk_cell BK378.out 0).trans rfl, ((HB.out.cell (World.block_lt_of_cell? w _ hw384_0)).trans hw384_0), ((HB.out.cell (World.block_lt_of_cell? w _ hw385_0)).trans hw385_0)⟩ (fun hHeld => ?_); refine with_tabW spec_ApplyMorphism.tab7 spec_ApplyMorphism.bits7 (fun HT_ HW_ => ?_); generalize wr.drew = w22 at HO_6 BK378 HB HR385_0 hx384_0 hx385_0 hHeld ⊢; refine pure_ (i := 0) (N := some 27) (v := ?_) (a' := ?_) (bA 11 1) rfl rfl (any_of HT_.out (by kernel_rfl)) (fun _ _ _ h => h) (Or.inl ⟨by rfl, ?_⟩) ?_ ?_; rotate_left; (intro w'; go_simp; (with_reducible rfl)); rotate_left; (simp only [Act.put, qa, qz, qs, i64_w, i32_w]; rfl); refine pure_ (i := 1) (N := some 28) (v := ?_) (a' := ?_) (bA 11 3) rfl rfl (any_of HT_.out (by kernel_rfl)) (fun _ _ _ h => h) (Or.inl ⟨by rfl, ?_⟩) ?_ ?_; rotate_left
            ·intro w'; go_simp; (with_reducible rfl)
            rotate_left; (simp only [Act.put, qa, qz, qs, i64_w, i32_w]; rfl); refine pure_ (i := 3) (N := some 30) (v := ?_) (a' := ?_) (bA 11 11) rfl rfl (any_of HT_.out (by kernel_rfl)) (fun _ _ _ h => h) (Or.inl ⟨by rfl, ?_⟩) ?_ ?_; rotate_left
            ·intro w'; go_simp; (with_reducible rfl)
            rotate_left; (simp only [Act.put, qa, qz, qs, i64_w, i32_w]; rfl); refine pure_ (i := 4) (N := some 31) (v := ?_) (a' := ?_) (bA 11 27) rfl rfl (any_of HT_.out (by kernel_rfl)) (fun _ _ _ h => h) (Or.inl ⟨by rfl, ?_⟩) ?_ ?_; rotate_left
            ·intro w'; go_simp; (with_reducible rfl)
            rotate_left; (simp only [Act.put, qa, qz, qs, i64_w, i32_w]; rfl); refine pure_ (i := 5) (N := some 32) (v := ?_) (a' := ?_) (bA 11 59) rfl rfl (any_of HT_.out (by kernel_rfl)) (fun _ _ _ h => h) (Or.inl ⟨by rfl, ?_⟩) ?_ ?_; rotate_left
            ·intro w'; go_simp; (with_reducible rfl)
            rotate_left; (simp only [Act.put, qa, qz, qs, i64_w, i32_w]; rfl); refine take_ (i := 2) (N := some 29) (v := ?_) (a' := ?_) (bA 11 63) rfl rfl (take_ofW HT_.out HW_.out (by kernel_rfl)) (fun _ _ _ h => h) (Or.inl ⟨by rfl, ?_⟩) hHeld ?_ ?_; rotate_left
            ·rintro w' ⟨s0, s1, s2⟩; go_simp; (with_reducible rfl)
            rotate_left; (simp only [Act.put, qa, qz, qs, i64_w, i32_w]; rfl); refine take_ (i := 6) (N := some 33) (v := ?_) (a' := ?_) (bA 11 127) rfl rfl (take_ofW HT_.out HW_.out (by kernel_rfl)) (fun _ _ _ h => h) (Or.inl ⟨by rfl, ?_⟩) hHeld ?_ ?_; rotate_left
            ·rintro w' ⟨s0, s1, s2⟩; go_simp; (with_reducible rfl)
            rotate_left; (simp only [Act.put, qa, qz, qs, i64_w, i32_w]; rfl); refine pure_ (i := 7) (N := some 34) (v := ?_) (a' := ?_) (bA 11 255) rfl rfl (any_of HT_.out (by kernel_rfl)) (fun _ _ _ h => h) (Or.inl ⟨by rfl, ?_⟩) ?_ ?_; rotate_left
            ·intro w'; go_simp; (with_reducible rfl)
            rotate_left; (simp only [Act.put, qa, qz, qs, i64_w, i32_w]; rfl); refine take_ (i := 8) (N := some 35) (v := ?_) (a' := ?_) (bA 11 511) rfl rfl (take_ofW HT_.out HW_.out (by kernel_rfl)) (fun _ _ _ h => h) (Or.inl ⟨by rfl, ?_⟩) hHeld ?_ ?_; rotate_left
            ·rintro w' ⟨s0, s1, s2⟩; go_simp; (with_reducible rfl)
            rotate_left; (simp only [Act.put, qa, qz, qs, i64_w, i32_w]; rfl); refine one_ (i := 9) (N := some 36) (bA 11 1023) rfl rfl (one_of HT_.out (by kernel_rfl)) (by decide) (fun K hK => ?_); refine Kd.R_append_rows_step (Kd.int .i64) (w0 := w) w.heap.size (by rfl) (.tmp 27) (.tmp 35) 36 3 (.int .i64 0) 8 rfl Try.underlying36 info3 rfl (by decide) (by omega) u6 x6_2 (rd_L1 l0_0 (rd l1 x7_2)) _ _ _ (fun _ => True) (fun _ => False) rfl rfl ?aO ?aR (fun _ _ h => h) (fun _ h => h.elim) ?aF ?aB ?aS ?aL ?_; (case aR => exact xC ((Kd.C_below HR385_0.out HB.out))); (case aB => exact (by exact rB HB)); (case aF => exact (fun _ _ => trivial)); (case aO => exact (by exact rR HO_6)); (case aS => exact (below_size (by exact rB HB))); (case aL => have := LMc20.out; omega); intro v387 w23 ho hb hg hat; rw [← Ny386.out] at ho; replace BK378 := am (blk_grown (g := gb378) (o := .cells #[.slice (some ad385) l0_0.length c0_0] 28 (0, 0)) (by exact rX BK378) hg (Kd.R_ne HO_6.out BK378.out (by decide))); replace HB := am (hb); have HO388 := am (ho); clear HO_6
            clear ho hb hg hat; refine hK.out _ _ ⟨(blk_cell BK378.out 0).trans rfl, ((HB.out.cell (World.block_lt_of_cell? w _ hw384_0)).trans hw384_0), ((HB.out.cell (World.block_lt_of_cell? w _ hw385_0)).trans hw385_0)⟩ (fun hHeld => ?_); clear hK K; refine norm_ (a' := ?_) ?_ ?_; rotate_left; (show Act.put _ (some 36) _ = _; simp only [Act.put, qa, qz, qs, i64_w, i32_w]; rfl); refine pure_ (i := 10) (N := some 6) (v := ?_) (a' := ?_) (bA 11 2047) rfl rfl (any_of HT_.out (by kernel_rfl)) (fun _ _ _ h => h) (Or.inl ⟨by rfl, ?_⟩) ?_ ?_; rotate_left
            ·intro w'; go_simp; (with_reducible rfl)
            rotate_left; (simp only [Act.put, qa, qz, qs, i64_w, i32_w]; rfl); refine done_ (done_of HT_.out (by kernel_rfl)) ?_; obtain ⟨Ao24, co24, eo24⟩ := Kd.R_slice HO388.out; subst eo24
            try go_wp2_with (first | ((with_reducible refine gate_dst (N := 40) rfl ?_); (try (refine gate_guard (by rfl) ?_; dsimp only)); refine Kd.R_lit (Kd.int .i64) _ 3 ?hg (N := 40) ?hd (xs := ([] : List Int)) (inner := []) (ok := fun _ => True) (okp := fun _ => True) ?hr ?hp (fun _ hk => hk) trivial (Below.refl _ _) (Nat.le_refl _) (by simp) ?_; (case hd => rfl); (case hg => rfl); (case hr => first | (go_simp; done) | (go_simp; rfl)); (case hp => exact (Reps.none _ _)); intro v390 w25 ho26 hb hg_ hnew_; clear hg_ hnew_; (first | rw [← Ny389.out] at ho26 | (simp only [Int.reduceToNat] at ho26; rw [← Ny389.out] at ho26)); have HO391 := am (Kd.R_lower (Kd.R_new' ho26 (Kd.R_lt (by exact rR HO388))) (below_size (by exact rB HB))); replace HO388 := am (Kd.R_elder' (by exact rR HO388) (Kd.R_base ho26) hb); replace BK378 := am (blk_below (g := gb378) (o := .cells #[.slice (some ad385) l0_0.length c0_0] 28 (0, 0)) (by exact rX BK378) hb); replace HB := am (below_step (by exact rB HB) hb); clear hb ho26))
            go_ret2; exact ⟨_, by first | rfl | (simp [errW_none, errW_some] <;> rfl) | (simp [*, errW_none, errW_some] <;> rfl), by exact xR (Kd.R_mono HO391.out (fun _ hk => trivial)), by exact rB HB⟩
           ·rw [if_neg c21] at H; have c21b0 : decide (400 < (y386.length : Int)) = false := decide_eq_false c21; have c21b1 : decide (400 < y386.length) = false := decide_eq_false (by omega); clear c21; have H' := am H; clear H
            try go_wp2
            replace HO_6 := am (Kd.R_drew HO_6.out); replace BK378 := am (blk_drew BK378.out); replace HB := am (below_drew1 HB.out)
            have p384 : 0 ≤ (x7_2 : Int) := of_decide_eq_true (by first | (with_reducible assumption) | assumption); have q384 : x7_2 < (l1.length : Int) := of_decide_eq_true (by first | (with_reducible assumption) | assumption); obtain ⟨ad384, e384, hx384_0⟩ := Kd.at_int HR1.out x7_2 p384 q384; have hw384_0 := hx384_0; cases e384; replace hx384_0 := (HB.out.cell (World.block_lt_of_cell? w _ hx384_0)).trans hx384_0; replace p384 := eq_true p384; replace q384 := eq_true q384; have p385 : 0 ≤ ((rd l1 x7_2) : Int) := of_decide_eq_true (by first | (with_reducible assumption) | assumption); have q385 : (rd l1 x7_2) < (l0_0.length : Int) := of_decide_eq_true (by first | (with_reducible assumption) | assumption); obtain ⟨ad385, A385_0, c385_0, e385, hx385_0, hl385_0, hi385_0⟩ := at_L1 HR0_0.out (rd l1 x7_2) p385 q385; have hw385_0 := hx385_0; cases e385; replace hx385_0 := (HB.out.cell (World.block_lt_of_cell? w _ hx385_0)).trans hx385_0; have HR385_0 := am hi385_0; have HC385_0 := am hl385_0; clear hi385_0 hl385_0; replace p385 := eq_true p385; replace q385 := eq_true q385; refine start_ (n := 11) (S := fun w' => w'.cell? ⟨gb378, 0, none⟩ = some (.slice (some ad385) l0_0.length c0_0) ∧ w'.cell? (ad384.add (x7_2).toNat) = some (.int .i64 (rd l1 x7_2)) ∧ w'.cell? (ad385.add ((rd l1 x7_2)).toNat) = some (.slice A385_0 (rd_L1 l0_0 (rd l1 x7_2)).length c385_0)) (ds := []) #[false, false, false, false, false, false, false, false, false, false, false] (by kernel_rfl) rfl rfl ⟨(blk_cell BK378.out 0).trans rfl, ((HB.out.cell (World.block_lt_of_cell? w _ hw384_0)).trans hw384_0), ((HB.out.cell (World.block_lt_of_cell? w _ hw385_0)).trans hw385_0)⟩ (fun hHeld => ?_); refine with_tabW spec_ApplyMorphism.tab7 spec_ApplyMorphism.bits7 (fun HT_ HW_ => ?_); generalize wr.drew = w27 at HO_6 BK378 HB HR385_0 hx384_0 hx385_0 hHeld ⊢; refine pure_ (i := 0) (N := some 27) (v := ?_) (a' := ?_) (bA 11 1) rfl rfl (any_of HT_.out (by kernel_rfl)) (fun _ _ _ h => h) (Or.inl ⟨by rfl, ?_⟩) ?_ ?_; rotate_left; (intro w'; go_simp; (with_reducible rfl)); rotate_left; (simp only [Act.put, qa, qz, qs, i64_w, i32_w]; rfl); refine pure_ (i := 1) (N := some 28) (v := ?_) (a' := ?_) (bA 11 3) rfl rfl (any_of HT_.out (by kernel_rfl)) (fun _ _ _ h => h) (Or.inl ⟨by rfl, ?_⟩) ?_ ?_; rotate_left
            ·intro w'; go_simp; (with_reducible rfl)
            rotate_left; (simp only [Act.put, qa, qz, qs, i64_w, i32_w]; rfl); refine pure_ (i := 3) (N := some 30) (v := ?_) (a' := ?_) (bA 11 11) rfl rfl (any_of HT_.out (by kernel_rfl)) (fun _ _ _ h => h) (Or.inl ⟨by rfl, ?_⟩) ?_ ?_; rotate_left
            ·intro w'; go_simp; (with_reducible rfl)
            rotate_left; (simp only [Act.put, qa, qz, qs, i64_w, i32_w]; rfl); refine pure_ (i := 4) (N := some 31) (v := ?_) (a' := ?_) (bA 11 27) rfl rfl (any_of HT_.out (by kernel_rfl)) (fun _ _ _ h => h) (Or.inl ⟨by rfl, ?_⟩) ?_ ?_; rotate_left
            ·intro w'; go_simp; (with_reducible rfl)
            rotate_left; (simp only [Act.put, qa, qz, qs, i64_w, i32_w]; rfl); refine pure_ (i := 5) (N := some 32) (v := ?_) (a' := ?_) (bA 11 59) rfl rfl (any_of HT_.out (by kernel_rfl)) (fun _ _ _ h => h) (Or.inl ⟨by rfl, ?_⟩) ?_ ?_; rotate_left
            ·intro w'; go_simp; (with_reducible rfl)
            rotate_left; (simp only [Act.put, qa, qz, qs, i64_w, i32_w]; rfl); refine take_ (i := 2) (N := some 29) (v := ?_) (a' := ?_) (bA 11 63) rfl rfl (take_ofW HT_.out HW_.out (by kernel_rfl)) (fun _ _ _ h => h) (Or.inl ⟨by rfl, ?_⟩) hHeld ?_ ?_; rotate_left
            ·rintro w' ⟨s0, s1, s2⟩; go_simp; (with_reducible rfl)
            rotate_left; (simp only [Act.put, qa, qz, qs, i64_w, i32_w]; rfl); refine take_ (i := 6) (N := some 33) (v := ?_) (a' := ?_) (bA 11 127) rfl rfl (take_ofW HT_.out HW_.out (by kernel_rfl)) (fun _ _ _ h => h) (Or.inl ⟨by rfl, ?_⟩) hHeld ?_ ?_; rotate_left
            ·rintro w' ⟨s0, s1, s2⟩; go_simp; (with_reducible rfl)
            rotate_left; (simp only [Act.put, qa, qz, qs, i64_w, i32_w]; rfl); refine pure_ (i := 7) (N := some 34) (v := ?_) (a' := ?_) (bA 11 255) rfl rfl (any_of HT_.out (by kernel_rfl)) (fun _ _ _ h => h) (Or.inl ⟨by rfl, ?_⟩) ?_ ?_; rotate_left
            ·intro w'; go_simp; (with_reducible rfl)
            rotate_left; (simp only [Act.put, qa, qz, qs, i64_w, i32_w]; rfl); refine take_ (i := 8) (N := some 35) (v := ?_) (a' := ?_) (bA 11 511) rfl rfl (take_ofW HT_.out HW_.out (by kernel_rfl)) (fun _ _ _ h => h) (Or.inl ⟨by rfl, ?_⟩) hHeld ?_ ?_; rotate_left
            ·rintro w' ⟨s0, s1, s2⟩; go_simp; (with_reducible rfl)
            rotate_left; (simp only [Act.put, qa, qz, qs, i64_w, i32_w]; rfl); refine one_ (i := 9) (N := some 36) (bA 11 1023) rfl rfl (one_of HT_.out (by kernel_rfl)) (by decide) (fun K hK => ?_); refine Kd.R_append_rows_step (Kd.int .i64) (w0 := w) w.heap.size (by rfl) (.tmp 27) (.tmp 35) 36 3 (.int .i64 0) 8 rfl Try.underlying36 info3 rfl (by decide) (by omega) u6 x6_2 (rd_L1 l0_0 (rd l1 x7_2)) _ _ _ (fun _ => True) (fun _ => False) rfl rfl ?aO ?aR (fun _ _ h => h) (fun _ h => h.elim) ?aF ?aB ?aS ?aL ?_; (case aR => exact xC ((Kd.C_below HR385_0.out HB.out))); (case aB => exact (by exact rB HB)); (case aF => exact (fun _ _ => trivial)); (case aO => exact (by exact rR HO_6)); (case aS => exact (below_size (by exact rB HB))); (case aL => have := LMc20.out; omega); intro v387 w28 ho hb hg hat; rw [← Ny386.out] at ho; replace BK378 := am (blk_grown (g := gb378) (o := .cells #[.slice (some ad385) l0_0.length c0_0] 28 (0, 0)) (by exact rX BK378) hg (Kd.R_ne HO_6.out BK378.out (by decide))); replace HB := am (hb); have HO388 := am (ho); clear HO_6
            clear ho hb hg hat; refine hK.out _ _ ⟨(blk_cell BK378.out 0).trans rfl, ((HB.out.cell (World.block_lt_of_cell? w _ hw384_0)).trans hw384_0), ((HB.out.cell (World.block_lt_of_cell? w _ hw385_0)).trans hw385_0)⟩ (fun hHeld => ?_); clear hK K; refine norm_ (a' := ?_) ?_ ?_; rotate_left; (show Act.put _ (some 36) _ = _; simp only [Act.put, qa, qz, qs, i64_w, i32_w]; rfl); refine pure_ (i := 10) (N := some 6) (v := ?_) (a' := ?_) (bA 11 2047) rfl rfl (any_of HT_.out (by kernel_rfl)) (fun _ _ _ h => h) (Or.inl ⟨by rfl, ?_⟩) ?_ ?_; rotate_left
            ·intro w'; go_simp; (with_reducible rfl)
            rotate_left; (simp only [Act.put, qa, qz, qs, i64_w, i32_w]; rfl); refine done_ (done_of HT_.out (by kernel_rfl)) ?_; obtain ⟨Ao29, co29, eo29⟩ := Kd.R_slice HO388.out; subst eo29
            try go_wp2
            go_roundg k2
            case measure => have := HJ2.out; have := HK2.out; omega
            case rel => exact ⟨(y386), (wrap64 (x7_2 + 1)), (by first | rfl | (simp; done) | (simp [*]; done)), H', ⟨by have := HJ2.out; have := HK2.out; omega⟩, ⟨by exact rR HO388⟩, ⟨by exact rX BK378⟩, ⟨by exact rB HB⟩⟩
          ·rw [if_neg c20] at H; exact absurd H (by simp)
         ·rw [if_neg c19] at H; exact absurd H (by simp)
        ·rw [if_neg c18] at H; exact absurd H (by simp)
       ·rw [if_neg c17] at H; exact absurd H (by simp)
      ·rw [if_neg c16] at H; have c16b0 : decide (x7_2 < (l1.length : Int)) = false := decide_eq_false c16; clear c16; simp only [Option.some.injEq, Prod.mk.injEq] at H; obtain ⟨rfl, rfl⟩ := H; go_wp2; go_ret2; exact ⟨_, by first | rfl | (simp [errW_none, errW_some] <;> rfl) | (simp [*, errW_none, errW_some] <;> rfl), by exact rR HO_6, by exact rB HB⟩
mutual
def spec_HasOverlap.l0 : Nat → List Int → Int → Option (Bool)
 | 0, _, _ => none
 | k + 1, x0, x3 => if x3 < (x0.length : Int) then (spec_HasOverlap.j1 k x0 x3 (decide ((x0.length : Int) ≤ 128))) else (spec_HasOverlap.j1 k x0 x3 false)
def spec_HasOverlap.j1 : Nat → List Int → Int → Bool → Option (Bool)
 | 0, _, _, _ => none
 | k + 1, x0, x3, x13 => if x13 = true then (spec_HasOverlap.l1 k x0 x3 1) else (some false)
def spec_HasOverlap.l1 : Nat → List Int → Int → Int → Option (Bool)
 | 0, _, _, _ => none
 | k + 1, x0, x3, x4 => if (wrap64 (x3 + (wrap64 (2 * x4)))) < (x0.length : Int) then ((spec_l10Match.f k x0 x3 x4).bind fun t398 => (if t398 > (wrap64 (2 * x4)) then (some true) else (spec_HasOverlap.l1 k x0 x3 (wrap64 (x4 + 1))))) else (spec_HasOverlap.l0 k x0 (wrap64 (x3 + 1)))
end
def spec_HasOverlap.f (k : Nat) (l0 : List Int) : Option (Bool) := spec_HasOverlap.l0 k l0 0
theorem spec_HasOverlap.mono_l : ∀ k, (∀ y0 y1, LeO (spec_HasOverlap.l0 k y0 y1) (spec_HasOverlap.l0 (k + 1) y0 y1)) ∧ (∀ y0 y1 y2, LeO (spec_HasOverlap.j1 k y0 y1 y2) (spec_HasOverlap.j1 (k + 1) y0 y1 y2)) ∧ (∀ y0 y1 y2, LeO (spec_HasOverlap.l1 k y0 y1 y2) (spec_HasOverlap.l1 (k + 1) y0 y1 y2))
 | 0 => ⟨fun _ _ r h => by simp [spec_HasOverlap.l0] at h, fun _ _ _ r h => by simp [spec_HasOverlap.j1] at h, fun _ _ _ r h => by simp [spec_HasOverlap.l1] at h⟩
 | k + 1 => by
  obtain ⟨ih0, ih1, ih2⟩ := spec_HasOverlap.mono_l k; refine ⟨?_, ?_, ?_⟩
  ·intro y0 y1; unfold spec_HasOverlap.l0
   repeat' first
   | (with_reducible exact ih0 _ _)
   | (with_reducible exact ih1 _ _ _)
   | (with_reducible exact ih2 _ _ _)
   | (with_reducible exact spec_l10Match.mono _ _ _ _)
   | (with_reducible exact LeO.refl _)
   | (with_reducible exact LeO.none _)
   | (with_reducible refine LeO.ite ?_ ?_)
   | (with_reducible refine LeO.bind ?_ (fun _ => ?_))
  ·intro y0 y1 y2; unfold spec_HasOverlap.j1
   repeat' first
   | (with_reducible exact ih0 _ _)
   | (with_reducible exact ih1 _ _ _)
   | (with_reducible exact ih2 _ _ _)
   | (with_reducible exact spec_l10Match.mono _ _ _ _)
   | (with_reducible exact LeO.refl _)
   | (with_reducible exact LeO.none _)
   | (with_reducible refine LeO.ite ?_ ?_)
   | (with_reducible refine LeO.bind ?_ (fun _ => ?_))
  ·intro y0 y1 y2; unfold spec_HasOverlap.l1
   repeat' first
   | (with_reducible exact ih0 _ _)
   | (with_reducible exact ih1 _ _ _)
   | (with_reducible exact ih2 _ _ _)
   | (with_reducible exact spec_l10Match.mono _ _ _ _)
   | (with_reducible exact LeO.refl _)
   | (with_reducible exact LeO.none _)
   | (with_reducible refine LeO.ite ?_ ?_)
   | (with_reducible refine LeO.bind ?_ (fun _ => ?_))
theorem spec_HasOverlap.mono : ∀ a0 k, LeO (spec_HasOverlap.f k a0) (spec_HasOverlap.f (k + 1) a0) := by
 intro a0 k; obtain ⟨ih0, ih1, ih2⟩ := spec_HasOverlap.mono_l k; unfold spec_HasOverlap.f
 repeat' first
   | (with_reducible exact ih0 _ _)
   | (with_reducible exact ih1 _ _ _)
   | (with_reducible exact ih2 _ _ _)
   | (with_reducible exact spec_l10Match.mono _ _ _ _)
   | (with_reducible exact LeO.refl _)
   | (with_reducible exact LeO.none _)
   | (with_reducible refine LeO.ite ?_ ?_)
   | (with_reducible refine LeO.bind ?_ (fun _ => ?_))
set_option maxHeartbeats 8000000 in
set_option maxRecDepth 100000 in
theorem spec_HasOverlap.calls (k : Nat) (A0 : Option Addr) (c0 : Nat) (l0 : List Int) (r : Bool) (w : World) (hr0 : Kd.C (Kd.int .i64) w A0 l0.length l0) (hc0 : l0.length ≤ c0) (h : spec_HasOverlap.f k l0 = some r) :
  Calls Try.prog 117 #[.slice A0 l0.length c0] w fun e w' => e = .returned (.bool r) ∧ Below w.heap.size w w' := by
 have HR0 := am hr0; have HC0 := am hc0; clear hr0 hc0; have HB := am (Below.refl w.heap.size w); have H : (spec_HasOverlap.l0 k l0 0) = some r := h; clear h; have H' := am H; clear H; go_enter Try.func117, Try.ntmps117; go_wp2; go_loopg [3] k (fun kq v3 w' => ∃ (x3_1 : Int), v3 = .int .i64 x3_1 ∧ Aside0 (spec_HasOverlap.l0 kq l0 x3_1 = some r) ∧ Aside0 (kq ≤ k) ∧ Aside0 (Below w.heap.size w w'))
 case atStart => exact ⟨(0), (by first | rfl | (simp; done) | (simp [*]; done)), H', ⟨Nat.le_refl _⟩, ⟨by exact rB HB⟩⟩
 case round =>
  clear H'
  try clear c1
  obtain ⟨x3_1, rfl, HA, HK1, HB⟩ := hrel; cases gk with
  | zero => exact absurd HA.out (by simp [spec_HasOverlap.l0])
  | succ k1 =>
   have H := HA.out; clear HA; simp only [spec_HasOverlap.l0] at H; have HC2 := am H; clear H; go_upto_region 2 with (fail); go_cut [13] (fun v13 wc => ∃ (kq : Nat) (x13_1 : Bool), v13 = .bool x13_1 ∧ Aside0 (spec_HasOverlap.j1 kq l0 x3_1 x13_1 = some r) ∧ Aside0 (kq ≤ k1) ∧ Aside0 (Below w.heap.size w wc))
   case first =>
    have H := HC2.out; clear HC2; by_cases c3 : x3_1 < (l0.length : Int)
    ·rw [if_pos c3] at H; have c3b0 : decide (x3_1 < (l0.length : Int)) = true := decide_eq_true c3; clear c3
     (first | rw [c3b0] | (simp only [i64_w, i32_w]; rw [c3b0]) | skip)
     have H' := am H; clear H; go_wp2; go_meet
     case rel => exact ⟨_, (decide ((l0.length : Int) ≤ 128)), (by first | rfl | (simp; done) | (simp [*]; done)), H', ⟨by have := HK1.out; first | omega | exact Nat.le_refl _⟩, ⟨by exact rB HB⟩⟩
    ·rw [if_neg c3] at H; have c3b0 : decide (x3_1 < (l0.length : Int)) = false := decide_eq_false c3; clear c3
     (first | rw [c3b0] | (simp only [i64_w, i32_w]; rw [c3b0]) | skip)
     have H' := am H; clear H; go_wp2; go_meet
     case rel => exact ⟨_, (false), (by first | rfl | (simp; done) | (simp [*]; done)), H', ⟨by have := HK1.out; first | omega | exact Nat.le_refl _⟩, ⟨by exact rB HB⟩⟩
   case rest =>
    clear HC2
    try clear c1
    try clear p2
    try clear c3
    try clear c3b0
    obtain ⟨kq, x13_1, rfl, HA, HJ1, HB⟩ := hcut; cases kq with
    | zero => exact absurd HA.out (by simp [spec_HasOverlap.j1])
    | succ kj1 =>
     have H := HA.out; clear HA; simp only [spec_HasOverlap.j1] at H; by_cases c4 : x13_1 = true
     ·subst c4; have H1 : (spec_HasOverlap.l1 kj1 l0 x3_1 1) = some r := by rw [if_pos rfl] at H; exact H
      clear H; have H := H1; clear H1; have H' := am H; clear H; go_wp2; go_loopg [4] kj1 (fun kq v4 w' => ∃ (x4_3 : Int), v4 = .int .i64 x4_3 ∧ Aside0 (spec_HasOverlap.l1 kq l0 x3_1 x4_3 = some r) ∧ Aside0 (kq ≤ kj1) ∧ Aside0 (Below w.heap.size w w'))
      case atStart => exact ⟨(1), (by first | rfl | (simp; done) | (simp [*]; done)), H', ⟨Nat.le_refl _⟩, ⟨by exact rB HB⟩⟩
      case round =>
       clear H'
       try clear c1
       try clear p2
       try clear c3
       try clear c3b0
       try clear c4
       try clear p2
       obtain ⟨x4_3, rfl, HA, HK3, HB⟩ := hrel; cases gk with
       | zero => exact absurd HA.out (by simp [spec_HasOverlap.l1])
       | succ k3 =>
        have H := HA.out; clear HA; simp only [spec_HasOverlap.l1] at H; by_cases c5 : (wrap64 (x3_1 + (wrap64 (2 * x4_3)))) < (l0.length : Int)
        ·rw [if_pos c5] at H; have c5b0 : decide ((wrap64 (x3_1 + (wrap64 (2 * x4_3)))) < (l0.length : Int)) = true := decide_eq_true c5; clear c5; replace H := Option.bind_eq_some_iff.mp H; obtain ⟨t398, A60, H⟩ := H; replace H : (if t398 > (wrap64 (2 * x4_3)) then (some true) else (spec_HasOverlap.l1 k3 l0 x3_1 (wrap64 (x4_3 + 1)))) = some r := H; have A6 := am A60; clear A60; by_cases c7 : t398 > (wrap64 (2 * x4_3))
         ·rw [if_pos c7] at H; have c7b0 : decide ((wrap64 (2 * x4_3)) < t398) = true := decide_eq_true c7; clear c7; obtain rfl := Option.some.inj H; go_wp2_with (first | ((with_reducible refine gate_callee (f := 162) rfl ?_); refine goesL_ (some 28) rfl rfl Try.func162 (by kernel_rfl) rfl #[.slice A0 l0.length c0, .int .i64 x3_1, .int .i64 x4_3] rfl (by (try simp only [mT, mC, mN]); first | done | rfl) ?_; (with_reducible refine (spec_l10Match.calls k3 _ _ l0 x3_1 x4_3 t398 _ ?side1 ?side2 A6.out).mono ?_); (case side1 => exact xC ((Kd.C_below HR0.out HB.out))); (case side2 => exact HC0.out); rintro e w8 ⟨rfl, hb⟩; refine ⟨_, rfl, ?_⟩; replace HB := am (below_step (by exact rB HB) hb); clear hb)); go_ret; exact ⟨by first | rfl | (simp [errW_none, errW_some] <;> rfl) | (simp [*, errW_none, errW_some] <;> rfl), by exact rB HB⟩
         ·rw [if_neg c7] at H; have c7b0 : decide ((wrap64 (2 * x4_3)) < t398) = false := decide_eq_false c7; clear c7; have H' := am H; clear H; go_wp2_with (first | ((with_reducible refine gate_callee (f := 162) rfl ?_); refine goesL_ (some 28) rfl rfl Try.func162 (by kernel_rfl) rfl #[.slice A0 l0.length c0, .int .i64 x3_1, .int .i64 x4_3] rfl (by (try simp only [mT, mC, mN]); first | done | rfl) ?_; (with_reducible refine (spec_l10Match.calls k3 _ _ l0 x3_1 x4_3 t398 _ ?side1 ?side2 A6.out).mono ?_); (case side1 => exact xC ((Kd.C_below HR0.out HB.out))); (case side2 => exact HC0.out); rintro e w9 ⟨rfl, hb⟩; refine ⟨_, rfl, ?_⟩; replace HB := am (below_step (by exact rB HB) hb); clear hb)); go_roundg k3
          case measure => have := HK1.out; have := HJ1.out; have := HK3.out; omega
          case rel => exact ⟨(wrap64 (x4_3 + 1)), (by first | rfl | (simp; done) | (simp [*]; done)), H', ⟨by have := HK1.out; have := HJ1.out; have := HK3.out; omega⟩, ⟨by exact rB HB⟩⟩
        ·rw [if_neg c5] at H; have c5b0 : decide ((wrap64 (x3_1 + (wrap64 (2 * x4_3)))) < (l0.length : Int)) = false := decide_eq_false c5; clear c5; have H' := am H; clear H; go_wp2; go_roundg k3
         case measure => have := HK1.out; have := HJ1.out; have := HK3.out; omega
         case rel => exact ⟨(wrap64 (x3_1 + 1)), (by first | rfl | (simp; done) | (simp [*]; done)), H', ⟨by have := HK1.out; have := HJ1.out; have := HK3.out; omega⟩, ⟨by exact rB HB⟩⟩
     ·replace c4 := Bool.eq_false_iff.mpr c4; subst c4; have H1 : (some false) = some r := by rw [if_neg (show ¬ (false = true) by decide)] at H; exact H
      clear H; have H := H1; clear H1; obtain rfl := Option.some.inj H; go_wp2; go_ret; exact ⟨by first | rfl | (simp [errW_none, errW_some] <;> rfl) | (simp [*, errW_none, errW_some] <;> rfl), by exact rB HB⟩
mutual
def spec_l29Words.l0 : Nat → Int → Int → Bool → List (List Int) → Int → Option ((List (List Int)))
 | 0, _, _, _, _, _ => none
 | k + 1, x0, x1, x2, x7, x8 => if x8 < x1 then (spec_l29Words.l1 k x0 x1 x2 x7 x8 (([] : List (List Int))) 0) else (some x7)
def spec_l29Words.l1 : Nat → Int → Int → Bool → List (List Int) → Int → List (List Int) → Int → Option ((List (List Int)))
 | 0, _, _, _, _, _, _, _ => none
 | k + 1, x0, x1, x2, x7, x8, x9, x10 => if x10 < (x7.length : Int) then (spec_l29Words.l2 k x0 x1 x2 x7 x8 x9 x10 0) else (spec_l29Words.l0 k x0 x1 x2 x9 (wrap64 (x8 + 1)))
def spec_l29Words.l2 : Nat → Int → Int → Bool → List (List Int) → Int → List (List Int) → Int → Int → Option ((List (List Int)))
 | 0, _, _, _, _, _, _, _, _ => none
 | k + 1, x0, x1, x2, x7, x8, x9, x10, x11 => if x11 < x0 then ((some (([] : List Int) : List Int)).bind fun y408 => (if 0 ≤ x10 then (if x10 < (x7.length : Int) then (if y408.length + (rd_L1 x7 x10).length < 17592186044416 then ((some (y408 ++ (rd_L1 x7 x10) : List Int)).bind fun y412 => (if y412.length < 17592186044416 then ((some (y412 ++ [x11] : List Int)).bind fun y415 => (if x2 = true then ((spec_HasOverlap.f k y415).bind fun t418 => (if t418 = true then (spec_l29Words.l2 k x0 x1 x2 x7 x8 x9 x10 (wrap64 (x11 + 1))) else (if x9.length < 5864062014805 then (spec_l29Words.l2 k x0 x1 x2 x7 x8 (x9 ++ [y415]) x10 (wrap64 (x11 + 1))) else (none)))) else ((spec_HasSquare.f k y415).bind fun t422 => (if t422 = true then (spec_l29Words.l2 k x0 x1 x2 x7 x8 x9 x10 (wrap64 (x11 + 1))) else (if x9.length < 5864062014805 then (spec_l29Words.l2 k x0 x1 x2 x7 x8 (x9 ++ [y415]) x10 (wrap64 (x11 + 1))) else (none)))))) else (none))) else (none)) else (none)) else (none))) else (spec_l29Words.l1 k x0 x1 x2 x7 x8 x9 (wrap64 (x10 + 1)))
end
def spec_l29Words.f (k : Nat) (a0 : Int) (a1 : Int) (a2 : Bool) : Option ((List (List Int))) := spec_l29Words.l0 k a0 a1 a2 (([(([] : List Int))] : List (List Int))) 0
theorem spec_l29Words.mono_l : ∀ k, (∀ y0 y1 y2 y3 y4, LeO (spec_l29Words.l0 k y0 y1 y2 y3 y4) (spec_l29Words.l0 (k + 1) y0 y1 y2 y3 y4)) ∧ (∀ y0 y1 y2 y3 y4 y5 y6, LeO (spec_l29Words.l1 k y0 y1 y2 y3 y4 y5 y6) (spec_l29Words.l1 (k + 1) y0 y1 y2 y3 y4 y5 y6)) ∧ (∀ y0 y1 y2 y3 y4 y5 y6 y7, LeO (spec_l29Words.l2 k y0 y1 y2 y3 y4 y5 y6 y7) (spec_l29Words.l2 (k + 1) y0 y1 y2 y3 y4 y5 y6 y7))
 | 0 => ⟨fun _ _ _ _ _ r h => by simp [spec_l29Words.l0] at h, fun _ _ _ _ _ _ _ r h => by simp [spec_l29Words.l1] at h, fun _ _ _ _ _ _ _ _ r h => by simp [spec_l29Words.l2] at h⟩
 | k + 1 => by
  obtain ⟨ih0, ih1, ih2⟩ := spec_l29Words.mono_l k; refine ⟨?_, ?_, ?_⟩
  ·intro y0 y1 y2 y3 y4; unfold spec_l29Words.l0
   repeat' first
   | (with_reducible exact ih0 _ _ _ _ _)
   | (with_reducible exact ih1 _ _ _ _ _ _ _)
   | (with_reducible exact ih2 _ _ _ _ _ _ _ _)
   | (with_reducible exact spec_HasOverlap.mono _ _)
   | (with_reducible exact spec_HasSquare.mono _ _)
   | (with_reducible exact LeO.refl _)
   | (with_reducible exact LeO.none _)
   | (with_reducible refine LeO.ite ?_ ?_)
   | (with_reducible refine LeO.bind ?_ (fun _ => ?_))
  ·intro y0 y1 y2 y3 y4 y5 y6; unfold spec_l29Words.l1
   repeat' first
   | (with_reducible exact ih0 _ _ _ _ _)
   | (with_reducible exact ih1 _ _ _ _ _ _ _)
   | (with_reducible exact ih2 _ _ _ _ _ _ _ _)
   | (with_reducible exact spec_HasOverlap.mono _ _)
   | (with_reducible exact spec_HasSquare.mono _ _)
   | (with_reducible exact LeO.refl _)
   | (with_reducible exact LeO.none _)
   | (with_reducible refine LeO.ite ?_ ?_)
   | (with_reducible refine LeO.bind ?_ (fun _ => ?_))
  ·intro y0 y1 y2 y3 y4 y5 y6 y7; unfold spec_l29Words.l2
   repeat' first
   | (with_reducible exact ih0 _ _ _ _ _)
   | (with_reducible exact ih1 _ _ _ _ _ _ _)
   | (with_reducible exact ih2 _ _ _ _ _ _ _ _)
   | (with_reducible exact spec_HasOverlap.mono _ _)
   | (with_reducible exact spec_HasSquare.mono _ _)
   | (with_reducible exact LeO.refl _)
   | (with_reducible exact LeO.none _)
   | (with_reducible refine LeO.ite ?_ ?_)
   | (with_reducible refine LeO.bind ?_ (fun _ => ?_))
theorem spec_l29Words.mono : ∀ a0 a1 a2 k, LeO (spec_l29Words.f k a0 a1 a2) (spec_l29Words.f (k + 1) a0 a1 a2) := by
 intro a0 a1 a2 k; obtain ⟨ih0, ih1, ih2⟩ := spec_l29Words.mono_l k; unfold spec_l29Words.f
 repeat' first
   | (with_reducible exact ih0 _ _ _ _ _)
   | (with_reducible exact ih1 _ _ _ _ _ _ _)
   | (with_reducible exact ih2 _ _ _ _ _ _ _ _)
   | (with_reducible exact spec_HasOverlap.mono _ _)
   | (with_reducible exact spec_HasSquare.mono _ _)
   | (with_reducible exact LeO.refl _)
   | (with_reducible exact LeO.none _)
   | (with_reducible refine LeO.ite ?_ ?_)
   | (with_reducible refine LeO.bind ?_ (fun _ => ?_))
set_option maxHeartbeats 8000000 in
set_option maxRecDepth 100000 in
theorem spec_l29Words.calls (k : Nat) (a0 : Int) (a1 : Int) (a2 : Bool) (r : List (List Int)) (w : World) (h : spec_l29Words.f k a0 a1 a2 = some r) :
  Calls Try.prog 116 #[.int .i64 a0, .int .i64 a1, .bool a2] w fun e w' => ∃ v0_ : Value, e = .returned (v0_) ∧ Kd.N (Kd.slice 3 (Kd.int .i64)) 36 w' w.heap.size (fun k_ => (w.heap.size ≤ k_)) v0_ r ∧ Below w.heap.size w w' := by
 have HB := am (Below.refl w.heap.size w); have H : (spec_l29Words.l0 k a0 a1 a2 (([(([] : List Int))] : List (List Int))) 0) = some r := h; clear h; obtain ⟨y399, hy399⟩ : ∃ y_ : List Int, y_ = (([] : List Int)) := ⟨_, rfl⟩; replace H : (spec_l29Words.l0 k a0 a1 a2 (([y399] : List (List Int))) 0) = some r := by rw [hy399]; first | exact H | exact (Option.bind_some _ _).symm.trans H
 have Ny399 := am hy399; clear hy399; obtain ⟨y402, hy402⟩ : ∃ y_ : List (List Int), y_ = (([y399] : List (List Int))) := ⟨_, rfl⟩; replace H : (spec_l29Words.l0 k a0 a1 a2 y402 0) = some r := by rw [hy402]; first | exact H | exact (Option.bind_some _ _).symm.trans H
 have Ny402 := am hy402; clear hy402; have H' := am H; clear H; go_enter Try.func116, Try.ntmps116; go_wp2_with (first | ((with_reducible refine gate_dst (N := 13) rfl ?_); refine Kd.R_lit (Kd.int .i64) _ 3 ?hg (N := 13) ?hd (xs := ([] : List Int)) (inner := []) (ok := fun _ => True) (okp := fun _ => True) ?hr ?hp (fun _ hk => hk) trivial (Below.refl _ _) (Nat.le_refl _) (by simp) ?_; (case hd => rfl); (case hg => rfl); (case hr => first | (go_simp; done) | (go_simp; rfl)); (case hp => exact (Reps.none _ _)); intro v400 w4 ho5 hb hg_ hnew_; clear hg_ hnew_; (first | rw [← Ny399.out] at ho5 | (simp only [Int.reduceToNat] at ho5; rw [← Ny399.out] at ho5)); have HO401 := am (Kd.R_lower (Kd.R_newM (M := fun k_ => (w.heap.size ≤ k_)) ho5 (below_size (by exact rB HB)) (fun k_ h_ => h_)) (below_size (by exact rB HB))); replace HB := am (below_step (by exact rB HB) hb); clear hb ho5; obtain ⟨Ao6, co6, eo6⟩ := Kd.R_slice HO401.out; subst eo6) | ((with_reducible refine gate_dst (N := 14) rfl ?_); refine Kd.N_lit (Kd.slice 3 (Kd.int .i64)) _ 36 ?hg (N' := 14) ?hd (xs := ([y399] : List (List Int))) (inner := [.slice Ao6 y399.length co6]) (ok := (fun k_ => (w.heap.size ≤ k_))) (okp := (fun k_ => (w.heap.size ≤ k_))) ?hr ?hp (fun _ hk => hk) ((show ∀ k_, w4.heap.size ≤ k_ → (fun k_ => (w.heap.size ≤ k_)) k_ from fun k_ hk => (Nat.le_trans (below_size (by exact rB HB)) hk)) _ (Nat.le_refl _)) (Below.refl _ _) (Nat.le_refl _) (by simp) ?_; (case hd => rfl); (case hg => rfl); (case hr => first | (go_simp; done) | (go_simp; rfl)); (case hp => exact (Reps.one (show Kd.FK (Kd.slice 3 (Kd.int .i64)) _ _ y399 [.slice Ao6 y399.length co6] from (Kd.FK_slice_mk (Kd.R_reads' (Kd.R_mono (ok' := (fun k_ => (w.heap.size ≤ k_))) (HO401.out) (fun k_ hk => hk.1))).2.1 (Kd.R_F (Kd.R_mono (ok' := (fun k_ => (w.heap.size ≤ k_))) (HO401.out) (fun k_ hk => hk.1))))) (Reps.none _ _))); intro v403 w7 ho8 hb hg_ hnew_; clear hg_ hnew_; (first | rw [← Ny402.out] at ho8 | (simp only [Int.reduceToNat] at ho8; rw [← Ny402.out] at ho8)); have HO404 := am (Kd.N_lower ho8 (below_size (by exact rB HB))); replace HB := am (below_step (by exact rB HB) hb); clear HO401; clear hb ho8)); go_loopg [7, 8] k (fun kq v7 v8 w' => ∃ (x7_1 : List (List Int)) (x8_1 : Int), v8 = .int .i64 x8_1 ∧ Aside0 (spec_l29Words.l0 kq a0 a1 a2 x7_1 x8_1 = some r) ∧ Aside0 (kq ≤ k) ∧ Aside0 (Kd.N (Kd.slice 3 (Kd.int .i64)) 36 w' w.heap.size (fun k_ => (w.heap.size ≤ k_)) v7 x7_1) ∧ Aside0 (Below w.heap.size w w'))
 case atStart => exact ⟨(y402), (0), (by first | rfl | (simp; done) | (simp [*]; done)), H', ⟨Nat.le_refl _⟩, ⟨by exact rN HO404⟩, ⟨by exact rB HB⟩⟩
 case round =>
  clear H'
  try clear c1
  try clear p2
  obtain ⟨x7_1, x8_1, rfl, HA, HK1, HO_7, HB⟩ := hrel; cases gk with
  | zero => exact absurd HA.out (by simp [spec_l29Words.l0])
  | succ k1 =>
   have H := HA.out; clear HA; simp only [spec_l29Words.l0] at H; by_cases c9 : x8_1 < a1
   ·rw [if_pos c9] at H; have c9b0 : decide (x8_1 < a1) = true := decide_eq_true c9; clear c9; obtain ⟨y405, hy405⟩ : ∃ y_ : List (List Int), y_ = (([] : List (List Int))) := ⟨_, rfl⟩; replace H : (spec_l29Words.l1 k1 a0 a1 a2 x7_1 x8_1 y405 0) = some r := by rw [hy405]; first | exact H | exact (Option.bind_some _ _).symm.trans H
    have Ny405 := am hy405; clear hy405; have H' := am H; clear H; go_wp2_with (first | ((with_reducible refine gate_dst (N := 20) rfl ?_); refine Kd.N_lit (Kd.slice 3 (Kd.int .i64)) _ 36 ?hg (N' := 20) ?hd (xs := ([] : List (List Int))) (inner := []) (ok := (fun k_ => (w.heap.size ≤ k_) ∧ some k_ ≠ (u7 : Value).ownBlock)) (okp := (fun k_ => (w.heap.size ≤ k_) ∧ some k_ ≠ (u7 : Value).ownBlock)) ?hr ?hp (fun _ hk => hk) ((show ∀ k_, wr.heap.size ≤ k_ → (fun k_ => (w.heap.size ≤ k_) ∧ some k_ ≠ (u7 : Value).ownBlock) k_ from fun k_ hk => ⟨(Nat.le_trans (below_size (by exact rB HB)) hk), Kd.fresh' (Kd.N_lt (by exact rN HO_7)) k_ hk⟩) _ (Nat.le_refl _)) (Below.refl _ _) (Nat.le_refl _) (by simp) ?_; (case hd => rfl); (case hg => rfl); (case hr => first | (go_simp; done) | (go_simp; rfl)); (case hp => exact (Reps.none _ _)); intro v406 w10 ho11 hb hg_ hnew_; clear hg_ hnew_; (first | rw [← Ny405.out] at ho11 | (simp only [Int.reduceToNat] at ho11; rw [← Ny405.out] at ho11)); replace HO_7 := am (Kd.N_elder' (by exact rN HO_7) (Kd.N_base ho11) hb); have HO407 := am (Kd.N_lower ho11 (below_size (by exact rB HB))); replace HB := am (below_step (by exact rB HB) hb); clear hb ho11)); go_loopg [9, 10] k1 (fun kq v9 v10 w' => ∃ (x9_2 : List (List Int)) (x10_2 : Int), v10 = .int .i64 x10_2 ∧ Aside0 (spec_l29Words.l1 kq a0 a1 a2 x7_1 x8_1 x9_2 x10_2 = some r) ∧ Aside0 (kq ≤ k1) ∧ Aside0 (Kd.N (Kd.slice 3 (Kd.int .i64)) 36 w' w.heap.size (fun k_ => (w.heap.size ≤ k_) ∧ some k_ ≠ (v9 : Value).ownBlock) u7 x7_1) ∧ Aside0 (Kd.N (Kd.slice 3 (Kd.int .i64)) 36 w' w.heap.size (fun k_ => (w.heap.size ≤ k_) ∧ some k_ ≠ (u7 : Value).ownBlock) v9 x9_2) ∧ Aside0 (Below w.heap.size w w'))
    case atStart => exact ⟨(y405), (0), (by first | rfl | (simp; done) | (simp [*]; done)), H', ⟨Nat.le_refl _⟩, ⟨by exact rN HO_7⟩, ⟨by exact rN HO407⟩, ⟨by exact rB HB⟩⟩
    case round =>
     clear H'
     try clear c1
     try clear p2
     try clear c9
     try clear c9b0
     try clear c11
     try clear p2
     obtain ⟨x9_2, x10_2, rfl, HA, HK2, HO_7, HO_9, HB⟩ := hrel; cases gk with
     | zero => exact absurd HA.out (by simp [spec_l29Words.l1])
     | succ k2 =>
      have H := HA.out; clear HA; simp only [spec_l29Words.l1] at H; by_cases c12 : x10_2 < (x7_1.length : Int)
      ·rw [if_pos c12] at H; have c12b0 : decide (x10_2 < (x7_1.length : Int)) = true := decide_eq_true c12; clear c12; have H' := am H; clear H; obtain ⟨Ao13, co13, eo13⟩ := Kd.N_slice HO_7.out; subst eo13; go_wp2; go_loopg [9, 11] k2 (fun kq v9 v11 w' => ∃ (x9_3 : List (List Int)) (x11_3 : Int), v11 = .int .i64 x11_3 ∧ Aside0 (spec_l29Words.l2 kq a0 a1 a2 x7_1 x8_1 x9_3 x10_2 x11_3 = some r) ∧ Aside0 (kq ≤ k2) ∧ Aside0 (Kd.N (Kd.slice 3 (Kd.int .i64)) 36 w' w.heap.size (fun k_ => (w.heap.size ≤ k_) ∧ some k_ ≠ (v9 : Value).ownBlock) (.slice Ao13 x7_1.length co13) x7_1) ∧ Aside0 (Kd.N (Kd.slice 3 (Kd.int .i64)) 36 w' w.heap.size (fun k_ => (w.heap.size ≤ k_) ∧ some k_ ≠ ((.slice Ao13 x7_1.length co13) : Value).ownBlock) v9 x9_3) ∧ Aside0 (Below w.heap.size w w'))
       case atStart => exact ⟨(x9_2), (0), (by first | rfl | (simp; done) | (simp [*]; done)), H', ⟨Nat.le_refl _⟩, ⟨by exact rN HO_7⟩, ⟨by exact rN HO_9⟩, ⟨by exact rB HB⟩⟩
       case round =>
        clear H'
        try clear c1
        try clear p2
        try clear c9
        try clear c9b0
        try clear c11
        try clear c12
        try clear c12b0
        try clear p2
        obtain ⟨x9_3, x11_3, rfl, HA, HK3, HO_7, HO_9, HB⟩ := hrel; cases gk with
        | zero => exact absurd HA.out (by simp [spec_l29Words.l2])
        | succ k3 =>
         have H := HA.out; clear HA; simp only [spec_l29Words.l2] at H; by_cases c14 : x11_3 < a0
         ·rw [if_pos c14] at H; have c14b0 : decide (x11_3 < a0) = true := decide_eq_true c14; clear c14; obtain ⟨y408, hy408⟩ : ∃ y_ : List Int, y_ = (([] : List Int)) := ⟨_, rfl⟩; replace H : (if 0 ≤ x10_2 then (if x10_2 < (x7_1.length : Int) then (if y408.length + (rd_L1 x7_1 x10_2).length < 17592186044416 then ((some (y408 ++ (rd_L1 x7_1 x10_2) : List Int)).bind fun y412 => (if y412.length < 17592186044416 then ((some (y412 ++ [x11_3] : List Int)).bind fun y415 => (if a2 = true then ((spec_HasOverlap.f k3 y415).bind fun t418 => (if t418 = true then (spec_l29Words.l2 k3 a0 a1 a2 x7_1 x8_1 x9_3 x10_2 (wrap64 (x11_3 + 1))) else (if x9_3.length < 5864062014805 then (spec_l29Words.l2 k3 a0 a1 a2 x7_1 x8_1 (x9_3 ++ [y415]) x10_2 (wrap64 (x11_3 + 1))) else (none)))) else ((spec_HasSquare.f k3 y415).bind fun t422 => (if t422 = true then (spec_l29Words.l2 k3 a0 a1 a2 x7_1 x8_1 x9_3 x10_2 (wrap64 (x11_3 + 1))) else (if x9_3.length < 5864062014805 then (spec_l29Words.l2 k3 a0 a1 a2 x7_1 x8_1 (x9_3 ++ [y415]) x10_2 (wrap64 (x11_3 + 1))) else (none)))))) else (none))) else (none)) else (none)) else (none)) = some r := by rw [hy408]; first | exact H | exact (Option.bind_some _ _).symm.trans H
          have Ny408 := am hy408; clear hy408; by_cases c15 : 0 ≤ x10_2
          ·rw [if_pos c15] at H; have c15b0 : decide (0 ≤ x10_2) = true := decide_eq_true c15; clear c15; by_cases c16 : x10_2 < (x7_1.length : Int)
           ·rw [if_pos c16] at H; have c16b0 : decide (x10_2 < (x7_1.length : Int)) = true := decide_eq_true c16; clear c16; by_cases c17 : y408.length + (rd_L1 x7_1 x10_2).length < 17592186044416
            ·rw [if_pos c17] at H; have LMc17 := am c17; clear c17; obtain ⟨y412, hy412⟩ : ∃ y_ : List Int, y_ = (y408 ++ (rd_L1 x7_1 x10_2)) := ⟨_, rfl⟩; replace H : (if y412.length < 17592186044416 then ((some (y412 ++ [x11_3] : List Int)).bind fun y415 => (if a2 = true then ((spec_HasOverlap.f k3 y415).bind fun t418 => (if t418 = true then (spec_l29Words.l2 k3 a0 a1 a2 x7_1 x8_1 x9_3 x10_2 (wrap64 (x11_3 + 1))) else (if x9_3.length < 5864062014805 then (spec_l29Words.l2 k3 a0 a1 a2 x7_1 x8_1 (x9_3 ++ [y415]) x10_2 (wrap64 (x11_3 + 1))) else (none)))) else ((spec_HasSquare.f k3 y415).bind fun t422 => (if t422 = true then (spec_l29Words.l2 k3 a0 a1 a2 x7_1 x8_1 x9_3 x10_2 (wrap64 (x11_3 + 1))) else (if x9_3.length < 5864062014805 then (spec_l29Words.l2 k3 a0 a1 a2 x7_1 x8_1 (x9_3 ++ [y415]) x10_2 (wrap64 (x11_3 + 1))) else (none)))))) else (none)) = some r := by rw [hy412]; first | exact H | exact (Option.bind_some _ _).symm.trans H
             have Ny412 := am hy412; clear hy412; by_cases c18 : y412.length < 17592186044416
             ·rw [if_pos c18] at H; have LMc18 := am c18; clear c18; obtain ⟨y415, hy415⟩ : ∃ y_ : List Int, y_ = (y412 ++ [x11_3]) := ⟨_, rfl⟩; replace H : (if a2 = true then ((spec_HasOverlap.f k3 y415).bind fun t418 => (if t418 = true then (spec_l29Words.l2 k3 a0 a1 a2 x7_1 x8_1 x9_3 x10_2 (wrap64 (x11_3 + 1))) else (if x9_3.length < 5864062014805 then (spec_l29Words.l2 k3 a0 a1 a2 x7_1 x8_1 (x9_3 ++ [y415]) x10_2 (wrap64 (x11_3 + 1))) else (none)))) else ((spec_HasSquare.f k3 y415).bind fun t422 => (if t422 = true then (spec_l29Words.l2 k3 a0 a1 a2 x7_1 x8_1 x9_3 x10_2 (wrap64 (x11_3 + 1))) else (if x9_3.length < 5864062014805 then (spec_l29Words.l2 k3 a0 a1 a2 x7_1 x8_1 (x9_3 ++ [y415]) x10_2 (wrap64 (x11_3 + 1))) else (none))))) = some r := by rw [hy415]; first | exact H | exact (Option.bind_some _ _).symm.trans H
              have Ny415 := am hy415; clear hy415; by_cases c19 : a2 = true
              ·subst c19; have H1 : ((spec_HasOverlap.f k3 y415).bind fun t418 => (if t418 = true then (spec_l29Words.l2 k3 a0 a1 true x7_1 x8_1 x9_3 x10_2 (wrap64 (x11_3 + 1))) else (if x9_3.length < 5864062014805 then (spec_l29Words.l2 k3 a0 a1 true x7_1 x8_1 (x9_3 ++ [y415]) x10_2 (wrap64 (x11_3 + 1))) else (none)))) = some r := by rw [if_pos rfl] at H; exact H
               clear H; have H := H1; clear H1; replace H := Option.bind_eq_some_iff.mp H; obtain ⟨t418, A200, H⟩ := H; replace H : (if t418 = true then (spec_l29Words.l2 k3 a0 a1 true x7_1 x8_1 x9_3 x10_2 (wrap64 (x11_3 + 1))) else (if x9_3.length < 5864062014805 then (spec_l29Words.l2 k3 a0 a1 true x7_1 x8_1 (x9_3 ++ [y415]) x10_2 (wrap64 (x11_3 + 1))) else (none))) = some r := H; have A20 := am A200; clear A200; by_cases c21 : t418 = true
               ·subst c21; have H1 : (spec_l29Words.l2 k3 a0 a1 true x7_1 x8_1 x9_3 x10_2 (wrap64 (x11_3 + 1))) = some r := by rw [if_pos rfl] at H; exact H
                clear H; have H := H1; clear H1; have H' := am H; clear H; go_wp2_with (first | ((with_reducible refine gate_dst (N := 32) rfl ?_); refine Kd.R_lit (Kd.int .i64) _ 3 ?hg (N := 32) ?hd (xs := ([] : List Int)) (inner := []) (ok := fun _ => True) (okp := fun _ => True) ?hr ?hp (fun _ hk => hk) trivial (Below.refl _ _) (Nat.le_refl _) (by simp) ?_; (case hd => rfl); (case hg => rfl); (case hr => first | (go_simp; done) | (go_simp; rfl)); (case hp => exact (Reps.none _ _)); intro v409 w22 ho23 hb hg_ hnew_; clear hg_ hnew_; (first | rw [← Ny408.out] at ho23 | (simp only [Int.reduceToNat] at ho23; rw [← Ny408.out] at ho23)); replace HO_7 := am (Kd.N_elder' (by exact rN HO_7) (Kd.R_base ho23) hb); replace HO_9 := am (Kd.N_elder' (by exact rN HO_9) (Kd.R_base ho23) hb); have HO410 := am (Kd.R_lower (Kd.R_newM (M := fun k_ => (w.heap.size ≤ k_)) ho23 (below_size (by exact rB HB)) (fun k_ h_ => h_)) (below_size (by exact rB HB))); replace HB := am (below_step (by exact rB HB) hb); clear hb ho23; have p411 : 0 ≤ (x10_2 : Int) := of_decide_eq_true (by first | (with_reducible assumption) | assumption); have q411 : x10_2 < (x7_1.length : Int) := of_decide_eq_true (by first | (with_reducible assumption) | assumption); obtain ⟨ad411, A411_0, c411_0, e411, hx411_0, hl411_0, hi411_0⟩ := at_L1 (Kd.N_reads' HO_7.out).2.2 x10_2 p411 q411; cases e411; obtain ⟨ce411, hce411, hMe411, hcc411⟩ := Kd.N_get HO_7.out [] x10_2 p411 (by first | exact q411 | exact of_decide_eq_true (by first | (with_reducible assumption) | assumption) | (have e_ := (Kd.N_reads' HO_7.out).1; omega)); obtain ⟨ua411_0, uc411_0, rfl, ul411_0, ge411_0⟩ := Kd.FK_slice_open hMe411; have hv411_0 := hcc411 0 _ rfl; rw [Nat.add_zero, show ((Kd.slice 3 (Kd.int .i64))).sz = 1 from rfl, Nat.mul_one] at hv411_0; replace hv411_0 := Option.some.inj (hv411_0.symm.trans hx411_0); injection hv411_0 with hva_ hvn_ hvc_; rw [hva_] at ge411_0; rw [hvc_] at ul411_0; have HL411_0 := am (show Kd.V (Kd.int .i64) 3 _ w.heap.size _ _ (rd_L1 x7_1 x10_2) from Kd.V_mk ul411_0 ge411_0); clear hva_ hvn_ hvc_ ge411_0 ul411_0; clear hcc411 hce411; have HR411_0 := am hi411_0; have HC411_0 := am hl411_0; clear hi411_0 hl411_0; replace p411 := eq_true p411; replace q411 := eq_true q411) | ((with_reducible refine gate_builtin (b := .append) (xs := #[.tmp 32, .tmp 36]) rfl ?_); at_builtin; refine Kd.R_append_rows (Kd.int .i64) (w0 := w) w.heap.size rfl (.tmp 32) (.tmp 36) 36 3 (.int .i64 0) 8 rfl Try.underlying36 info3 rfl (by decide) (by omega) v409 y408 (rd_L1 x7_1 x10_2) _ _ _ (fun k_ => (w.heap.size ≤ k_)) (fun _ => False) rfl rfl ?aO ?aR (fun _ _ h => h) (fun _ h => h.elim) ?aF ?aB ?aS ?aL ?_; (case aR => repeat (first | exact (by repeat (first | (with_reducible exact HR411_0.out) | (with_reducible refine Kd.C_alloc ?_ _) | (with_reducible refine Kd.C_drewN ?_ _) | (with_reducible refine Kd.C_drew ?_) | exact HR411_0.out)) | (with_reducible refine Kd.C_alloc ?_ _) | (with_reducible refine Kd.C_drewN ?_ _) | (with_reducible refine Kd.C_drew ?_))); (case aB => exact (by exact rB HB)); (case aF => exact (fun k_ hk => (Nat.le_trans (below_size (by exact rB HB)) hk))); (case aO => exact (by exact xR (Kd.R_mono HO410.out (fun _ hk => hk.1)))); (case aS => exact (below_size (by exact rB HB))); (case aL => have := LMc17.out; omega); intro v413 w24 ho hb hg hat; rw [← Ny412.out] at ho; replace HO_7 := am (Kd.N_afterv (ok := (fun k_ => (w.heap.size ≤ k_) ∧ some k_ ≠ (u9 : Value).ownBlock)) (by exact rN HO_7) hg hat); replace HO_9 := am (Kd.N_afterv (ok := (fun k_ => (w.heap.size ≤ k_) ∧ some k_ ≠ (.slice (some ad411) x7_1.length co13 : Value).ownBlock)) (by exact rN HO_9) hg hat); replace HL411_0 := am (Kd.V_afterv (ok := (fun k_ => (w.heap.size ≤ k_) ∧ some k_ ≠ (.slice (some ad411) x7_1.length co13 : Value).ownBlock ∧ some k_ ≠ (u9 : Value).ownBlock)) (by exact xV (Kd.V_mono HL411_0.out (fun _ hk => ⟨⟨hk.1.1.1, ⟨hk.2, hk.1.1.2⟩⟩, hk.1.2⟩))) hg hat); replace HB := am (hb); have HO414 := am (ho); clear HO410; clear ho hb hg hat) | ((with_reducible refine gate_builtin (b := .append) (xs := #[.tmp 37, .tmp 39]) rfl ?_); at_builtin; refine Kd.R_append (Kd.int .i64) (w0 := w) w.heap.size rfl (.tmp 37) (.tmp 39) 36 3 (.int .i64 0) 8 rfl Try.underlying36 info3 rfl (by decide) (by omega) v413 y412 x11_3 [.int .i64 x11_3] (fun k_ => (w.heap.size ≤ k_)) (fun _ => False) rfl rfl ?aP (fun _ hk => hk.elim) ?aF ?aO ?aB ?aS ?aL ?_; (case aP => exact rfl); (case aB => exact (by exact rB HB)); (case aF => exact (fun k_ hk => (Nat.le_trans (below_size (by exact rB HB)) hk))); (case aO => exact (by exact rR HO414)); (case aS => exact (below_size (by exact rB HB))); (case aL => have := LMc18.out; omega); intro v416 w25 ho hb hg hat; rw [← Ny415.out] at ho; replace HO_7 := am (Kd.N_afterv (ok := (fun k_ => (w.heap.size ≤ k_) ∧ some k_ ≠ (u9 : Value).ownBlock)) (by exact rN HO_7) hg hat); replace HO_9 := am (Kd.N_afterv (ok := (fun k_ => (w.heap.size ≤ k_) ∧ some k_ ≠ (.slice (some ad411) x7_1.length co13 : Value).ownBlock)) (by exact rN HO_9) hg hat); replace HL411_0 := am (Kd.V_afterv (ok := (fun k_ => (w.heap.size ≤ k_) ∧ some k_ ≠ (.slice (some ad411) x7_1.length co13 : Value).ownBlock ∧ some k_ ≠ (u9 : Value).ownBlock)) (by exact rV HL411_0) hg hat); replace HB := am (hb); have HO417 := am (ho); clear HO414; clear ho hb hg hat; obtain ⟨Ao26, co26, eo26⟩ := Kd.R_slice HO417.out; subst eo26) | (go_at_call 117; (with_reducible refine (spec_HasOverlap.calls k3 _ _ y415 true _ ?side1 ?side2 A20.out).mono ?_); (case side1 => exact xC ((Kd.R_reads' HO417.out).2.2)); (case side2 => exact (Kd.R_reads' HO417.out).2.1); rintro e w27 ⟨rfl, hb⟩; replace HO_7 := am (Kd.N_below (by exact rN HO_7) hb); replace HO_9 := am (Kd.N_below (by exact rN HO_9) hb); replace HL411_0 := am (Kd.V_below (by exact rV HL411_0) hb); replace HO417 := am (Kd.R_below (by exact rR HO417) hb); replace HB := am (below_step (by exact rB HB) hb); clear hb)); go_roundg k3
                case measure => have := HK1.out; have := HK2.out; have := HK3.out; omega
                case rel => exact ⟨(x9_3), (wrap64 (x11_3 + 1)), (by first | rfl | (simp; done) | (simp [*]; done)), H', ⟨by have := HK1.out; have := HK2.out; have := HK3.out; omega⟩, ⟨by exact xN (Kd.N_mono HO_7.out (fun _ hk => ⟨hk.1.1, hk.1.2⟩))⟩, ⟨by exact xN (Kd.N_mono HO_9.out (fun _ hk => ⟨hk.1.1, hk.1.2⟩))⟩, ⟨by exact rB HB⟩⟩
               ·replace c21 := Bool.eq_false_iff.mpr c21; subst c21; have H1 : (if x9_3.length < 5864062014805 then (spec_l29Words.l2 k3 a0 a1 true x7_1 x8_1 (x9_3 ++ [y415]) x10_2 (wrap64 (x11_3 + 1))) else (none)) = some r := by rw [if_neg (show ¬ (false = true) by decide)] at H; exact H
                clear H; have H := H1; clear H1; by_cases c28 : x9_3.length < 5864062014805
                ·rw [if_pos c28] at H; have LMc28 := am c28; clear c28; obtain ⟨y419, hy419⟩ : ∃ y_ : List (List Int), y_ = (x9_3 ++ [y415]) := ⟨_, rfl⟩; replace H : (spec_l29Words.l2 k3 a0 a1 true x7_1 x8_1 y419 x10_2 (wrap64 (x11_3 + 1))) = some r := by rw [hy419]; first | exact H | exact (Option.bind_some _ _).symm.trans H
                 have Ny419 := am hy419; clear hy419; have H' := am H; clear H; go_wp2_with (first | ((with_reducible refine gate_dst (N := 32) rfl ?_); refine Kd.R_lit (Kd.int .i64) _ 3 ?hg (N := 32) ?hd (xs := ([] : List Int)) (inner := []) (ok := fun _ => True) (okp := fun _ => True) ?hr ?hp (fun _ hk => hk) trivial (Below.refl _ _) (Nat.le_refl _) (by simp) ?_; (case hd => rfl); (case hg => rfl); (case hr => first | (go_simp; done) | (go_simp; rfl)); (case hp => exact (Reps.none _ _)); intro v409 w29 ho30 hb hg_ hnew_; clear hg_ hnew_; (first | rw [← Ny408.out] at ho30 | (simp only [Int.reduceToNat] at ho30; rw [← Ny408.out] at ho30)); replace HO_7 := am (Kd.N_elder' (by exact rN HO_7) (Kd.R_base ho30) hb); replace HO_9 := am (Kd.N_elder' (by exact rN HO_9) (Kd.R_base ho30) hb); have HO410 := am (Kd.R_lower (Kd.R_newM (M := fun k_ => (w.heap.size ≤ k_)) ho30 (below_size (by exact rB HB)) (fun k_ h_ => h_)) (below_size (by exact rB HB))); replace HB := am (below_step (by exact rB HB) hb); clear hb ho30; have p411 : 0 ≤ (x10_2 : Int) := of_decide_eq_true (by first | (with_reducible assumption) | assumption); have q411 : x10_2 < (x7_1.length : Int) := of_decide_eq_true (by first | (with_reducible assumption) | assumption); obtain ⟨ad411, A411_0, c411_0, e411, hx411_0, hl411_0, hi411_0⟩ := at_L1 (Kd.N_reads' HO_7.out).2.2 x10_2 p411 q411; cases e411; obtain ⟨ce411, hce411, hMe411, hcc411⟩ := Kd.N_get HO_7.out [] x10_2 p411 (by first | exact q411 | exact of_decide_eq_true (by first | (with_reducible assumption) | assumption) | (have e_ := (Kd.N_reads' HO_7.out).1; omega)); obtain ⟨ua411_0, uc411_0, rfl, ul411_0, ge411_0⟩ := Kd.FK_slice_open hMe411; have hv411_0 := hcc411 0 _ rfl; rw [Nat.add_zero, show ((Kd.slice 3 (Kd.int .i64))).sz = 1 from rfl, Nat.mul_one] at hv411_0; replace hv411_0 := Option.some.inj (hv411_0.symm.trans hx411_0); injection hv411_0 with hva_ hvn_ hvc_; rw [hva_] at ge411_0; rw [hvc_] at ul411_0; have HL411_0 := am (show Kd.V (Kd.int .i64) 3 _ w.heap.size _ _ (rd_L1 x7_1 x10_2) from Kd.V_mk ul411_0 ge411_0); clear hva_ hvn_ hvc_ ge411_0 ul411_0; clear hcc411 hce411; have HR411_0 := am hi411_0; have HC411_0 := am hl411_0; clear hi411_0 hl411_0; replace p411 := eq_true p411; replace q411 := eq_true q411) | ((with_reducible refine gate_builtin (b := .append) (xs := #[.tmp 32, .tmp 36]) rfl ?_); at_builtin; refine Kd.R_append_rows (Kd.int .i64) (w0 := w) w.heap.size rfl (.tmp 32) (.tmp 36) 36 3 (.int .i64 0) 8 rfl Try.underlying36 info3 rfl (by decide) (by omega) v409 y408 (rd_L1 x7_1 x10_2) _ _ _ (fun k_ => (w.heap.size ≤ k_)) (fun _ => False) rfl rfl ?aO ?aR (fun _ _ h => h) (fun _ h => h.elim) ?aF ?aB ?aS ?aL ?_; (case aR => repeat (first | exact (by repeat (first | (with_reducible exact HR411_0.out) | (with_reducible refine Kd.C_alloc ?_ _) | (with_reducible refine Kd.C_drewN ?_ _) | (with_reducible refine Kd.C_drew ?_) | exact HR411_0.out)) | (with_reducible refine Kd.C_alloc ?_ _) | (with_reducible refine Kd.C_drewN ?_ _) | (with_reducible refine Kd.C_drew ?_))); (case aB => exact (by exact rB HB)); (case aF => exact (fun k_ hk => (Nat.le_trans (below_size (by exact rB HB)) hk))); (case aO => exact (by exact xR (Kd.R_mono HO410.out (fun _ hk => hk.1)))); (case aS => exact (below_size (by exact rB HB))); (case aL => have := LMc17.out; omega); intro v413 w31 ho hb hg hat; rw [← Ny412.out] at ho; replace HO_7 := am (Kd.N_afterv (ok := (fun k_ => (w.heap.size ≤ k_) ∧ some k_ ≠ (u9 : Value).ownBlock)) (by exact rN HO_7) hg hat); replace HO_9 := am (Kd.N_afterv (ok := (fun k_ => (w.heap.size ≤ k_) ∧ some k_ ≠ (.slice (some ad411) x7_1.length co13 : Value).ownBlock)) (by exact rN HO_9) hg hat); replace HL411_0 := am (Kd.V_afterv (ok := (fun k_ => (w.heap.size ≤ k_) ∧ some k_ ≠ (.slice (some ad411) x7_1.length co13 : Value).ownBlock ∧ some k_ ≠ (u9 : Value).ownBlock)) (by exact xV (Kd.V_mono HL411_0.out (fun _ hk => ⟨⟨hk.1.1.1, ⟨hk.2, hk.1.1.2⟩⟩, hk.1.2⟩))) hg hat); replace HB := am (hb); have HO414 := am (ho); clear HO410; clear ho hb hg hat) | ((with_reducible refine gate_builtin (b := .append) (xs := #[.tmp 37, .tmp 39]) rfl ?_); at_builtin; refine Kd.R_append (Kd.int .i64) (w0 := w) w.heap.size rfl (.tmp 37) (.tmp 39) 36 3 (.int .i64 0) 8 rfl Try.underlying36 info3 rfl (by decide) (by omega) v413 y412 x11_3 [.int .i64 x11_3] (fun k_ => (w.heap.size ≤ k_)) (fun _ => False) rfl rfl ?aP (fun _ hk => hk.elim) ?aF ?aO ?aB ?aS ?aL ?_; (case aP => exact rfl); (case aB => exact (by exact rB HB)); (case aF => exact (fun k_ hk => (Nat.le_trans (below_size (by exact rB HB)) hk))); (case aO => exact (by exact rR HO414)); (case aS => exact (below_size (by exact rB HB))); (case aL => have := LMc18.out; omega); intro v416 w32 ho hb hg hat; rw [← Ny415.out] at ho; replace HO_7 := am (Kd.N_afterv (ok := (fun k_ => (w.heap.size ≤ k_) ∧ some k_ ≠ (u9 : Value).ownBlock)) (by exact rN HO_7) hg hat); replace HO_9 := am (Kd.N_afterv (ok := (fun k_ => (w.heap.size ≤ k_) ∧ some k_ ≠ (.slice (some ad411) x7_1.length co13 : Value).ownBlock)) (by exact rN HO_9) hg hat); replace HL411_0 := am (Kd.V_afterv (ok := (fun k_ => (w.heap.size ≤ k_) ∧ some k_ ≠ (.slice (some ad411) x7_1.length co13 : Value).ownBlock ∧ some k_ ≠ (u9 : Value).ownBlock)) (by exact rV HL411_0) hg hat); replace HB := am (hb); have HO417 := am (ho); clear HO414; clear ho hb hg hat; obtain ⟨Ao33, co33, eo33⟩ := Kd.R_slice HO417.out; subst eo33) | (go_at_call 117; (with_reducible refine (spec_HasOverlap.calls k3 _ _ y415 false _ ?side1 ?side2 A20.out).mono ?_); (case side1 => exact xC ((Kd.R_reads' HO417.out).2.2)); (case side2 => exact (Kd.R_reads' HO417.out).2.1); rintro e w34 ⟨rfl, hb⟩; replace HO_7 := am (Kd.N_below (by exact rN HO_7) hb); replace HO_9 := am (Kd.N_below (by exact rN HO_9) hb); replace HL411_0 := am (Kd.V_below (by exact rV HL411_0) hb); replace HO417 := am (Kd.R_below (by exact rR HO417) hb); replace HB := am (below_step (by exact rB HB) hb); clear hb) | ((with_reducible refine gate_builtin (b := .append) (xs := #[.tmp 56, .tmp 58]) rfl ?_); at_builtin; refine Kd.N_append (Kd.slice 3 (Kd.int .i64)) (w0 := w) w.heap.size rfl (.tmp 56) (.tmp 58) 22 36 (.slice none 0 0) 24 rfl Try.underlying22 info36 rfl (by decide) (by omega) u9 x9_3 y415 [.slice Ao33 y415.length co33] (fun k_ => (w.heap.size ≤ k_) ∧ some k_ ≠ (.slice (some ad411) x7_1.length co13 : Value).ownBlock) (fun k_ => ((fun k_ => (w.heap.size ≤ k_) ∧ some k_ ≠ (.slice (some ad411) x7_1.length co13 : Value).ownBlock)) k_ ∧ some k_ ≠ (u9 : Value).ownBlock) rfl rfl ?aP (fun _ hk => hk) ?aF ?aO ?aB ?aS ?aL ?_; (case aP => exact (Kd.FK_slice_mk (Kd.R_reads' (Kd.R_mono (ok' := (fun k_ => ((fun k_ => (w.heap.size ≤ k_) ∧ some k_ ≠ (.slice (some ad411) x7_1.length co13 : Value).ownBlock)) k_ ∧ some k_ ≠ (u9 : Value).ownBlock)) (Kd.R_apart' (Kd.R_apart' (HO417.out) (Kd.N_typed HO_7.out) (by decide)) (Kd.N_typed HO_9.out) (by decide)) (fun k_ hk => ⟨⟨hk.1.1, hk.1.2⟩, hk.2⟩))).2.1 (Kd.R_F (Kd.R_mono (ok' := (fun k_ => ((fun k_ => (w.heap.size ≤ k_) ∧ some k_ ≠ (.slice (some ad411) x7_1.length co13 : Value).ownBlock)) k_ ∧ some k_ ≠ (u9 : Value).ownBlock)) (Kd.R_apart' (Kd.R_apart' (HO417.out) (Kd.N_typed HO_7.out) (by decide)) (Kd.N_typed HO_9.out) (by decide)) (fun k_ hk => ⟨⟨hk.1.1, hk.1.2⟩, hk.2⟩))))); (case aB => exact (by exact rB HB)); (case aF => exact (fun k_ hk => ⟨(Nat.le_trans (below_size (by exact rB HB)) hk), Kd.fresh' (Kd.N_lt (by exact rN HO_7)) k_ hk⟩)); (case aO => exact (by exact xN (Kd.N_mono HO_9.out (fun _ hk => ⟨hk.1.1, hk.1.2⟩)))); (case aS => exact (below_size (by exact rB HB))); (case aL => have := LMc28.out; omega); intro v420 w35 ho hb hg hat; rw [← Ny419.out] at ho; replace HO_7 := am (Kd.N_afterv (ok := (fun k_ => (w.heap.size ≤ k_) ∧ some k_ ≠ (.slice Ao33 y415.length co33 : Value).ownBlock)) (by exact xN (Kd.N_mono HO_7.out (fun _ hk => ⟨⟨hk.1.1, hk.2⟩, hk.1.2⟩))) hg hat); replace HL411_0 := am (Kd.V_afterv (ok := (fun k_ => (w.heap.size ≤ k_) ∧ some k_ ≠ (.slice (some ad411) x7_1.length co13 : Value).ownBlock ∧ some k_ ≠ (.slice Ao33 y415.length co33 : Value).ownBlock)) (by exact xV (Kd.V_mono HL411_0.out (fun _ hk => ⟨⟨hk.1.1, ⟨hk.1.2.1, hk.2⟩⟩, hk.1.2.2⟩))) hg hat); replace HB := am (hb); have HO421 := am (ho); clear HO_9 HO417; clear ho hb hg hat)); go_roundg k3
                 case measure => have := HK1.out; have := HK2.out; have := HK3.out; omega
                 case rel => exact ⟨(y419), (wrap64 (x11_3 + 1)), (by first | rfl | (simp; done) | (simp [*]; done)), H', ⟨by have := HK1.out; have := HK2.out; have := HK3.out; omega⟩, ⟨by exact xN (Kd.N_mono HO_7.out (fun _ hk => ⟨hk.1.1, hk.2⟩))⟩, ⟨by exact rN HO421⟩, ⟨by exact rB HB⟩⟩
                ·rw [if_neg c28] at H; exact absurd H (by simp)
              ·replace c19 := Bool.eq_false_iff.mpr c19; subst c19; have H1 : ((spec_HasSquare.f k3 y415).bind fun t422 => (if t422 = true then (spec_l29Words.l2 k3 a0 a1 false x7_1 x8_1 x9_3 x10_2 (wrap64 (x11_3 + 1))) else (if x9_3.length < 5864062014805 then (spec_l29Words.l2 k3 a0 a1 false x7_1 x8_1 (x9_3 ++ [y415]) x10_2 (wrap64 (x11_3 + 1))) else (none)))) = some r := by rw [if_neg (show ¬ (false = true) by decide)] at H; exact H
               clear H; have H := H1; clear H1; replace H := Option.bind_eq_some_iff.mp H; obtain ⟨t422, A360, H⟩ := H; replace H : (if t422 = true then (spec_l29Words.l2 k3 a0 a1 false x7_1 x8_1 x9_3 x10_2 (wrap64 (x11_3 + 1))) else (if x9_3.length < 5864062014805 then (spec_l29Words.l2 k3 a0 a1 false x7_1 x8_1 (x9_3 ++ [y415]) x10_2 (wrap64 (x11_3 + 1))) else (none))) = some r := H; have A36 := am A360; clear A360; by_cases c37 : t422 = true
               ·subst c37; have H1 : (spec_l29Words.l2 k3 a0 a1 false x7_1 x8_1 x9_3 x10_2 (wrap64 (x11_3 + 1))) = some r := by rw [if_pos rfl] at H; exact H
                clear H; have H := H1; clear H1; have H' := am H; clear H; go_wp2_with (first | ((with_reducible refine gate_dst (N := 32) rfl ?_); refine Kd.R_lit (Kd.int .i64) _ 3 ?hg (N := 32) ?hd (xs := ([] : List Int)) (inner := []) (ok := fun _ => True) (okp := fun _ => True) ?hr ?hp (fun _ hk => hk) trivial (Below.refl _ _) (Nat.le_refl _) (by simp) ?_; (case hd => rfl); (case hg => rfl); (case hr => first | (go_simp; done) | (go_simp; rfl)); (case hp => exact (Reps.none _ _)); intro v409 w38 ho39 hb hg_ hnew_; clear hg_ hnew_; (first | rw [← Ny408.out] at ho39 | (simp only [Int.reduceToNat] at ho39; rw [← Ny408.out] at ho39)); replace HO_7 := am (Kd.N_elder' (by exact rN HO_7) (Kd.R_base ho39) hb); replace HO_9 := am (Kd.N_elder' (by exact rN HO_9) (Kd.R_base ho39) hb); have HO410 := am (Kd.R_lower (Kd.R_newM (M := fun k_ => (w.heap.size ≤ k_)) ho39 (below_size (by exact rB HB)) (fun k_ h_ => h_)) (below_size (by exact rB HB))); replace HB := am (below_step (by exact rB HB) hb); clear hb ho39; have p411 : 0 ≤ (x10_2 : Int) := of_decide_eq_true (by first | (with_reducible assumption) | assumption); have q411 : x10_2 < (x7_1.length : Int) := of_decide_eq_true (by first | (with_reducible assumption) | assumption); obtain ⟨ad411, A411_0, c411_0, e411, hx411_0, hl411_0, hi411_0⟩ := at_L1 (Kd.N_reads' HO_7.out).2.2 x10_2 p411 q411; cases e411; obtain ⟨ce411, hce411, hMe411, hcc411⟩ := Kd.N_get HO_7.out [] x10_2 p411 (by first | exact q411 | exact of_decide_eq_true (by first | (with_reducible assumption) | assumption) | (have e_ := (Kd.N_reads' HO_7.out).1; omega)); obtain ⟨ua411_0, uc411_0, rfl, ul411_0, ge411_0⟩ := Kd.FK_slice_open hMe411; have hv411_0 := hcc411 0 _ rfl; rw [Nat.add_zero, show ((Kd.slice 3 (Kd.int .i64))).sz = 1 from rfl, Nat.mul_one] at hv411_0; replace hv411_0 := Option.some.inj (hv411_0.symm.trans hx411_0); injection hv411_0 with hva_ hvn_ hvc_; rw [hva_] at ge411_0; rw [hvc_] at ul411_0; have HL411_0 := am (show Kd.V (Kd.int .i64) 3 _ w.heap.size _ _ (rd_L1 x7_1 x10_2) from Kd.V_mk ul411_0 ge411_0); clear hva_ hvn_ hvc_ ge411_0 ul411_0; clear hcc411 hce411; have HR411_0 := am hi411_0; have HC411_0 := am hl411_0; clear hi411_0 hl411_0; replace p411 := eq_true p411; replace q411 := eq_true q411) | ((with_reducible refine gate_builtin (b := .append) (xs := #[.tmp 32, .tmp 36]) rfl ?_); at_builtin; refine Kd.R_append_rows (Kd.int .i64) (w0 := w) w.heap.size rfl (.tmp 32) (.tmp 36) 36 3 (.int .i64 0) 8 rfl Try.underlying36 info3 rfl (by decide) (by omega) v409 y408 (rd_L1 x7_1 x10_2) _ _ _ (fun k_ => (w.heap.size ≤ k_)) (fun _ => False) rfl rfl ?aO ?aR (fun _ _ h => h) (fun _ h => h.elim) ?aF ?aB ?aS ?aL ?_; (case aR => repeat (first | exact (by repeat (first | (with_reducible exact HR411_0.out) | (with_reducible refine Kd.C_alloc ?_ _) | (with_reducible refine Kd.C_drewN ?_ _) | (with_reducible refine Kd.C_drew ?_) | exact HR411_0.out)) | (with_reducible refine Kd.C_alloc ?_ _) | (with_reducible refine Kd.C_drewN ?_ _) | (with_reducible refine Kd.C_drew ?_))); (case aB => exact (by exact rB HB)); (case aF => exact (fun k_ hk => (Nat.le_trans (below_size (by exact rB HB)) hk))); (case aO => exact (by exact xR (Kd.R_mono HO410.out (fun _ hk => hk.1)))); (case aS => exact (below_size (by exact rB HB))); (case aL => have := LMc17.out; omega); intro v413 w40 ho hb hg hat; rw [← Ny412.out] at ho; replace HO_7 := am (Kd.N_afterv (ok := (fun k_ => (w.heap.size ≤ k_) ∧ some k_ ≠ (u9 : Value).ownBlock)) (by exact rN HO_7) hg hat); replace HO_9 := am (Kd.N_afterv (ok := (fun k_ => (w.heap.size ≤ k_) ∧ some k_ ≠ (.slice (some ad411) x7_1.length co13 : Value).ownBlock)) (by exact rN HO_9) hg hat); replace HL411_0 := am (Kd.V_afterv (ok := (fun k_ => (w.heap.size ≤ k_) ∧ some k_ ≠ (.slice (some ad411) x7_1.length co13 : Value).ownBlock ∧ some k_ ≠ (u9 : Value).ownBlock)) (by exact xV (Kd.V_mono HL411_0.out (fun _ hk => ⟨⟨hk.1.1.1, ⟨hk.2, hk.1.1.2⟩⟩, hk.1.2⟩))) hg hat); replace HB := am (hb); have HO414 := am (ho); clear HO410; clear ho hb hg hat) | ((with_reducible refine gate_builtin (b := .append) (xs := #[.tmp 37, .tmp 39]) rfl ?_); at_builtin; refine Kd.R_append (Kd.int .i64) (w0 := w) w.heap.size rfl (.tmp 37) (.tmp 39) 36 3 (.int .i64 0) 8 rfl Try.underlying36 info3 rfl (by decide) (by omega) v413 y412 x11_3 [.int .i64 x11_3] (fun k_ => (w.heap.size ≤ k_)) (fun _ => False) rfl rfl ?aP (fun _ hk => hk.elim) ?aF ?aO ?aB ?aS ?aL ?_; (case aP => exact rfl); (case aB => exact (by exact rB HB)); (case aF => exact (fun k_ hk => (Nat.le_trans (below_size (by exact rB HB)) hk))); (case aO => exact (by exact rR HO414)); (case aS => exact (below_size (by exact rB HB))); (case aL => have := LMc18.out; omega); intro v416 w41 ho hb hg hat; rw [← Ny415.out] at ho; replace HO_7 := am (Kd.N_afterv (ok := (fun k_ => (w.heap.size ≤ k_) ∧ some k_ ≠ (u9 : Value).ownBlock)) (by exact rN HO_7) hg hat); replace HO_9 := am (Kd.N_afterv (ok := (fun k_ => (w.heap.size ≤ k_) ∧ some k_ ≠ (.slice (some ad411) x7_1.length co13 : Value).ownBlock)) (by exact rN HO_9) hg hat); replace HL411_0 := am (Kd.V_afterv (ok := (fun k_ => (w.heap.size ≤ k_) ∧ some k_ ≠ (.slice (some ad411) x7_1.length co13 : Value).ownBlock ∧ some k_ ≠ (u9 : Value).ownBlock)) (by exact rV HL411_0) hg hat); replace HB := am (hb); have HO417 := am (ho); clear HO414; clear ho hb hg hat; obtain ⟨Ao42, co42, eo42⟩ := Kd.R_slice HO417.out; subst eo42) | (go_at_call 44; (with_reducible refine (spec_HasSquare.calls k3 _ _ y415 true _ ?side1 ?side2 A36.out).mono ?_); (case side1 => exact xC ((Kd.R_reads' HO417.out).2.2)); (case side2 => exact (Kd.R_reads' HO417.out).2.1); rintro e w43 ⟨rfl, hb⟩; replace HO_7 := am (Kd.N_below (by exact rN HO_7) hb); replace HO_9 := am (Kd.N_below (by exact rN HO_9) hb); replace HL411_0 := am (Kd.V_below (by exact rV HL411_0) hb); replace HO417 := am (Kd.R_below (by exact rR HO417) hb); replace HB := am (below_step (by exact rB HB) hb); clear hb)); go_roundg k3
                case measure => have := HK1.out; have := HK2.out; have := HK3.out; omega
                case rel => exact ⟨(x9_3), (wrap64 (x11_3 + 1)), (by first | rfl | (simp; done) | (simp [*]; done)), H', ⟨by have := HK1.out; have := HK2.out; have := HK3.out; omega⟩, ⟨by exact xN (Kd.N_mono HO_7.out (fun _ hk => ⟨hk.1.1, hk.1.2⟩))⟩, ⟨by exact xN (Kd.N_mono HO_9.out (fun _ hk => ⟨hk.1.1, hk.1.2⟩))⟩, ⟨by exact rB HB⟩⟩
               ·replace c37 := Bool.eq_false_iff.mpr c37; subst c37; have H1 : (if x9_3.length < 5864062014805 then (spec_l29Words.l2 k3 a0 a1 false x7_1 x8_1 (x9_3 ++ [y415]) x10_2 (wrap64 (x11_3 + 1))) else (none)) = some r := by rw [if_neg (show ¬ (false = true) by decide)] at H; exact H
                clear H; have H := H1; clear H1; by_cases c44 : x9_3.length < 5864062014805
                ·rw [if_pos c44] at H; have LMc44 := am c44; clear c44; obtain ⟨y423, hy423⟩ : ∃ y_ : List (List Int), y_ = (x9_3 ++ [y415]) := ⟨_, rfl⟩; replace H : (spec_l29Words.l2 k3 a0 a1 false x7_1 x8_1 y423 x10_2 (wrap64 (x11_3 + 1))) = some r := by rw [hy423]; first | exact H | exact (Option.bind_some _ _).symm.trans H
                 have Ny423 := am hy423; clear hy423; have H' := am H; clear H; go_wp2_with (first | ((with_reducible refine gate_dst (N := 32) rfl ?_); refine Kd.R_lit (Kd.int .i64) _ 3 ?hg (N := 32) ?hd (xs := ([] : List Int)) (inner := []) (ok := fun _ => True) (okp := fun _ => True) ?hr ?hp (fun _ hk => hk) trivial (Below.refl _ _) (Nat.le_refl _) (by simp) ?_; (case hd => rfl); (case hg => rfl); (case hr => first | (go_simp; done) | (go_simp; rfl)); (case hp => exact (Reps.none _ _)); intro v409 w45 ho46 hb hg_ hnew_; clear hg_ hnew_; (first | rw [← Ny408.out] at ho46 | (simp only [Int.reduceToNat] at ho46; rw [← Ny408.out] at ho46)); replace HO_7 := am (Kd.N_elder' (by exact rN HO_7) (Kd.R_base ho46) hb); replace HO_9 := am (Kd.N_elder' (by exact rN HO_9) (Kd.R_base ho46) hb); have HO410 := am (Kd.R_lower (Kd.R_newM (M := fun k_ => (w.heap.size ≤ k_)) ho46 (below_size (by exact rB HB)) (fun k_ h_ => h_)) (below_size (by exact rB HB))); replace HB := am (below_step (by exact rB HB) hb); clear hb ho46; have p411 : 0 ≤ (x10_2 : Int) := of_decide_eq_true (by first | (with_reducible assumption) | assumption); have q411 : x10_2 < (x7_1.length : Int) := of_decide_eq_true (by first | (with_reducible assumption) | assumption); obtain ⟨ad411, A411_0, c411_0, e411, hx411_0, hl411_0, hi411_0⟩ := at_L1 (Kd.N_reads' HO_7.out).2.2 x10_2 p411 q411; cases e411; obtain ⟨ce411, hce411, hMe411, hcc411⟩ := Kd.N_get HO_7.out [] x10_2 p411 (by first | exact q411 | exact of_decide_eq_true (by first | (with_reducible assumption) | assumption) | (have e_ := (Kd.N_reads' HO_7.out).1; omega)); obtain ⟨ua411_0, uc411_0, rfl, ul411_0, ge411_0⟩ := Kd.FK_slice_open hMe411; have hv411_0 := hcc411 0 _ rfl; rw [Nat.add_zero, show ((Kd.slice 3 (Kd.int .i64))).sz = 1 from rfl, Nat.mul_one] at hv411_0; replace hv411_0 := Option.some.inj (hv411_0.symm.trans hx411_0); injection hv411_0 with hva_ hvn_ hvc_; rw [hva_] at ge411_0; rw [hvc_] at ul411_0; have HL411_0 := am (show Kd.V (Kd.int .i64) 3 _ w.heap.size _ _ (rd_L1 x7_1 x10_2) from Kd.V_mk ul411_0 ge411_0); clear hva_ hvn_ hvc_ ge411_0 ul411_0; clear hcc411 hce411; have HR411_0 := am hi411_0; have HC411_0 := am hl411_0; clear hi411_0 hl411_0; replace p411 := eq_true p411; replace q411 := eq_true q411) | ((with_reducible refine gate_builtin (b := .append) (xs := #[.tmp 32, .tmp 36]) rfl ?_); at_builtin; refine Kd.R_append_rows (Kd.int .i64) (w0 := w) w.heap.size rfl (.tmp 32) (.tmp 36) 36 3 (.int .i64 0) 8 rfl Try.underlying36 info3 rfl (by decide) (by omega) v409 y408 (rd_L1 x7_1 x10_2) _ _ _ (fun k_ => (w.heap.size ≤ k_)) (fun _ => False) rfl rfl ?aO ?aR (fun _ _ h => h) (fun _ h => h.elim) ?aF ?aB ?aS ?aL ?_; (case aR => repeat (first | exact (by repeat (first | (with_reducible exact HR411_0.out) | (with_reducible refine Kd.C_alloc ?_ _) | (with_reducible refine Kd.C_drewN ?_ _) | (with_reducible refine Kd.C_drew ?_) | exact HR411_0.out)) | (with_reducible refine Kd.C_alloc ?_ _) | (with_reducible refine Kd.C_drewN ?_ _) | (with_reducible refine Kd.C_drew ?_))); (case aB => exact (by exact rB HB)); (case aF => exact (fun k_ hk => (Nat.le_trans (below_size (by exact rB HB)) hk))); (case aO => exact (by exact xR (Kd.R_mono HO410.out (fun _ hk => hk.1)))); (case aS => exact (below_size (by exact rB HB))); (case aL => have := LMc17.out; omega); intro v413 w47 ho hb hg hat; rw [← Ny412.out] at ho; replace HO_7 := am (Kd.N_afterv (ok := (fun k_ => (w.heap.size ≤ k_) ∧ some k_ ≠ (u9 : Value).ownBlock)) (by exact rN HO_7) hg hat); replace HO_9 := am (Kd.N_afterv (ok := (fun k_ => (w.heap.size ≤ k_) ∧ some k_ ≠ (.slice (some ad411) x7_1.length co13 : Value).ownBlock)) (by exact rN HO_9) hg hat); replace HL411_0 := am (Kd.V_afterv (ok := (fun k_ => (w.heap.size ≤ k_) ∧ some k_ ≠ (.slice (some ad411) x7_1.length co13 : Value).ownBlock ∧ some k_ ≠ (u9 : Value).ownBlock)) (by exact xV (Kd.V_mono HL411_0.out (fun _ hk => ⟨⟨hk.1.1.1, ⟨hk.2, hk.1.1.2⟩⟩, hk.1.2⟩))) hg hat); replace HB := am (hb); have HO414 := am (ho); clear HO410; clear ho hb hg hat) | ((with_reducible refine gate_builtin (b := .append) (xs := #[.tmp 37, .tmp 39]) rfl ?_); at_builtin; refine Kd.R_append (Kd.int .i64) (w0 := w) w.heap.size rfl (.tmp 37) (.tmp 39) 36 3 (.int .i64 0) 8 rfl Try.underlying36 info3 rfl (by decide) (by omega) v413 y412 x11_3 [.int .i64 x11_3] (fun k_ => (w.heap.size ≤ k_)) (fun _ => False) rfl rfl ?aP (fun _ hk => hk.elim) ?aF ?aO ?aB ?aS ?aL ?_; (case aP => exact rfl); (case aB => exact (by exact rB HB)); (case aF => exact (fun k_ hk => (Nat.le_trans (below_size (by exact rB HB)) hk))); (case aO => exact (by exact rR HO414)); (case aS => exact (below_size (by exact rB HB))); (case aL => have := LMc18.out; omega); intro v416 w48 ho hb hg hat; rw [← Ny415.out] at ho; replace HO_7 := am (Kd.N_afterv (ok := (fun k_ => (w.heap.size ≤ k_) ∧ some k_ ≠ (u9 : Value).ownBlock)) (by exact rN HO_7) hg hat); replace HO_9 := am (Kd.N_afterv (ok := (fun k_ => (w.heap.size ≤ k_) ∧ some k_ ≠ (.slice (some ad411) x7_1.length co13 : Value).ownBlock)) (by exact rN HO_9) hg hat); replace HL411_0 := am (Kd.V_afterv (ok := (fun k_ => (w.heap.size ≤ k_) ∧ some k_ ≠ (.slice (some ad411) x7_1.length co13 : Value).ownBlock ∧ some k_ ≠ (u9 : Value).ownBlock)) (by exact rV HL411_0) hg hat); replace HB := am (hb); have HO417 := am (ho); clear HO414; clear ho hb hg hat; obtain ⟨Ao49, co49, eo49⟩ := Kd.R_slice HO417.out; subst eo49) | (go_at_call 44; (with_reducible refine (spec_HasSquare.calls k3 _ _ y415 false _ ?side1 ?side2 A36.out).mono ?_); (case side1 => exact xC ((Kd.R_reads' HO417.out).2.2)); (case side2 => exact (Kd.R_reads' HO417.out).2.1); rintro e w50 ⟨rfl, hb⟩; replace HO_7 := am (Kd.N_below (by exact rN HO_7) hb); replace HO_9 := am (Kd.N_below (by exact rN HO_9) hb); replace HL411_0 := am (Kd.V_below (by exact rV HL411_0) hb); replace HO417 := am (Kd.R_below (by exact rR HO417) hb); replace HB := am (below_step (by exact rB HB) hb); clear hb) | ((with_reducible refine gate_builtin (b := .append) (xs := #[.tmp 56, .tmp 58]) rfl ?_); at_builtin; refine Kd.N_append (Kd.slice 3 (Kd.int .i64)) (w0 := w) w.heap.size rfl (.tmp 56) (.tmp 58) 22 36 (.slice none 0 0) 24 rfl Try.underlying22 info36 rfl (by decide) (by omega) u9 x9_3 y415 [.slice Ao49 y415.length co49] (fun k_ => (w.heap.size ≤ k_) ∧ some k_ ≠ (.slice (some ad411) x7_1.length co13 : Value).ownBlock) (fun k_ => ((fun k_ => (w.heap.size ≤ k_) ∧ some k_ ≠ (.slice (some ad411) x7_1.length co13 : Value).ownBlock)) k_ ∧ some k_ ≠ (u9 : Value).ownBlock) rfl rfl ?aP (fun _ hk => hk) ?aF ?aO ?aB ?aS ?aL ?_; (case aP => exact (Kd.FK_slice_mk (Kd.R_reads' (Kd.R_mono (ok' := (fun k_ => ((fun k_ => (w.heap.size ≤ k_) ∧ some k_ ≠ (.slice (some ad411) x7_1.length co13 : Value).ownBlock)) k_ ∧ some k_ ≠ (u9 : Value).ownBlock)) (Kd.R_apart' (Kd.R_apart' (HO417.out) (Kd.N_typed HO_7.out) (by decide)) (Kd.N_typed HO_9.out) (by decide)) (fun k_ hk => ⟨⟨hk.1.1, hk.1.2⟩, hk.2⟩))).2.1 (Kd.R_F (Kd.R_mono (ok' := (fun k_ => ((fun k_ => (w.heap.size ≤ k_) ∧ some k_ ≠ (.slice (some ad411) x7_1.length co13 : Value).ownBlock)) k_ ∧ some k_ ≠ (u9 : Value).ownBlock)) (Kd.R_apart' (Kd.R_apart' (HO417.out) (Kd.N_typed HO_7.out) (by decide)) (Kd.N_typed HO_9.out) (by decide)) (fun k_ hk => ⟨⟨hk.1.1, hk.1.2⟩, hk.2⟩))))); (case aB => exact (by exact rB HB)); (case aF => exact (fun k_ hk => ⟨(Nat.le_trans (below_size (by exact rB HB)) hk), Kd.fresh' (Kd.N_lt (by exact rN HO_7)) k_ hk⟩)); (case aO => exact (by exact xN (Kd.N_mono HO_9.out (fun _ hk => ⟨hk.1.1, hk.1.2⟩)))); (case aS => exact (below_size (by exact rB HB))); (case aL => have := LMc44.out; omega); intro v424 w51 ho hb hg hat; rw [← Ny423.out] at ho; replace HO_7 := am (Kd.N_afterv (ok := (fun k_ => (w.heap.size ≤ k_) ∧ some k_ ≠ (.slice Ao49 y415.length co49 : Value).ownBlock)) (by exact xN (Kd.N_mono HO_7.out (fun _ hk => ⟨⟨hk.1.1, hk.2⟩, hk.1.2⟩))) hg hat); replace HL411_0 := am (Kd.V_afterv (ok := (fun k_ => (w.heap.size ≤ k_) ∧ some k_ ≠ (.slice (some ad411) x7_1.length co13 : Value).ownBlock ∧ some k_ ≠ (.slice Ao49 y415.length co49 : Value).ownBlock)) (by exact xV (Kd.V_mono HL411_0.out (fun _ hk => ⟨⟨hk.1.1, ⟨hk.1.2.1, hk.2⟩⟩, hk.1.2.2⟩))) hg hat); replace HB := am (hb); have HO425 := am (ho); clear HO_9 HO417; clear ho hb hg hat)); go_roundg k3
                 case measure => have := HK1.out; have := HK2.out; have := HK3.out; omega
                 case rel => exact ⟨(y423), (wrap64 (x11_3 + 1)), (by first | rfl | (simp; done) | (simp [*]; done)), H', ⟨by have := HK1.out; have := HK2.out; have := HK3.out; omega⟩, ⟨by exact xN (Kd.N_mono HO_7.out (fun _ hk => ⟨hk.1.1, hk.2⟩))⟩, ⟨by exact rN HO425⟩, ⟨by exact rB HB⟩⟩
                ·rw [if_neg c44] at H; exact absurd H (by simp)
             ·rw [if_neg c18] at H; exact absurd H (by simp)
            ·rw [if_neg c17] at H; exact absurd H (by simp)
           ·rw [if_neg c16] at H; exact absurd H (by simp)
          ·rw [if_neg c15] at H; exact absurd H (by simp)
         ·rw [if_neg c14] at H; have c14b0 : decide (x11_3 < a0) = false := decide_eq_false c14; clear c14; have H' := am H; clear H; go_wp2; go_roundg k3
          case measure => have := HK1.out; have := HK2.out; have := HK3.out; omega
          case rel => exact ⟨(x9_3), (wrap64 (x10_2 + 1)), (by first | rfl | (simp; done) | (simp [*]; done)), H', ⟨by have := HK1.out; have := HK2.out; have := HK3.out; omega⟩, ⟨by exact rN HO_7⟩, ⟨by exact rN HO_9⟩, ⟨by exact rB HB⟩⟩
      ·rw [if_neg c12] at H; have c12b0 : decide (x10_2 < (x7_1.length : Int)) = false := decide_eq_false c12; clear c12; have H' := am H; clear H; obtain ⟨Ao52, co52, eo52⟩ := Kd.N_slice HO_7.out; subst eo52; go_wp2; go_roundg k2
       case measure => have := HK1.out; have := HK2.out; omega
       case rel => exact ⟨(x9_2), (wrap64 (x8_1 + 1)), (by first | rfl | (simp; done) | (simp [*]; done)), H', ⟨by have := HK1.out; have := HK2.out; omega⟩, ⟨by exact xN (Kd.N_mono HO_9.out (fun _ hk => hk.1))⟩, ⟨by exact rB HB⟩⟩
   ·rw [if_neg c9] at H; have c9b0 : decide (x8_1 < a1) = false := decide_eq_false c9; clear c9; obtain rfl := Option.some.inj H; go_wp2; go_ret; exact ⟨_, by first | rfl | (simp [errW_none, errW_some] <;> rfl) | (simp [*, errW_none, errW_some] <;> rfl), by exact rN HO_7, by exact rB HB⟩
mutual
def spec_KeepsOverlapFree.j0 : Nat → Int → Bool → List (List Int) → Option (Bool)
 | 0, _, _, _ => none
 | k + 1, x1, x22, x427000 => if x22 = true then (some false) else ((spec_l29Words.f k 2 x1 true).bind fun t429 => (spec_KeepsOverlapFree.l0 k t429 0 x427000))
def spec_KeepsOverlapFree.l0 : Nat → List (List Int) → Int → List (List Int) → Option (Bool)
 | 0, _, _, _ => none
 | k + 1, x5, x6, x427000 => if x6 < (x5.length : Int) then (if 0 ≤ x6 then ((spec_ApplyMorphism.f k x427000 (rd_L1 x5 x6)).bind fun bt433 => (if bt433.2 = true then ((spec_HasOverlap.f k bt433.1).bind fun t437 => (if t437 = true then (some false) else (spec_KeepsOverlapFree.l0 k x5 (wrap64 (x6 + 1)) x427000))) else (some false))) else (none)) else (some true)
end
def spec_KeepsOverlapFree.f (k : Nat) (l0_0 : List (List Int)) (a1 : Int) : Option (Bool) := (spec_IsMorphism.f k l0_0).bind fun t427 => (if t427 = true then (if (l0_0.length : Int) = 2 then ((spec_l1In.f a1 0 5).bind fun t428 => (spec_KeepsOverlapFree.j0 k a1 (!t428) l0_0)) else (spec_KeepsOverlapFree.j0 k a1 true l0_0)) else (spec_KeepsOverlapFree.j0 k a1 true l0_0))
theorem spec_KeepsOverlapFree.mono_l : ∀ k, (∀ y0 y1 y2, LeO (spec_KeepsOverlapFree.j0 k y0 y1 y2) (spec_KeepsOverlapFree.j0 (k + 1) y0 y1 y2)) ∧ (∀ y0 y1 y2, LeO (spec_KeepsOverlapFree.l0 k y0 y1 y2) (spec_KeepsOverlapFree.l0 (k + 1) y0 y1 y2))
 | 0 => ⟨fun _ _ _ r h => by simp [spec_KeepsOverlapFree.j0] at h, fun _ _ _ r h => by simp [spec_KeepsOverlapFree.l0] at h⟩
 | k + 1 => by
  obtain ⟨ih0, ih1⟩ := spec_KeepsOverlapFree.mono_l k; refine ⟨?_, ?_⟩
  ·intro y0 y1 y2; unfold spec_KeepsOverlapFree.j0
   repeat' first
   | (with_reducible exact ih0 _ _ _)
   | (with_reducible exact ih1 _ _ _)
   | (with_reducible exact spec_ApplyMorphism.mono _ _ _)
   | (with_reducible exact spec_HasOverlap.mono _ _)
   | (with_reducible exact spec_IsMorphism.mono _ _)
   | (with_reducible exact spec_l29Words.mono _ _ _ _)
   | (with_reducible exact LeO.refl _)
   | (with_reducible exact LeO.none _)
   | (with_reducible refine LeO.ite ?_ ?_)
   | (with_reducible refine LeO.bind ?_ (fun _ => ?_))
  ·intro y0 y1 y2; unfold spec_KeepsOverlapFree.l0
   repeat' first
   | (with_reducible exact ih0 _ _ _)
   | (with_reducible exact ih1 _ _ _)
   | (with_reducible exact spec_ApplyMorphism.mono _ _ _)
   | (with_reducible exact spec_HasOverlap.mono _ _)
   | (with_reducible exact spec_IsMorphism.mono _ _)
   | (with_reducible exact spec_l29Words.mono _ _ _ _)
   | (with_reducible exact LeO.refl _)
   | (with_reducible exact LeO.none _)
   | (with_reducible refine LeO.ite ?_ ?_)
   | (with_reducible refine LeO.bind ?_ (fun _ => ?_))
theorem spec_KeepsOverlapFree.mono : ∀ a0 a1 k, LeO (spec_KeepsOverlapFree.f k a0 a1) (spec_KeepsOverlapFree.f (k + 1) a0 a1) := by
 intro a0 a1 k; obtain ⟨ih0, ih1⟩ := spec_KeepsOverlapFree.mono_l k; unfold spec_KeepsOverlapFree.f
 repeat' first
   | (with_reducible exact ih0 _ _ _)
   | (with_reducible exact ih1 _ _ _)
   | (with_reducible exact spec_ApplyMorphism.mono _ _ _)
   | (with_reducible exact spec_HasOverlap.mono _ _)
   | (with_reducible exact spec_IsMorphism.mono _ _)
   | (with_reducible exact spec_l29Words.mono _ _ _ _)
   | (with_reducible exact LeO.refl _)
   | (with_reducible exact LeO.none _)
   | (with_reducible refine LeO.ite ?_ ?_)
   | (with_reducible refine LeO.bind ?_ (fun _ => ?_))
def spec_KeepsOverlapFree.T7 : Bool × List (List Nat × List Nat) := (true, [([], []), ([], []), ([], []), ([1, 2], [1, 2]), ([3], [3]), ([0, 4], [0, 4]), ([5], [5]), ([6], [6]), ([6], [6]), ([7, 5, 0, 1, 2, 3, 4, 5, 6, 7], [7]), ([8, 9, 0, 1, 2, 3, 4, 5, 6, 7, 8, 9], [8])])
def spec_KeepsOverlapFree.B7 : List Nat := [0, 0, 0, 6, 14, 31, 63, 127, 127, 255, 1023]
theorem spec_KeepsOverlapFree.tab7 : rtab .any (opsOf Try.f33 7) = spec_KeepsOverlapFree.T7 := by kernel_rfl
theorem spec_KeepsOverlapFree.bits7 : waitsOk spec_KeepsOverlapFree.T7.2 spec_KeepsOverlapFree.B7 = true := by kernel_rfl
set_option maxHeartbeats 8000000 in
set_option maxRecDepth 100000 in
theorem spec_KeepsOverlapFree.calls (k : Nat) (A0_0 : Option Addr) (c0_0 : Nat) (l0_0 : List (List Int)) (a1 : Int) (r : Bool) (w : World) (hr0_0 : Kd.C (Kd.slice 3 (Kd.int .i64)) w A0_0 l0_0.length l0_0) (hc0_0 : l0_0.length ≤ c0_0) (h : spec_KeepsOverlapFree.f k l0_0 a1 = some r) :
  Calls Try.prog 33 #[.agg #[.slice A0_0 l0_0.length c0_0], .int .i64 a1] w fun e w' => e = .returned (.bool r) ∧ Below w.heap.size w w' := by
 have hu28 := Try.underlying28; have HR0_0 := am hr0_0; have HC0_0 := am hc0_0; clear hr0_0 hc0_0; have HB := am (Below.refl w.heap.size w); have H : ((spec_IsMorphism.f k l0_0).bind fun t427 => (if t427 = true then (if (l0_0.length : Int) = 2 then ((spec_l1In.f a1 0 5).bind fun t428 => (spec_KeepsOverlapFree.j0 k a1 (!t428) l0_0)) else (spec_KeepsOverlapFree.j0 k a1 true l0_0)) else (spec_KeepsOverlapFree.j0 k a1 true l0_0))) = some r := h; clear h; have HC3 := am H; clear H; go_enter Try.func33, Try.ntmps33; go_upto_region 1 with (first | ((with_reducible refine gate_dst (N := 2) rfl ?_); (try (refine gate_guard (by rfl) ?_; dsimp only)); refine box_event ?hg (N := 2) ?hd (cs := #[.slice A0_0 l0_0.length c0_0]) (t := 28) ?hr ?_; (case hd => rfl); (case hg => rfl); (case hr => first | (go_simp; done) | (go_simp; rfl)); intro gb426 hg w4 hbox hb; have BK426 := am (hbox); have GW426 := am ((by rw [hg]; exact (below_size (by exact rB HB)) : w.heap.size ≤ gb426)); have GE426 := am ((by rw [hg]; exact (below_size (by exact rB HB)) : w.heap.size ≤ gb426)); replace HB := am (below_step (by exact rB HB) hb); have qW426 := Ge.mk GW426.out; have qE426 := Ge.mk GE426.out; clear hb hbox hg)); (try simp only [Act.put, qa, qz, qs]); go_cut [22] (fun v22 wc => ∃ (kq : Nat) (x22_2 : Bool), v22 = .bool x22_2 ∧ Aside0 (spec_KeepsOverlapFree.j0 kq a1 x22_2 l0_0 = some r) ∧ Aside0 (kq ≤ k) ∧ Aside0 (wc.heap[gb426]? = some (.cells #[(.slice A0_0 l0_0.length c0_0)] 28 (0, 0))) ∧ Aside0 (Below w.heap.size w wc))
 case first =>
  have H := HC3.out; clear HC3; replace H := Option.bind_eq_some_iff.mp H; obtain ⟨t427, A50, H⟩ := H; replace H : (if t427 = true then (if (l0_0.length : Int) = 2 then ((spec_l1In.f a1 0 5).bind fun t428 => (spec_KeepsOverlapFree.j0 k a1 (!t428) l0_0)) else (spec_KeepsOverlapFree.j0 k a1 true l0_0)) else (spec_KeepsOverlapFree.j0 k a1 true l0_0)) = some r := H; have A5 := am A50; clear A50; by_cases c6 : t427 = true
  ·subst c6; have H1 : (if (l0_0.length : Int) = 2 then ((spec_l1In.f a1 0 5).bind fun t428 => (spec_KeepsOverlapFree.j0 k a1 (!t428) l0_0)) else (spec_KeepsOverlapFree.j0 k a1 true l0_0)) = some r := by rw [if_pos rfl] at H; exact H
   clear H; have H := H1; clear H1; by_cases c7 : (l0_0.length : Int) = 2
   ·rw [if_pos c7] at H; have c7b0 : ((l0_0.length : Int) == 2) = true := beq_iff_eq.mpr c7; have c7b1 : ((l0_0.length : Int) != 2) = false := bne_eq_false_iff_eq.mpr c7; clear c7
    (first | rw [c7b0] | (simp only [i64_w, i32_w]; rw [c7b0]) | skip)
    replace H := Option.bind_eq_some_iff.mp H; obtain ⟨t428, A80, H⟩ := H; replace H : (spec_KeepsOverlapFree.j0 k a1 (!t428) l0_0) = some r := H; have A8 := am A80; clear A80; have H' := am H; clear H; have hcz9_0 : w4.cell? ⟨gb426, 0, none⟩ = some (.slice A0_0 l0_0.length c0_0) := (blk_cell BK426.out 0).trans rfl; have hfz9_0 := blk_frozen BK426.out 0; go_wp2_with (first | ((with_reducible refine gate_callee (f := 109) rfl ?_); refine goesL_ (some 10) rfl rfl Try.func109 (by kernel_rfl) rfl #[.agg #[.slice A0_0 l0_0.length c0_0]] rfl (by (try simp only [mT, mC, mN]); first | done | rfl) ?_; (with_reducible refine (spec_IsMorphism.calls k _ _ l0_0 true _ ?side1 ?side2 A5.out).mono ?_); (case side1 => exact xC ((Kd.C_below HR0_0.out HB.out))); (case side2 => exact HC0_0.out); rintro e w10 ⟨rfl, hb⟩; refine ⟨_, rfl, ?_⟩; replace BK426 := am (blk_below (g := gb426) (o := .cells #[.slice A0_0 l0_0.length c0_0] 28 (0, 0)) (by exact rX BK426) hb); replace HB := am (below_step (by exact rB HB) hb); clear hb; have hcz11_0 : w10.cell? ⟨gb426, 0, none⟩ = some (.slice A0_0 l0_0.length c0_0) := (blk_cell BK426.out 0).trans rfl; have hfz11_0 := blk_frozen BK426.out 0) | (go_at_call 115; (with_reducible refine (spec_l1In.calls a1 0 5 t428 _ A8.out).mono ?_); rintro e w' ⟨rfl, ⟨nd, rfl⟩⟩)); go_meet
    case rel => exact ⟨_, (!t428), (by first | rfl | (simp; done) | (simp [*]; done)), H', ⟨by first | omega | exact Nat.le_refl _⟩, ⟨by exact rX BK426⟩, ⟨by exact rB HB⟩⟩
   ·rw [if_neg c7] at H; have c7b0 : ((l0_0.length : Int) == 2) = false := beq_eq_false_iff_ne.mpr c7; have c7b1 : ((l0_0.length : Int) != 2) = true := bne_iff_ne.mpr c7
    (first | rw [c7b0] | (simp only [i64_w, i32_w]; rw [c7b0]) | skip)
    have H' := am H; clear H; have hcz12_0 : w4.cell? ⟨gb426, 0, none⟩ = some (.slice A0_0 l0_0.length c0_0) := (blk_cell BK426.out 0).trans rfl; have hfz12_0 := blk_frozen BK426.out 0; go_wp2_with (first | ((with_reducible refine gate_callee (f := 109) rfl ?_); refine goesL_ (some 10) rfl rfl Try.func109 (by kernel_rfl) rfl #[.agg #[.slice A0_0 l0_0.length c0_0]] rfl (by (try simp only [mT, mC, mN]); first | done | rfl) ?_; (with_reducible refine (spec_IsMorphism.calls k _ _ l0_0 true _ ?side1 ?side2 A5.out).mono ?_); (case side1 => exact xC ((Kd.C_below HR0_0.out HB.out))); (case side2 => exact HC0_0.out); rintro e w13 ⟨rfl, hb⟩; refine ⟨_, rfl, ?_⟩; replace BK426 := am (blk_below (g := gb426) (o := .cells #[.slice A0_0 l0_0.length c0_0] 28 (0, 0)) (by exact rX BK426) hb); replace HB := am (below_step (by exact rB HB) hb); clear hb; have hcz14_0 : w13.cell? ⟨gb426, 0, none⟩ = some (.slice A0_0 l0_0.length c0_0) := (blk_cell BK426.out 0).trans rfl; have hfz14_0 := blk_frozen BK426.out 0)); go_meet
    case rel => exact ⟨_, (true), (by first | rfl | (simp; done) | (simp [*]; done)), H', ⟨by first | omega | exact Nat.le_refl _⟩, ⟨by exact rX BK426⟩, ⟨by exact rB HB⟩⟩
  ·replace c6 := Bool.eq_false_iff.mpr c6; subst c6; have H1 : (spec_KeepsOverlapFree.j0 k a1 true l0_0) = some r := by rw [if_neg (show ¬ (false = true) by decide)] at H; exact H
   clear H; have H := H1; clear H1; have H' := am H; clear H; have hcz15_0 : w4.cell? ⟨gb426, 0, none⟩ = some (.slice A0_0 l0_0.length c0_0) := (blk_cell BK426.out 0).trans rfl; have hfz15_0 := blk_frozen BK426.out 0; go_wp2_with (first | ((with_reducible refine gate_callee (f := 109) rfl ?_); refine goesL_ (some 10) rfl rfl Try.func109 (by kernel_rfl) rfl #[.agg #[.slice A0_0 l0_0.length c0_0]] rfl (by (try simp only [mT, mC, mN]); first | done | rfl) ?_; (with_reducible refine (spec_IsMorphism.calls k _ _ l0_0 false _ ?side1 ?side2 A5.out).mono ?_); (case side1 => exact xC ((Kd.C_below HR0_0.out HB.out))); (case side2 => exact HC0_0.out); rintro e w16 ⟨rfl, hb⟩; refine ⟨_, rfl, ?_⟩; replace BK426 := am (blk_below (g := gb426) (o := .cells #[.slice A0_0 l0_0.length c0_0] 28 (0, 0)) (by exact rX BK426) hb); replace HB := am (below_step (by exact rB HB) hb); clear hb)); go_meet
   case rel => exact ⟨_, (true), (by first | rfl | (simp; done) | (simp [*]; done)), H', ⟨by first | omega | exact Nat.le_refl _⟩, ⟨by exact rX BK426⟩, ⟨by exact rB HB⟩⟩
 case rest =>
  clear HC3
  try clear c1
  try clear p2
  try clear c3
  try clear c6
  try clear c7
  try clear c7b0
  try clear c7b1
  try clear c10
  try clear hcz11_0
  try clear hcz12_0
  try clear hcz14_0
  try clear hcz15_0
  try clear hcz9_0
  try clear hfz11_0
  try clear hfz12_0
  try clear hfz14_0
  try clear hfz15_0
  try clear hfz9_0
  obtain ⟨kq, x22_2, rfl, HA, HJ2, BK426, HB⟩ := hcut; cases kq with
  | zero => exact absurd HA.out (by simp [spec_KeepsOverlapFree.j0])
  | succ kj2 =>
   have H := HA.out; clear HA; simp only [spec_KeepsOverlapFree.j0] at H; by_cases c17 : x22_2 = true
   ·subst c17; have H1 : (some false) = some r := by rw [if_pos rfl] at H; exact H
    clear H; have H := H1; clear H1; obtain rfl := Option.some.inj H; go_wp2; go_ret; exact ⟨by first | rfl | (simp [errW_none, errW_some] <;> rfl) | (simp [*, errW_none, errW_some] <;> rfl), by exact rB HB⟩
   ·replace c17 := Bool.eq_false_iff.mpr c17; subst c17; have H1 : ((spec_l29Words.f kj2 2 a1 true).bind fun t429 => (spec_KeepsOverlapFree.l0 kj2 t429 0 l0_0)) = some r := by rw [if_neg (show ¬ (false = true) by decide)] at H; exact H
    clear H; have H := H1; clear H1; replace H := Option.bind_eq_some_iff.mp H; obtain ⟨t429, A180, H⟩ := H; replace H : (spec_KeepsOverlapFree.l0 kj2 t429 0 l0_0) = some r := H; have A18 := am A180; clear A180; have H' := am H; clear H; go_wp2_with (first | ((with_reducible refine gate_callee (f := 116) rfl ?_); refine goesL_ (some 24) rfl rfl Try.func116 (by kernel_rfl) rfl #[.int .i64 2, .int .i64 a1, .bool true] rfl (by (try simp only [mT, mC, mN]); first | done | rfl) ?_; (with_reducible refine (spec_l29Words.calls kj2 2 a1 true t429 _ A18.out).mono ?_); rintro e w19 ⟨v430, rfl, ho0, hb⟩; refine ⟨_, rfl, ?_⟩; have HO431 := am (Kd.N_lower (Kd.N_mono (ok' := fun k_ => k_ ≠ gb426) ho0 (fun k_ hk_ => (Kd.freshB (g := gb426) (o := .cells #[.slice A0_0 l0_0.length c0_0] 28 (0, 0)) (by exact rX BK426) k_ hk_))) (below_size (by exact rB HB))); replace BK426 := am (blk_below (g := gb426) (o := .cells #[.slice A0_0 l0_0.length c0_0] 28 (0, 0)) (by exact rX BK426) hb); replace HB := am (below_step (by exact rB HB) hb); clear hb ho0)); go_loopg [6] kj2 (fun kq v6 w' => ∃ (x6_2 : Int), v6 = .int .i64 x6_2 ∧ Aside0 (spec_KeepsOverlapFree.l0 kq t429 x6_2 l0_0 = some r) ∧ Aside0 (kq ≤ kj2) ∧ Aside0 (Kd.N (Kd.slice 3 (Kd.int .i64)) 36 w' w.heap.size (fun k_ => k_ ≠ gb426) v430 t429) ∧ Aside0 (w'.heap[gb426]? = some (.cells #[(.slice A0_0 l0_0.length c0_0)] 28 (0, 0))) ∧ Aside0 (Below w.heap.size w w'))
    case atStart => exact ⟨(0), (by first | rfl | (simp; done) | (simp [*]; done)), H', ⟨Nat.le_refl _⟩, ⟨by exact rN HO431⟩, ⟨by exact rX BK426⟩, ⟨by exact rB HB⟩⟩
    case round =>
     clear H'
     try clear c1
     try clear p2
     try clear c3
     try clear c6
     try clear c7
     try clear c7b0
     try clear c7b1
     try clear c10
     try clear c11
     try clear c17
     try clear hcz11_0
     try clear hcz12_0
     try clear hcz14_0
     try clear hcz15_0
     try clear hcz9_0
     try clear hfz11_0
     try clear hfz12_0
     try clear hfz14_0
     try clear hfz15_0
     try clear hfz9_0
     try clear p2
     obtain ⟨x6_2, rfl, HA, HK2, HO_5, BK426, HB⟩ := hrel; cases gk with
     | zero => exact absurd HA.out (by simp [spec_KeepsOverlapFree.l0])
     | succ k2 =>
      have H := HA.out; clear HA; simp only [spec_KeepsOverlapFree.l0] at H; by_cases c20 : x6_2 < (t429.length : Int)
      ·rw [if_pos c20] at H; have c20b0 : decide (x6_2 < (t429.length : Int)) = true := decide_eq_true c20; clear c20; by_cases c21 : 0 ≤ x6_2
       ·rw [if_pos c21] at H; have c21b0 : decide (0 ≤ x6_2) = true := decide_eq_true c21; clear c21; replace H := Option.bind_eq_some_iff.mp H; obtain ⟨⟨t433, t436⟩, A220, H⟩ := H; replace H : (if t436 = true then ((spec_HasOverlap.f k2 t433).bind fun t437 => (if t437 = true then (some false) else (spec_KeepsOverlapFree.l0 k2 t429 (wrap64 (x6_2 + 1)) l0_0))) else (some false)) = some r := H; have A22 := am A220; clear A220; by_cases c23 : t436 = true
        ·subst c23; have H1 : ((spec_HasOverlap.f k2 t433).bind fun t437 => (if t437 = true then (some false) else (spec_KeepsOverlapFree.l0 k2 t429 (wrap64 (x6_2 + 1)) l0_0))) = some r := by rw [if_pos rfl] at H; exact H
         clear H; have H := H1; clear H1; replace H := Option.bind_eq_some_iff.mp H; obtain ⟨t437, A240, H⟩ := H; replace H : (if t437 = true then (some false) else (spec_KeepsOverlapFree.l0 k2 t429 (wrap64 (x6_2 + 1)) l0_0)) = some r := H; have A24 := am A240; clear A240; by_cases c25 : t437 = true
         ·subst c25; have H1 : (some false) = some r := by rw [if_pos rfl] at H; exact H
          clear H; have H := H1; clear H1; obtain rfl := Option.some.inj H; obtain ⟨Ao26, co26, eo26⟩ := Kd.N_slice HO_5.out; subst eo26
          try go_wp2
          replace HO_5 := am (Kd.N_drew HO_5.out); replace BK426 := am (blk_drew BK426.out); replace HB := am (below_drew1 HB.out)
          have p432 : 0 ≤ (x6_2 : Int) := of_decide_eq_true (by first | (with_reducible assumption) | assumption); have q432 : x6_2 < (t429.length : Int) := of_decide_eq_true (by first | (with_reducible assumption) | assumption); obtain ⟨ad432, A432_0, c432_0, e432, hx432_0, hl432_0, hi432_0⟩ := at_L1 (Kd.N_reads' HO_5.out).2.2 x6_2 p432 q432; cases e432; obtain ⟨ce432, hce432, hMe432, hcc432⟩ := Kd.N_get HO_5.out [] x6_2 p432 (by first | exact q432 | exact of_decide_eq_true (by first | (with_reducible assumption) | assumption) | (have e_ := (Kd.N_reads' HO_5.out).1; omega)); obtain ⟨ua432_0, uc432_0, rfl, ul432_0, ge432_0⟩ := Kd.FK_slice_open hMe432; have hv432_0 := hcc432 0 _ rfl; rw [Nat.add_zero, show ((Kd.slice 3 (Kd.int .i64))).sz = 1 from rfl, Nat.mul_one] at hv432_0; replace hv432_0 := Option.some.inj (hv432_0.symm.trans hx432_0); injection hv432_0 with hva_ hvn_ hvc_; rw [hva_] at ge432_0; rw [hvc_] at ul432_0; have HL432_0 := am (show Kd.V (Kd.int .i64) 3 _ w.heap.size _ _ (rd_L1 t429 x6_2) from Kd.V_mk ul432_0 ge432_0); clear hva_ hvn_ hvc_ ge432_0 ul432_0; clear hcc432 hce432; have HR432_0 := am hi432_0; have HC432_0 := am hl432_0; clear hi432_0 hl432_0; replace p432 := eq_true p432; replace q432 := eq_true q432; refine start_ (n := 11) (S := fun w' => w'.cell? ⟨gb426, 0, none⟩ = some (.slice A0_0 l0_0.length c0_0) ∧ w'.cell? (ad432.add (x6_2).toNat) = some (.slice A432_0 (rd_L1 t429 x6_2).length c432_0)) (ds := []) #[false, false, false, false, false, false, false, false, false, false, false] (by kernel_rfl) rfl rfl ⟨(blk_cell BK426.out 0).trans rfl, hx432_0⟩ (fun hHeld => ?_); refine with_tabW spec_KeepsOverlapFree.tab7 spec_KeepsOverlapFree.bits7 (fun HT_ HW_ => ?_); generalize wr.drew = w27 at HO_5 BK426 HB HL432_0 HR432_0 hx432_0 hHeld ⊢; refine pure_ (i := 1) (N := some 33) (v := ?_) (a' := ?_) (bA 11 2) rfl rfl (any_of HT_.out (by kernel_rfl)) (fun _ _ _ h => h) (Or.inl ⟨by rfl, ?_⟩) ?_ ?_; rotate_left; (intro w'; go_simp; (with_reducible rfl)); rotate_left; (simp only [Act.put, qa, qz, qs, i64_w, i32_w]; rfl); refine pure_ (i := 2) (N := some 34) (v := ?_) (a' := ?_) (bA 11 6) rfl rfl (any_of HT_.out (by kernel_rfl)) (fun _ _ _ h => h) (Or.inl ⟨by rfl, ?_⟩) ?_ ?_; rotate_left
          ·intro w'; go_simp; (with_reducible rfl)
          rotate_left; (simp only [Act.put, qa, qz, qs, i64_w, i32_w]; rfl); refine pure_ (i := 3) (N := some 35) (v := ?_) (a' := ?_) (bA 11 14) rfl rfl (any_of HT_.out (by kernel_rfl)) (fun _ _ _ h => h) (Or.inl ⟨by rfl, ?_⟩) ?_ ?_; rotate_left
          ·intro w'; go_simp; (with_reducible rfl)
          rotate_left; (simp only [Act.put, qa, qz, qs, i64_w, i32_w]; rfl); refine take_ (i := 0) (N := some 32) (v := ?_) (a' := ?_) (bA 11 15) rfl rfl (take_ofW HT_.out HW_.out (by kernel_rfl)) (fun _ _ _ h => h) (Or.inl ⟨by rfl, ?_⟩) hHeld ?_ ?_; rotate_left
          ·rintro w' ⟨s0, s1⟩; go_simp; (with_reducible rfl)
          rotate_left; (simp only [Act.put, qa, qz, qs, i64_w, i32_w]; rfl); refine take_ (i := 4) (N := some 36) (v := ?_) (a' := ?_) (bA 11 31) rfl rfl (take_ofW HT_.out HW_.out (by kernel_rfl)) (fun _ _ _ h => h) (Or.inl ⟨by rfl, ?_⟩) hHeld ?_ ?_; rotate_left
          ·rintro w' ⟨s0, s1⟩; go_simp; (with_reducible rfl)
          rotate_left; (simp only [Act.put, qa, qz, qs, i64_w, i32_w]; rfl); refine one_ (i := 5) (N := some 37) (bA 11 63) rfl rfl (one_of HT_.out (by kernel_rfl)) (by decide) (fun K hK => ?_); refine goes_ Try.func95 (by kernel_rfl) rfl #[.agg #[.slice A0_0 l0_0.length c0_0], .slice A432_0 (rd_L1 t429 x6_2).length c432_0] (by rfl) rfl rfl (by (try simp only [mT, mC, mN]); first | done | rfl) ?_; (with_reducible refine (spec_ApplyMorphism.calls k2 _ _ l0_0 _ _ (rd_L1 t429 x6_2) t433 true _ ?side1 ?side2 ?side3 ?side4 A22.out).mono ?_); (case side1 => exact xC ((Kd.C_below HR0_0.out HB.out))); (case side2 => exact HC0_0.out); (case side3 => repeat (first | exact (by repeat (first | (with_reducible exact HR432_0.out) | (with_reducible refine Kd.C_alloc ?_ _) | (with_reducible refine Kd.C_drewN ?_ _) | (with_reducible refine Kd.C_drew ?_) | exact HR432_0.out)) | (with_reducible refine Kd.C_alloc ?_ _) | (with_reducible refine Kd.C_drewN ?_ _) | (with_reducible refine Kd.C_drew ?_))); (case side4 => exact HC432_0.out); rintro e w28 ⟨v434, rfl, ho0, hb⟩; have HS1_ := (hb.cell (World.block_lt_of_cell? _ _ (hHeld.2))).trans (hHeld.2); refine ⟨_, rfl, ?_⟩; replace HO_5 := am (Kd.N_elder' (by exact rN HO_5) (Kd.R_base ho0) hb); replace HL432_0 := am (Kd.V_elder' (by exact rV HL432_0) (Kd.R_base ho0) hb); have HO435 := am (Kd.R_lower ho0 (below_size (by exact rB HB))); replace BK426 := am (blk_below (g := gb426) (o := .cells #[.slice A0_0 l0_0.length c0_0] 28 (0, 0)) (by exact rX BK426) hb); replace HR432_0 := am (Kd.C_below (by repeat (first | (with_reducible exact HR432_0.out) | (with_reducible refine Kd.C_alloc ?_ _) | (with_reducible refine Kd.C_drewN ?_ _) | (with_reducible refine Kd.C_drew ?_) | exact HR432_0.out)) hb); replace HB := am (below_step (by exact rB HB) hb)
          (try clear hb); (try clear hb2); (try clear hk); (try clear hi); (try clear ho0); refine hK.out _ _ ⟨(blk_cell BK426.out 0).trans rfl, HS1_⟩ (fun hHeld => ?_); clear hK K; refine norm_ (a' := ?_) ?_ ?_; rotate_left; (show Act.put _ (some 37) _ = _; simp only [Act.put, qa, qz, qs, i64_w, i32_w]; rfl); refine pure_ (i := 6) (N := some 31) (v := ?_) (a' := ?_) (bA 11 127) rfl rfl (any_of HT_.out (by kernel_rfl)) (fun _ _ _ h => h) (Or.inl ⟨by rfl, ?_⟩) ?_ ?_; rotate_left
          ·intro w'; go_simp; (with_reducible rfl)
          rotate_left; (simp only [Act.put, qa, qz, qs, i64_w, i32_w]; rfl); refine pure_ (i := 7) (N := some 38) (v := ?_) (a' := ?_) (bA 11 255) rfl rfl (any_of HT_.out (by kernel_rfl)) (fun _ _ _ h => h) (Or.inl ⟨by rfl, ?_⟩) ?_ ?_; rotate_left
          ·intro w'; go_simp; (with_reducible rfl)
          rotate_left; (simp only [Act.put, qa, qz, qs, i64_w, i32_w]; rfl); refine pure_ (i := 8) (N := some 39) (v := ?_) (a' := ?_) (bA 11 511) rfl rfl (any_of HT_.out (by kernel_rfl)) (fun _ _ _ h => h) (Or.inl ⟨by rfl, ?_⟩) ?_ ?_; rotate_left
          ·intro w'; go_simp; (with_reducible rfl)
          rotate_left; (simp only [Act.put, qa, qz, qs, i64_w, i32_w]; rfl); refine pure_ (i := 9) (N := some 7) (v := ?_) (a' := ?_) (bA 11 1023) rfl rfl (any_of HT_.out (by kernel_rfl)) (fun _ _ _ h => h) (Or.inl ⟨by rfl, ?_⟩) ?_ ?_; rotate_left
          ·intro w'; go_simp; (with_reducible rfl)
          rotate_left; (simp only [Act.put, qa, qz, qs, i64_w, i32_w]; rfl); refine pure_ (i := 10) (N := some 8) (v := ?_) (a' := ?_) (bA 11 2047) rfl rfl (any_of HT_.out (by kernel_rfl)) (fun _ _ _ h => h) (Or.inl ⟨by rfl, ?_⟩) ?_ ?_; rotate_left
          ·intro w'; go_simp; (with_reducible rfl)
          rotate_left; (simp only [Act.put, qa, qz, qs, i64_w, i32_w]; rfl); refine done_ (done_of HT_.out (by kernel_rfl)) ?_; obtain ⟨Ao29, co29, eo29⟩ := Kd.R_slice HO435.out; subst eo29
          try go_wp2_with (first | (go_at_call 117; (with_reducible refine (spec_HasOverlap.calls k2 _ _ t433 true _ ?side1 ?side2 A24.out).mono ?_); (case side1 => exact xC ((Kd.R_reads' HO435.out).2.2)); (case side2 => exact (Kd.R_reads' HO435.out).2.1); rintro e w30 ⟨rfl, hb⟩; replace HO_5 := am (Kd.N_below (by exact rN HO_5) hb); replace HL432_0 := am (Kd.V_below (by exact rV HL432_0) hb); replace HO435 := am (Kd.R_below (by exact rR HO435) hb); replace BK426 := am (blk_below (g := gb426) (o := .cells #[.slice A0_0 l0_0.length c0_0] 28 (0, 0)) (by exact rX BK426) hb); replace HR432_0 := am (Kd.C_below (by repeat (first | (with_reducible exact HR432_0.out) | (with_reducible refine Kd.C_alloc ?_ _) | (with_reducible refine Kd.C_drewN ?_ _) | (with_reducible refine Kd.C_drew ?_) | exact HR432_0.out)) hb); replace HB := am (below_step (by exact rB HB) hb); clear hb))
          go_ret; exact ⟨by first | rfl | (simp [errW_none, errW_some] <;> rfl) | (simp [*, errW_none, errW_some] <;> rfl), by exact rB HB⟩
         ·replace c25 := Bool.eq_false_iff.mpr c25; subst c25; have H1 : (spec_KeepsOverlapFree.l0 k2 t429 (wrap64 (x6_2 + 1)) l0_0) = some r := by rw [if_neg (show ¬ (false = true) by decide)] at H; exact H
          clear H; have H := H1; clear H1; have H' := am H; clear H; obtain ⟨Ao31, co31, eo31⟩ := Kd.N_slice HO_5.out; subst eo31
          try go_wp2
          replace HO_5 := am (Kd.N_drew HO_5.out); replace BK426 := am (blk_drew BK426.out); replace HB := am (below_drew1 HB.out)
          have p432 : 0 ≤ (x6_2 : Int) := of_decide_eq_true (by first | (with_reducible assumption) | assumption); have q432 : x6_2 < (t429.length : Int) := of_decide_eq_true (by first | (with_reducible assumption) | assumption); obtain ⟨ad432, A432_0, c432_0, e432, hx432_0, hl432_0, hi432_0⟩ := at_L1 (Kd.N_reads' HO_5.out).2.2 x6_2 p432 q432; cases e432; obtain ⟨ce432, hce432, hMe432, hcc432⟩ := Kd.N_get HO_5.out [] x6_2 p432 (by first | exact q432 | exact of_decide_eq_true (by first | (with_reducible assumption) | assumption) | (have e_ := (Kd.N_reads' HO_5.out).1; omega)); obtain ⟨ua432_0, uc432_0, rfl, ul432_0, ge432_0⟩ := Kd.FK_slice_open hMe432; have hv432_0 := hcc432 0 _ rfl; rw [Nat.add_zero, show ((Kd.slice 3 (Kd.int .i64))).sz = 1 from rfl, Nat.mul_one] at hv432_0; replace hv432_0 := Option.some.inj (hv432_0.symm.trans hx432_0); injection hv432_0 with hva_ hvn_ hvc_; rw [hva_] at ge432_0; rw [hvc_] at ul432_0; have HL432_0 := am (show Kd.V (Kd.int .i64) 3 _ w.heap.size _ _ (rd_L1 t429 x6_2) from Kd.V_mk ul432_0 ge432_0); clear hva_ hvn_ hvc_ ge432_0 ul432_0; clear hcc432 hce432; have HR432_0 := am hi432_0; have HC432_0 := am hl432_0; clear hi432_0 hl432_0; replace p432 := eq_true p432; replace q432 := eq_true q432; refine start_ (n := 11) (S := fun w' => w'.cell? ⟨gb426, 0, none⟩ = some (.slice A0_0 l0_0.length c0_0) ∧ w'.cell? (ad432.add (x6_2).toNat) = some (.slice A432_0 (rd_L1 t429 x6_2).length c432_0)) (ds := []) #[false, false, false, false, false, false, false, false, false, false, false] (by kernel_rfl) rfl rfl ⟨(blk_cell BK426.out 0).trans rfl, hx432_0⟩ (fun hHeld => ?_); refine with_tabW spec_KeepsOverlapFree.tab7 spec_KeepsOverlapFree.bits7 (fun HT_ HW_ => ?_); generalize wr.drew = w32 at HO_5 BK426 HB HL432_0 HR432_0 hx432_0 hHeld ⊢; refine pure_ (i := 1) (N := some 33) (v := ?_) (a' := ?_) (bA 11 2) rfl rfl (any_of HT_.out (by kernel_rfl)) (fun _ _ _ h => h) (Or.inl ⟨by rfl, ?_⟩) ?_ ?_; rotate_left; (intro w'; go_simp; (with_reducible rfl)); rotate_left; (simp only [Act.put, qa, qz, qs, i64_w, i32_w]; rfl); refine pure_ (i := 2) (N := some 34) (v := ?_) (a' := ?_) (bA 11 6) rfl rfl (any_of HT_.out (by kernel_rfl)) (fun _ _ _ h => h) (Or.inl ⟨by rfl, ?_⟩) ?_ ?_; rotate_left
          ·intro w'; go_simp; (with_reducible rfl)
          rotate_left; (simp only [Act.put, qa, qz, qs, i64_w, i32_w]; rfl); refine pure_ (i := 3) (N := some 35) (v := ?_) (a' := ?_) (bA 11 14) rfl rfl (any_of HT_.out (by kernel_rfl)) (fun _ _ _ h => h) (Or.inl ⟨by rfl, ?_⟩) ?_ ?_; rotate_left
          ·intro w'; go_simp; (with_reducible rfl)
          rotate_left; (simp only [Act.put, qa, qz, qs, i64_w, i32_w]; rfl); refine take_ (i := 0) (N := some 32) (v := ?_) (a' := ?_) (bA 11 15) rfl rfl (take_ofW HT_.out HW_.out (by kernel_rfl)) (fun _ _ _ h => h) (Or.inl ⟨by rfl, ?_⟩) hHeld ?_ ?_; rotate_left
          ·rintro w' ⟨s0, s1⟩; go_simp; (with_reducible rfl)
          rotate_left; (simp only [Act.put, qa, qz, qs, i64_w, i32_w]; rfl); refine take_ (i := 4) (N := some 36) (v := ?_) (a' := ?_) (bA 11 31) rfl rfl (take_ofW HT_.out HW_.out (by kernel_rfl)) (fun _ _ _ h => h) (Or.inl ⟨by rfl, ?_⟩) hHeld ?_ ?_; rotate_left
          ·rintro w' ⟨s0, s1⟩; go_simp; (with_reducible rfl)
          rotate_left; (simp only [Act.put, qa, qz, qs, i64_w, i32_w]; rfl); refine one_ (i := 5) (N := some 37) (bA 11 63) rfl rfl (one_of HT_.out (by kernel_rfl)) (by decide) (fun K hK => ?_); refine goes_ Try.func95 (by kernel_rfl) rfl #[.agg #[.slice A0_0 l0_0.length c0_0], .slice A432_0 (rd_L1 t429 x6_2).length c432_0] (by rfl) rfl rfl (by (try simp only [mT, mC, mN]); first | done | rfl) ?_; (with_reducible refine (spec_ApplyMorphism.calls k2 _ _ l0_0 _ _ (rd_L1 t429 x6_2) t433 true _ ?side1 ?side2 ?side3 ?side4 A22.out).mono ?_); (case side1 => exact xC ((Kd.C_below HR0_0.out HB.out))); (case side2 => exact HC0_0.out); (case side3 => repeat (first | exact (by repeat (first | (with_reducible exact HR432_0.out) | (with_reducible refine Kd.C_alloc ?_ _) | (with_reducible refine Kd.C_drewN ?_ _) | (with_reducible refine Kd.C_drew ?_) | exact HR432_0.out)) | (with_reducible refine Kd.C_alloc ?_ _) | (with_reducible refine Kd.C_drewN ?_ _) | (with_reducible refine Kd.C_drew ?_))); (case side4 => exact HC432_0.out); rintro e w33 ⟨v434, rfl, ho0, hb⟩; have HS1_ := (hb.cell (World.block_lt_of_cell? _ _ (hHeld.2))).trans (hHeld.2); refine ⟨_, rfl, ?_⟩; replace HO_5 := am (Kd.N_elder' (by exact rN HO_5) (Kd.R_base ho0) hb); replace HL432_0 := am (Kd.V_elder' (by exact rV HL432_0) (Kd.R_base ho0) hb); have HO435 := am (Kd.R_lower ho0 (below_size (by exact rB HB))); replace BK426 := am (blk_below (g := gb426) (o := .cells #[.slice A0_0 l0_0.length c0_0] 28 (0, 0)) (by exact rX BK426) hb); replace HR432_0 := am (Kd.C_below (by repeat (first | (with_reducible exact HR432_0.out) | (with_reducible refine Kd.C_alloc ?_ _) | (with_reducible refine Kd.C_drewN ?_ _) | (with_reducible refine Kd.C_drew ?_) | exact HR432_0.out)) hb); replace HB := am (below_step (by exact rB HB) hb)
          (try clear hb); (try clear hb2); (try clear hk); (try clear hi); (try clear ho0); refine hK.out _ _ ⟨(blk_cell BK426.out 0).trans rfl, HS1_⟩ (fun hHeld => ?_); clear hK K; refine norm_ (a' := ?_) ?_ ?_; rotate_left; (show Act.put _ (some 37) _ = _; simp only [Act.put, qa, qz, qs, i64_w, i32_w]; rfl); refine pure_ (i := 6) (N := some 31) (v := ?_) (a' := ?_) (bA 11 127) rfl rfl (any_of HT_.out (by kernel_rfl)) (fun _ _ _ h => h) (Or.inl ⟨by rfl, ?_⟩) ?_ ?_; rotate_left
          ·intro w'; go_simp; (with_reducible rfl)
          rotate_left; (simp only [Act.put, qa, qz, qs, i64_w, i32_w]; rfl); refine pure_ (i := 7) (N := some 38) (v := ?_) (a' := ?_) (bA 11 255) rfl rfl (any_of HT_.out (by kernel_rfl)) (fun _ _ _ h => h) (Or.inl ⟨by rfl, ?_⟩) ?_ ?_; rotate_left
          ·intro w'; go_simp; (with_reducible rfl)
          rotate_left; (simp only [Act.put, qa, qz, qs, i64_w, i32_w]; rfl); refine pure_ (i := 8) (N := some 39) (v := ?_) (a' := ?_) (bA 11 511) rfl rfl (any_of HT_.out (by kernel_rfl)) (fun _ _ _ h => h) (Or.inl ⟨by rfl, ?_⟩) ?_ ?_; rotate_left
          ·intro w'; go_simp; (with_reducible rfl)
          rotate_left; (simp only [Act.put, qa, qz, qs, i64_w, i32_w]; rfl); refine pure_ (i := 9) (N := some 7) (v := ?_) (a' := ?_) (bA 11 1023) rfl rfl (any_of HT_.out (by kernel_rfl)) (fun _ _ _ h => h) (Or.inl ⟨by rfl, ?_⟩) ?_ ?_; rotate_left
          ·intro w'; go_simp; (with_reducible rfl)
          rotate_left; (simp only [Act.put, qa, qz, qs, i64_w, i32_w]; rfl); refine pure_ (i := 10) (N := some 8) (v := ?_) (a' := ?_) (bA 11 2047) rfl rfl (any_of HT_.out (by kernel_rfl)) (fun _ _ _ h => h) (Or.inl ⟨by rfl, ?_⟩) ?_ ?_; rotate_left
          ·intro w'; go_simp; (with_reducible rfl)
          rotate_left; (simp only [Act.put, qa, qz, qs, i64_w, i32_w]; rfl); refine done_ (done_of HT_.out (by kernel_rfl)) ?_; obtain ⟨Ao34, co34, eo34⟩ := Kd.R_slice HO435.out; subst eo34
          try go_wp2_with (first | (go_at_call 117; (with_reducible refine (spec_HasOverlap.calls k2 _ _ t433 false _ ?side1 ?side2 A24.out).mono ?_); (case side1 => exact xC ((Kd.R_reads' HO435.out).2.2)); (case side2 => exact (Kd.R_reads' HO435.out).2.1); rintro e w35 ⟨rfl, hb⟩; replace HO_5 := am (Kd.N_below (by exact rN HO_5) hb); replace HL432_0 := am (Kd.V_below (by exact rV HL432_0) hb); replace HO435 := am (Kd.R_below (by exact rR HO435) hb); replace BK426 := am (blk_below (g := gb426) (o := .cells #[.slice A0_0 l0_0.length c0_0] 28 (0, 0)) (by exact rX BK426) hb); replace HR432_0 := am (Kd.C_below (by repeat (first | (with_reducible exact HR432_0.out) | (with_reducible refine Kd.C_alloc ?_ _) | (with_reducible refine Kd.C_drewN ?_ _) | (with_reducible refine Kd.C_drew ?_) | exact HR432_0.out)) hb); replace HB := am (below_step (by exact rB HB) hb); clear hb))
          go_roundg k2
          case measure => have := HJ2.out; have := HK2.out; omega
          case rel => exact ⟨(wrap64 (x6_2 + 1)), (by first | rfl | (simp; done) | (simp [*]; done)), H', ⟨by have := HJ2.out; have := HK2.out; omega⟩, ⟨by exact xN (Kd.N_mono HO_5.out (fun _ hk => hk.1))⟩, ⟨by exact rX BK426⟩, ⟨by exact rB HB⟩⟩
        ·replace c23 := Bool.eq_false_iff.mpr c23; subst c23; have H1 : (some false) = some r := by rw [if_neg (show ¬ (false = true) by decide)] at H; exact H
         clear H; have H := H1; clear H1; obtain rfl := Option.some.inj H; obtain ⟨Ao36, co36, eo36⟩ := Kd.N_slice HO_5.out; subst eo36
         try go_wp2
         replace HO_5 := am (Kd.N_drew HO_5.out); replace BK426 := am (blk_drew BK426.out); replace HB := am (below_drew1 HB.out)
         have p432 : 0 ≤ (x6_2 : Int) := of_decide_eq_true (by first | (with_reducible assumption) | assumption); have q432 : x6_2 < (t429.length : Int) := of_decide_eq_true (by first | (with_reducible assumption) | assumption); obtain ⟨ad432, A432_0, c432_0, e432, hx432_0, hl432_0, hi432_0⟩ := at_L1 (Kd.N_reads' HO_5.out).2.2 x6_2 p432 q432; cases e432; obtain ⟨ce432, hce432, hMe432, hcc432⟩ := Kd.N_get HO_5.out [] x6_2 p432 (by first | exact q432 | exact of_decide_eq_true (by first | (with_reducible assumption) | assumption) | (have e_ := (Kd.N_reads' HO_5.out).1; omega)); obtain ⟨ua432_0, uc432_0, rfl, ul432_0, ge432_0⟩ := Kd.FK_slice_open hMe432; have hv432_0 := hcc432 0 _ rfl; rw [Nat.add_zero, show ((Kd.slice 3 (Kd.int .i64))).sz = 1 from rfl, Nat.mul_one] at hv432_0; replace hv432_0 := Option.some.inj (hv432_0.symm.trans hx432_0); injection hv432_0 with hva_ hvn_ hvc_; rw [hva_] at ge432_0; rw [hvc_] at ul432_0; have HL432_0 := am (show Kd.V (Kd.int .i64) 3 _ w.heap.size _ _ (rd_L1 t429 x6_2) from Kd.V_mk ul432_0 ge432_0); clear hva_ hvn_ hvc_ ge432_0 ul432_0; clear hcc432 hce432; have HR432_0 := am hi432_0; have HC432_0 := am hl432_0; clear hi432_0 hl432_0; replace p432 := eq_true p432; replace q432 := eq_true q432; refine start_ (n := 11) (S := fun w' => w'.cell? ⟨gb426, 0, none⟩ = some (.slice A0_0 l0_0.length c0_0) ∧ w'.cell? (ad432.add (x6_2).toNat) = some (.slice A432_0 (rd_L1 t429 x6_2).length c432_0)) (ds := []) #[false, false, false, false, false, false, false, false, false, false, false] (by kernel_rfl) rfl rfl ⟨(blk_cell BK426.out 0).trans rfl, hx432_0⟩ (fun hHeld => ?_); refine with_tabW spec_KeepsOverlapFree.tab7 spec_KeepsOverlapFree.bits7 (fun HT_ HW_ => ?_); generalize wr.drew = w37 at HO_5 BK426 HB HL432_0 HR432_0 hx432_0 hHeld ⊢; refine pure_ (i := 1) (N := some 33) (v := ?_) (a' := ?_) (bA 11 2) rfl rfl (any_of HT_.out (by kernel_rfl)) (fun _ _ _ h => h) (Or.inl ⟨by rfl, ?_⟩) ?_ ?_; rotate_left; (intro w'; go_simp; (with_reducible rfl)); rotate_left; (simp only [Act.put, qa, qz, qs, i64_w, i32_w]; rfl); refine pure_ (i := 2) (N := some 34) (v := ?_) (a' := ?_) (bA 11 6) rfl rfl (any_of HT_.out (by kernel_rfl)) (fun _ _ _ h => h) (Or.inl ⟨by rfl, ?_⟩) ?_ ?_; rotate_left
         ·intro w'; go_simp; (with_reducible rfl)
         rotate_left; (simp only [Act.put, qa, qz, qs, i64_w, i32_w]; rfl); refine pure_ (i := 3) (N := some 35) (v := ?_) (a' := ?_) (bA 11 14) rfl rfl (any_of HT_.out (by kernel_rfl)) (fun _ _ _ h => h) (Or.inl ⟨by rfl, ?_⟩) ?_ ?_; rotate_left
         ·intro w'; go_simp; (with_reducible rfl)
         rotate_left; (simp only [Act.put, qa, qz, qs, i64_w, i32_w]; rfl); refine take_ (i := 0) (N := some 32) (v := ?_) (a' := ?_) (bA 11 15) rfl rfl (take_ofW HT_.out HW_.out (by kernel_rfl)) (fun _ _ _ h => h) (Or.inl ⟨by rfl, ?_⟩) hHeld ?_ ?_; rotate_left
         ·rintro w' ⟨s0, s1⟩; go_simp; (with_reducible rfl)
         rotate_left; (simp only [Act.put, qa, qz, qs, i64_w, i32_w]; rfl); refine take_ (i := 4) (N := some 36) (v := ?_) (a' := ?_) (bA 11 31) rfl rfl (take_ofW HT_.out HW_.out (by kernel_rfl)) (fun _ _ _ h => h) (Or.inl ⟨by rfl, ?_⟩) hHeld ?_ ?_; rotate_left
         ·rintro w' ⟨s0, s1⟩; go_simp; (with_reducible rfl)
         rotate_left; (simp only [Act.put, qa, qz, qs, i64_w, i32_w]; rfl); refine one_ (i := 5) (N := some 37) (bA 11 63) rfl rfl (one_of HT_.out (by kernel_rfl)) (by decide) (fun K hK => ?_); refine goes_ Try.func95 (by kernel_rfl) rfl #[.agg #[.slice A0_0 l0_0.length c0_0], .slice A432_0 (rd_L1 t429 x6_2).length c432_0] (by rfl) rfl rfl (by (try simp only [mT, mC, mN]); first | done | rfl) ?_; (with_reducible refine (spec_ApplyMorphism.calls k2 _ _ l0_0 _ _ (rd_L1 t429 x6_2) t433 false _ ?side1 ?side2 ?side3 ?side4 A22.out).mono ?_); (case side1 => exact xC ((Kd.C_below HR0_0.out HB.out))); (case side2 => exact HC0_0.out); (case side3 => repeat (first | exact (by repeat (first | (with_reducible exact HR432_0.out) | (with_reducible refine Kd.C_alloc ?_ _) | (with_reducible refine Kd.C_drewN ?_ _) | (with_reducible refine Kd.C_drew ?_) | exact HR432_0.out)) | (with_reducible refine Kd.C_alloc ?_ _) | (with_reducible refine Kd.C_drewN ?_ _) | (with_reducible refine Kd.C_drew ?_))); (case side4 => exact HC432_0.out); rintro e w38 ⟨v434, rfl, ho0, hb⟩; have HS1_ := (hb.cell (World.block_lt_of_cell? _ _ (hHeld.2))).trans (hHeld.2); refine ⟨_, rfl, ?_⟩; replace HO_5 := am (Kd.N_elder' (by exact rN HO_5) (Kd.R_base ho0) hb); replace HL432_0 := am (Kd.V_elder' (by exact rV HL432_0) (Kd.R_base ho0) hb); have HO435 := am (Kd.R_lower ho0 (below_size (by exact rB HB))); replace BK426 := am (blk_below (g := gb426) (o := .cells #[.slice A0_0 l0_0.length c0_0] 28 (0, 0)) (by exact rX BK426) hb); replace HR432_0 := am (Kd.C_below (by repeat (first | (with_reducible exact HR432_0.out) | (with_reducible refine Kd.C_alloc ?_ _) | (with_reducible refine Kd.C_drewN ?_ _) | (with_reducible refine Kd.C_drew ?_) | exact HR432_0.out)) hb); replace HB := am (below_step (by exact rB HB) hb)
         (try clear hb); (try clear hb2); (try clear hk); (try clear hi); (try clear ho0); refine hK.out _ _ ⟨(blk_cell BK426.out 0).trans rfl, HS1_⟩ (fun hHeld => ?_); clear hK K; refine norm_ (a' := ?_) ?_ ?_; rotate_left; (show Act.put _ (some 37) _ = _; simp only [Act.put, qa, qz, qs, i64_w, i32_w]; rfl); refine pure_ (i := 6) (N := some 31) (v := ?_) (a' := ?_) (bA 11 127) rfl rfl (any_of HT_.out (by kernel_rfl)) (fun _ _ _ h => h) (Or.inl ⟨by rfl, ?_⟩) ?_ ?_; rotate_left
         ·intro w'; go_simp; (with_reducible rfl)
         rotate_left; (simp only [Act.put, qa, qz, qs, i64_w, i32_w]; rfl); refine pure_ (i := 7) (N := some 38) (v := ?_) (a' := ?_) (bA 11 255) rfl rfl (any_of HT_.out (by kernel_rfl)) (fun _ _ _ h => h) (Or.inl ⟨by rfl, ?_⟩) ?_ ?_; rotate_left
         ·intro w'; go_simp; (with_reducible rfl)
         rotate_left; (simp only [Act.put, qa, qz, qs, i64_w, i32_w]; rfl); refine pure_ (i := 8) (N := some 39) (v := ?_) (a' := ?_) (bA 11 511) rfl rfl (any_of HT_.out (by kernel_rfl)) (fun _ _ _ h => h) (Or.inl ⟨by rfl, ?_⟩) ?_ ?_; rotate_left
         ·intro w'; go_simp; (with_reducible rfl)
         rotate_left; (simp only [Act.put, qa, qz, qs, i64_w, i32_w]; rfl); refine pure_ (i := 9) (N := some 7) (v := ?_) (a' := ?_) (bA 11 1023) rfl rfl (any_of HT_.out (by kernel_rfl)) (fun _ _ _ h => h) (Or.inl ⟨by rfl, ?_⟩) ?_ ?_; rotate_left
         ·intro w'; go_simp; (with_reducible rfl)
         rotate_left; (simp only [Act.put, qa, qz, qs, i64_w, i32_w]; rfl); refine pure_ (i := 10) (N := some 8) (v := ?_) (a' := ?_) (bA 11 2047) rfl rfl (any_of HT_.out (by kernel_rfl)) (fun _ _ _ h => h) (Or.inl ⟨by rfl, ?_⟩) ?_ ?_; rotate_left
         ·intro w'; go_simp; (with_reducible rfl)
         rotate_left; (simp only [Act.put, qa, qz, qs, i64_w, i32_w]; rfl); refine done_ (done_of HT_.out (by kernel_rfl)) ?_
         try go_wp2
         go_ret; exact ⟨by first | rfl | (simp [errW_none, errW_some] <;> rfl) | (simp [*, errW_none, errW_some] <;> rfl), by exact rB HB⟩
       ·rw [if_neg c21] at H; exact absurd H (by simp)
      ·rw [if_neg c20] at H; have c20b0 : decide (x6_2 < (t429.length : Int)) = false := decide_eq_false c20; clear c20; obtain rfl := Option.some.inj H; obtain ⟨Ao39, co39, eo39⟩ := Kd.N_slice HO_5.out; subst eo39; go_wp2; go_ret; exact ⟨by first | rfl | (simp [errW_none, errW_some] <;> rfl) | (simp [*, errW_none, errW_some] <;> rfl), by exact rB HB⟩
def impl_longestRepeat.l0 : Nat → List Int → Int → Int → Int → Int → Option (Int)
 | 0, _, _, _, _, _ => none
 | k + 1, x0, x1, x5, x6, x7 => if (wrap64 (x7 + x1)) < (x0.length : Int) then (if 0 ≤ x7 then (if x7 < (x0.length : Int) then (if 0 ≤ (wrap64 (x7 + x1)) then (if (rd x0 x7) = (rd x0 (wrap64 (x7 + x1))) then (impl_longestRepeat.l0 k x0 x1 (mx x5 (wrap64 (x6 + 1))) (wrap64 (x6 + 1)) (wrap64 (x7 + 1))) else (impl_longestRepeat.l0 k x0 x1 x5 0 (wrap64 (x7 + 1)))) else (none)) else (none)) else (none)) else (some (wrap64 (x5 + x1)))
def impl_longestRepeat.f (k : Nat) (l0 : List Int) (a1 : Int) : Option (Int) := impl_longestRepeat.l0 k l0 a1 0 0 0
theorem impl_longestRepeat.mono_l : ∀ k, (∀ y0 y1 y2 y3 y4, LeO (impl_longestRepeat.l0 k y0 y1 y2 y3 y4) (impl_longestRepeat.l0 (k + 1) y0 y1 y2 y3 y4))
 | 0 => fun _ _ _ _ _ r h => by simp [impl_longestRepeat.l0] at h
 | k + 1 => by
  have ih0 := impl_longestRepeat.mono_l k
  ·intro y0 y1 y2 y3 y4; unfold impl_longestRepeat.l0
   repeat' first
   | (with_reducible exact ih0 _ _ _ _ _)
   | (with_reducible exact LeO.refl _)
   | (with_reducible exact LeO.none _)
   | (with_reducible refine LeO.ite ?_ ?_)
   | (with_reducible refine LeO.bind ?_ (fun _ => ?_))
theorem impl_longestRepeat.mono : ∀ a0 a1 k, LeO (impl_longestRepeat.f k a0 a1) (impl_longestRepeat.f (k + 1) a0 a1) := by
 intro a0 a1 k; have ih0 := impl_longestRepeat.mono_l k; unfold impl_longestRepeat.f
 repeat' first
   | (with_reducible exact ih0 _ _ _ _ _)
   | (with_reducible exact LeO.refl _)
   | (with_reducible exact LeO.none _)
   | (with_reducible refine LeO.ite ?_ ?_)
   | (with_reducible refine LeO.bind ?_ (fun _ => ?_))
set_option maxHeartbeats 8000000 in
set_option maxRecDepth 100000 in
theorem impl_longestRepeat.calls (k : Nat) (A0 : Option Addr) (c0 : Nat) (l0 : List Int) (a1 : Int) (r : Int) (w : World) (hr0 : Kd.C (Kd.int .i64) w A0 l0.length l0) (hc0 : l0.length ≤ c0) (h : impl_longestRepeat.f k l0 a1 = some r) :
  Calls Try.prog 124 #[.slice A0 l0.length c0, .int .i64 a1] w fun e w' => e = .returned (.int .i64 r) ∧ Below w.heap.size w w' := by
 have HR0 := am hr0; have HC0 := am hc0; clear hr0 hc0; have HB := am (Below.refl w.heap.size w); have H : (impl_longestRepeat.l0 k l0 a1 0 0 0) = some r := h; clear h; have H' := am H; clear H; go_enter Try.func124, Try.ntmps124; go_wp2
 repeat (go_quiet (fail); try go_wp2)
 go_loopg [5, 6, 7] k (fun kq v5 v6 v7 w' => ∃ (x5_1 : Int) (x6_1 : Int) (x7_1 : Int), v5 = .int .i64 x5_1 ∧ v6 = .int .i64 x6_1 ∧ v7 = .int .i64 x7_1 ∧ Aside0 (impl_longestRepeat.l0 kq l0 a1 x5_1 x6_1 x7_1 = some r) ∧ Aside0 (kq ≤ k) ∧ Aside0 (Below w.heap.size w w'))
 case atStart => exact ⟨(0), (0), (0), (by first | rfl | (simp; done) | (simp [*]; done)), (by first | rfl | (simp; done) | (simp [*]; done)), (by first | rfl | (simp; done) | (simp [*]; done)), H', ⟨Nat.le_refl _⟩, ⟨by exact rB HB⟩⟩
 case round =>
  clear H'
  try clear c1
  try clear p2
  obtain ⟨x5_1, x6_1, x7_1, rfl, rfl, rfl, HA, HK1, HB⟩ := hrel; cases gk with
  | zero => exact absurd HA.out (by simp [impl_longestRepeat.l0])
  | succ k1 =>
   have H := HA.out; clear HA; simp only [impl_longestRepeat.l0] at H; by_cases c3 : (wrap64 (x7_1 + a1)) < (l0.length : Int)
   ·rw [if_pos c3] at H; have c3b0 : decide ((wrap64 (x7_1 + a1)) < (l0.length : Int)) = true := decide_eq_true c3; clear c3; by_cases c4 : 0 ≤ x7_1
    ·rw [if_pos c4] at H; have c4b0 : decide (0 ≤ x7_1) = true := decide_eq_true c4; clear c4; by_cases c5 : x7_1 < (l0.length : Int)
     ·rw [if_pos c5] at H; have c5b0 : decide (x7_1 < (l0.length : Int)) = true := decide_eq_true c5; clear c5; obtain ⟨ji6, hji6⟩ : ∃ j_ : Int, (wrap64 (x7_1 + a1)) = j_ := ⟨_, rfl⟩; replace H : (if 0 ≤ (ji6) then (if (rd l0 x7_1) = (rd l0 (ji6)) then (impl_longestRepeat.l0 k1 l0 a1 (mx x5_1 (wrap64 (x6_1 + 1))) (wrap64 (x6_1 + 1)) (wrap64 (x7_1 + 1))) else (impl_longestRepeat.l0 k1 l0 a1 x5_1 0 (wrap64 (x7_1 + 1)))) else (none)) = some r := by first | (rw [hji6] at H; exact H) | (simp only [hji6] at H ⊢; exact H)
      (try rw [hji6] at c3b0); have hji6w : (IntKind.i64.wrap (x7_1 + a1)) = ji6 := (i64_w _).trans hji6; by_cases c7 : 0 ≤ (ji6)
      ·rw [if_pos c7] at H; have c7b0 : decide (0 ≤ (ji6)) = true := decide_eq_true c7; clear c7; by_cases c8 : (rd l0 x7_1) = (rd l0 (ji6))
       ·rw [if_pos c8] at H; have c8b0 : ((rd l0 x7_1) == (rd l0 (ji6))) = true := beq_iff_eq.mpr c8; have c8b1 : ((rd l0 x7_1) != (rd l0 (ji6))) = false := bne_eq_false_iff_eq.mpr c8; clear c8; obtain ⟨ji9, hji9⟩ : ∃ j_ : Int, (mx x5_1 (wrap64 (x6_1 + 1))) = j_ := ⟨_, rfl⟩; replace H : (impl_longestRepeat.l0 k1 l0 a1 ji9 (wrap64 (x6_1 + 1)) (wrap64 (x7_1 + 1))) = some r := by first | (rw [hji9] at H; exact H) | (simp only [hji9] at H ⊢; exact H)
        have hji9_ : (if x5_1 < (wrap64 (x6_1 + 1)) then (wrap64 (x6_1 + 1)) else x5_1) = ji9 := hji9; have H' := am H; clear H; have p438 : 0 ≤ (x7_1 : Int) := of_decide_eq_true (by first | (with_reducible assumption) | assumption); have q438 : x7_1 < (l0.length : Int) := of_decide_eq_true (by first | (with_reducible assumption) | assumption); obtain ⟨ad438, e438, hx438_0⟩ := Kd.at_int HR0.out x7_1 p438 q438; cases e438; replace hx438_0 := (HB.out.cell (World.block_lt_of_cell? w _ hx438_0)).trans hx438_0; replace p438 := eq_true p438; replace q438 := eq_true q438; have p439 : 0 ≤ ((ji6) : Int) := of_decide_eq_true (by first | (with_reducible assumption) | assumption); have q439 : (ji6) < (l0.length : Int) := of_decide_eq_true (by first | (with_reducible assumption) | assumption); obtain ⟨ad439, e439, hx439_0⟩ := Kd.at_int HR0.out (ji6) p439 q439; obtain rfl : ad438 = ad439 := (by injection e439); replace hx439_0 := (HB.out.cell (World.block_lt_of_cell? w _ hx439_0)).trans hx439_0; replace p439 := eq_true p439; replace q439 := eq_true q439; go_wp2
        repeat (go_quiet (fail); try go_wp2)
        go_roundg k1
        case measure => have := HK1.out; omega
        case rel => exact ⟨(ji9), (wrap64 (x6_1 + 1)), (wrap64 (x7_1 + 1)), (by first | rfl | (simp; done) | (simp only [← hji9] <;> (first | rfl | simp)) | (simp [*]; done)), (by first | rfl | (simp; done) | (simp [*]; done)), (by first | rfl | (simp; done) | (simp [*]; done)), H', ⟨by have := HK1.out; omega⟩, ⟨by exact rB HB⟩⟩
       ·rw [if_neg c8] at H; have c8b0 : ((rd l0 x7_1) == (rd l0 (ji6))) = false := beq_eq_false_iff_ne.mpr c8; have c8b1 : ((rd l0 x7_1) != (rd l0 (ji6))) = true := bne_iff_ne.mpr c8; have H' := am H; clear H; have p438 : 0 ≤ (x7_1 : Int) := of_decide_eq_true (by first | (with_reducible assumption) | assumption); have q438 : x7_1 < (l0.length : Int) := of_decide_eq_true (by first | (with_reducible assumption) | assumption); obtain ⟨ad438, e438, hx438_0⟩ := Kd.at_int HR0.out x7_1 p438 q438; cases e438; replace hx438_0 := (HB.out.cell (World.block_lt_of_cell? w _ hx438_0)).trans hx438_0; replace p438 := eq_true p438; replace q438 := eq_true q438; have p439 : 0 ≤ ((ji6) : Int) := of_decide_eq_true (by first | (with_reducible assumption) | assumption); have q439 : (ji6) < (l0.length : Int) := of_decide_eq_true (by first | (with_reducible assumption) | assumption); obtain ⟨ad439, e439, hx439_0⟩ := Kd.at_int HR0.out (ji6) p439 q439; obtain rfl : ad438 = ad439 := (by injection e439); replace hx439_0 := (HB.out.cell (World.block_lt_of_cell? w _ hx439_0)).trans hx439_0; replace p439 := eq_true p439; replace q439 := eq_true q439; go_wp2
        repeat (go_quiet (fail); try go_wp2)
        go_roundg k1
        case measure => have := HK1.out; omega
        case rel => exact ⟨(x5_1), (0), (wrap64 (x7_1 + 1)), (by first | rfl | (simp; done) | (simp [*]; done)), (by first | rfl | (simp; done) | (simp [*]; done)), (by first | rfl | (simp; done) | (simp [*]; done)), H', ⟨by have := HK1.out; omega⟩, ⟨by exact rB HB⟩⟩
      ·rw [if_neg c7] at H; exact absurd H (by simp)
     ·rw [if_neg c5] at H; exact absurd H (by simp)
    ·rw [if_neg c4] at H; exact absurd H (by simp)
   ·rw [if_neg c3] at H; have c3b0 : decide ((wrap64 (x7_1 + a1)) < (l0.length : Int)) = false := decide_eq_false c3; clear c3; obtain rfl := Option.some.inj H; go_wp2
    repeat (go_quiet (fail); try go_wp2)
    go_ret; exact ⟨by first | rfl | (simp [errW_none, errW_some] <;> rfl) | (simp [*, errW_none, errW_some] <;> rfl), by exact rB HB⟩
def impl_HasOverlap.l0 : Nat → List Int → Int → Option (Bool)
 | 0, _, _ => none
 | k + 1, x0, x3 => if x3 ≤ (x0.length : Int) then ((impl_longestRepeat.f k x0 x3).bind fun t440 => (if t440 > (wrap64 (2 * x3)) then (some true) else (impl_HasOverlap.l0 k x0 (wrap64 (x3 + 1))))) else (some false)
def impl_HasOverlap.f (k : Nat) (l0 : List Int) : Option (Bool) := if (l0.length : Int) > 128 then (some false) else (impl_HasOverlap.l0 k l0 1)
theorem impl_HasOverlap.mono_l : ∀ k, (∀ y0 y1, LeO (impl_HasOverlap.l0 k y0 y1) (impl_HasOverlap.l0 (k + 1) y0 y1))
 | 0 => fun _ _ r h => by simp [impl_HasOverlap.l0] at h
 | k + 1 => by
  have ih0 := impl_HasOverlap.mono_l k
  ·intro y0 y1; unfold impl_HasOverlap.l0
   repeat' first
   | (with_reducible exact ih0 _ _)
   | (with_reducible exact impl_longestRepeat.mono _ _ _)
   | (with_reducible exact LeO.refl _)
   | (with_reducible exact LeO.none _)
   | (with_reducible refine LeO.ite ?_ ?_)
   | (with_reducible refine LeO.bind ?_ (fun _ => ?_))
theorem impl_HasOverlap.mono : ∀ a0 k, LeO (impl_HasOverlap.f k a0) (impl_HasOverlap.f (k + 1) a0) := by
 intro a0 k; have ih0 := impl_HasOverlap.mono_l k; unfold impl_HasOverlap.f
 repeat' first
   | (with_reducible exact ih0 _ _)
   | (with_reducible exact impl_longestRepeat.mono _ _ _)
   | (with_reducible exact LeO.refl _)
   | (with_reducible exact LeO.none _)
   | (with_reducible refine LeO.ite ?_ ?_)
   | (with_reducible refine LeO.bind ?_ (fun _ => ?_))
set_option maxHeartbeats 8000000 in
set_option maxRecDepth 100000 in
theorem impl_HasOverlap.calls (k : Nat) (A0 : Option Addr) (c0 : Nat) (l0 : List Int) (r : Bool) (w : World) (hr0 : Kd.C (Kd.int .i64) w A0 l0.length l0) (hc0 : l0.length ≤ c0) (h : impl_HasOverlap.f k l0 = some r) :
  Calls Try.prog 52 #[.slice A0 l0.length c0] w fun e w' => e = .returned (.bool r) ∧ Below w.heap.size w w' := by
 have HR0 := am hr0; have HC0 := am hc0; clear hr0 hc0; have HB := am (Below.refl w.heap.size w); have H : (if (l0.length : Int) > 128 then (some false) else (impl_HasOverlap.l0 k l0 1)) = some r := h; clear h; by_cases c2 : (l0.length : Int) > 128
 ·rw [if_pos c2] at H; have c2b0 : decide (128 < (l0.length : Int)) = true := decide_eq_true c2; have c2b1 : decide (128 < l0.length) = true := decide_eq_true (by omega); clear c2; obtain rfl := Option.some.inj H; go_enter Try.func52, Try.ntmps52; go_wp2; go_ret; exact ⟨by first | rfl | (simp [errW_none, errW_some] <;> rfl) | (simp [*, errW_none, errW_some] <;> rfl), by exact rB HB⟩
 ·rw [if_neg c2] at H; have c2b0 : decide (128 < (l0.length : Int)) = false := decide_eq_false c2; have c2b1 : decide (128 < l0.length) = false := decide_eq_false (by omega); clear c2; have H' := am H; clear H; go_enter Try.func52, Try.ntmps52; go_wp2; go_loopg [3] k (fun kq v3 w' => ∃ (x3_1 : Int), v3 = .int .i64 x3_1 ∧ Aside0 (impl_HasOverlap.l0 kq l0 x3_1 = some r) ∧ Aside0 (kq ≤ k) ∧ Aside0 (Below w.heap.size w w'))
  case atStart => exact ⟨(1), (by first | rfl | (simp; done) | (simp [*]; done)), H', ⟨Nat.le_refl _⟩, ⟨by exact rB HB⟩⟩
  case round =>
   clear H'
   try clear c2
   try clear c2b0
   try clear c2b1
   try clear p2
   obtain ⟨x3_1, rfl, HA, HK1, HB⟩ := hrel; cases gk with
   | zero => exact absurd HA.out (by simp [impl_HasOverlap.l0])
   | succ k1 =>
    have H := HA.out; clear HA; simp only [impl_HasOverlap.l0] at H; by_cases c3 : x3_1 ≤ (l0.length : Int)
    ·rw [if_pos c3] at H; have c3b0 : decide (x3_1 ≤ (l0.length : Int)) = true := decide_eq_true c3; clear c3; replace H := Option.bind_eq_some_iff.mp H; obtain ⟨t440, A40, H⟩ := H; replace H : (if t440 > (wrap64 (2 * x3_1)) then (some true) else (impl_HasOverlap.l0 k1 l0 (wrap64 (x3_1 + 1)))) = some r := H; have A4 := am A40; clear A40; by_cases c5 : t440 > (wrap64 (2 * x3_1))
     ·rw [if_pos c5] at H; have c5b0 : decide ((wrap64 (2 * x3_1)) < t440) = true := decide_eq_true c5; clear c5; obtain rfl := Option.some.inj H; go_wp2_with (first | ((with_reducible refine gate_callee (f := 124) rfl ?_); refine goesL_ (some 15) rfl rfl Try.func124 (by kernel_rfl) rfl #[.slice A0 l0.length c0, .int .i64 x3_1] rfl (by (try simp only [mT, mC, mN]); first | done | rfl) ?_; (with_reducible refine (impl_longestRepeat.calls k1 _ _ l0 x3_1 t440 _ ?side1 ?side2 A4.out).mono ?_); (case side1 => exact xC ((Kd.C_below HR0.out HB.out))); (case side2 => exact HC0.out); rintro e w6 ⟨rfl, hb⟩; refine ⟨_, rfl, ?_⟩; replace HB := am (below_step (by exact rB HB) hb); clear hb)); go_ret; exact ⟨by first | rfl | (simp [errW_none, errW_some] <;> rfl) | (simp [*, errW_none, errW_some] <;> rfl), by exact rB HB⟩
     ·rw [if_neg c5] at H; have c5b0 : decide ((wrap64 (2 * x3_1)) < t440) = false := decide_eq_false c5; clear c5; have H' := am H; clear H; go_wp2_with (first | ((with_reducible refine gate_callee (f := 124) rfl ?_); refine goesL_ (some 15) rfl rfl Try.func124 (by kernel_rfl) rfl #[.slice A0 l0.length c0, .int .i64 x3_1] rfl (by (try simp only [mT, mC, mN]); first | done | rfl) ?_; (with_reducible refine (impl_longestRepeat.calls k1 _ _ l0 x3_1 t440 _ ?side1 ?side2 A4.out).mono ?_); (case side1 => exact xC ((Kd.C_below HR0.out HB.out))); (case side2 => exact HC0.out); rintro e w7 ⟨rfl, hb⟩; refine ⟨_, rfl, ?_⟩; replace HB := am (below_step (by exact rB HB) hb); clear hb)); go_roundg k1
      case measure => have := HK1.out; omega
      case rel => exact ⟨(wrap64 (x3_1 + 1)), (by first | rfl | (simp; done) | (simp [*]; done)), H', ⟨by have := HK1.out; omega⟩, ⟨by exact rB HB⟩⟩
    ·rw [if_neg c3] at H; have c3b0 : decide (x3_1 ≤ (l0.length : Int)) = false := decide_eq_false c3; clear c3; obtain rfl := Option.some.inj H; go_wp2; go_ret; exact ⟨by first | rfl | (simp [errW_none, errW_some] <;> rfl) | (simp [*, errW_none, errW_some] <;> rfl), by exact rB HB⟩
def impl_areLetters.l0 : Nat → Int → List Int → Int → Int → Option (Bool)
 | 0, _, _, _, _ => none
 | k + 1, x1, x7, x8, x9 => if x9 < x8 then (if 0 ≤ x9 then (if x9 < (x7.length : Int) then (if (rd x7 x9) < 0 then (some false) else (if (rd x7 x9) ≥ x1 then (some false) else (impl_areLetters.l0 k x1 x7 x8 (wrap64 (x9 + 1))))) else (none)) else (none)) else (some true)
def impl_areLetters.f (k : Nat) (l0 : List Int) (a1 : Int) : Option (Bool) := impl_areLetters.l0 k a1 l0 (l0.length : Int) 0
theorem impl_areLetters.mono_l : ∀ k, (∀ y0 y1 y2 y3, LeO (impl_areLetters.l0 k y0 y1 y2 y3) (impl_areLetters.l0 (k + 1) y0 y1 y2 y3))
 | 0 => fun _ _ _ _ r h => by simp [impl_areLetters.l0] at h
 | k + 1 => by
  have ih0 := impl_areLetters.mono_l k
  ·intro y0 y1 y2 y3; unfold impl_areLetters.l0
   repeat' first
   | (with_reducible exact ih0 _ _ _ _)
   | (with_reducible exact LeO.refl _)
   | (with_reducible exact LeO.none _)
   | (with_reducible refine LeO.ite ?_ ?_)
   | (with_reducible refine LeO.bind ?_ (fun _ => ?_))
theorem impl_areLetters.mono : ∀ a0 a1 k, LeO (impl_areLetters.f k a0 a1) (impl_areLetters.f (k + 1) a0 a1) := by
 intro a0 a1 k; have ih0 := impl_areLetters.mono_l k; unfold impl_areLetters.f
 repeat' first
   | (with_reducible exact ih0 _ _ _ _)
   | (with_reducible exact LeO.refl _)
   | (with_reducible exact LeO.none _)
   | (with_reducible refine LeO.ite ?_ ?_)
   | (with_reducible refine LeO.bind ?_ (fun _ => ?_))
set_option maxHeartbeats 8000000 in
set_option maxRecDepth 100000 in
theorem impl_areLetters.calls (k : Nat) (A0 : Option Addr) (c0 : Nat) (l0 : List Int) (a1 : Int) (r : Bool) (w : World) (hr0 : Kd.C (Kd.int .i64) w A0 l0.length l0) (hc0 : l0.length ≤ c0) (h : impl_areLetters.f k l0 a1 = some r) :
  Calls Try.prog 159 #[.slice A0 l0.length c0, .int .i64 a1] w fun e w' => e = .returned (.bool r) ∧ Drawn0 w w' := by
 have HR0 := am hr0; have HC0 := am hc0; clear hr0 hc0; have H : (impl_areLetters.l0 k a1 l0 (l0.length : Int) 0) = some r := h; clear h; have H' := am H; clear H; go_enter Try.func159, Try.ntmps159; go_wp2; go_loopg [9] k (fun kq v9 w' => ∃ (x9_1 : Int), v9 = .int .i64 x9_1 ∧ Aside0 (impl_areLetters.l0 kq a1 l0 (l0.length : Int) x9_1 = some r) ∧ Aside0 (kq ≤ k) ∧ Drawn0 w w')
 case atStart => exact ⟨(0), (by first | rfl | (simp; done) | (simp [*]; done)), H', ⟨Nat.le_refl _⟩, by repeat (first | exact Drawn0.refl _ | apply Drawn0.step)⟩
 case round =>
  clear H'
  try clear c1
  try clear p2
  obtain ⟨x9_1, rfl, HA, HK1, ⟨m1, rfl⟩⟩ := hrel; cases gk with
  | zero => exact absurd HA.out (by simp [impl_areLetters.l0])
  | succ k1 =>
   have H := HA.out; clear HA; simp only [impl_areLetters.l0] at H; by_cases c3 : x9_1 < (l0.length : Int)
   ·rw [if_pos c3] at H; have c3b0 : decide (x9_1 < (l0.length : Int)) = true := decide_eq_true c3; clear c3; by_cases c4 : 0 ≤ x9_1
    ·rw [if_pos c4] at H; have c4b0 : decide (0 ≤ x9_1) = true := decide_eq_true c4; clear c4; by_cases c5 : x9_1 < (l0.length : Int)
     ·rw [if_pos c5] at H; have c5b0 : decide (x9_1 < (l0.length : Int)) = true := decide_eq_true c5; clear c5; by_cases c6 : (rd l0 x9_1) < 0
      ·rw [if_pos c6] at H; have c6b0 : decide ((rd l0 x9_1) < 0) = true := decide_eq_true c6; clear c6; obtain rfl := Option.some.inj H; have p150 : 0 ≤ (x9_1 : Int) := of_decide_eq_true (by first | (with_reducible assumption) | assumption); have q150 : x9_1 < (l0.length : Int) := of_decide_eq_true (by first | (with_reducible assumption) | assumption); obtain ⟨ad150, e150, hx150_0⟩ := Kd.at_int HR0.out x9_1 p150 q150; cases e150; replace p150 := eq_true p150; replace q150 := eq_true q150; go_wp2; go_ret; exact ⟨by first | rfl | (simp; done) | (simp [*]; done), by repeat (first | exact Drawn0.refl _ | apply Drawn0.step)⟩
      ·rw [if_neg c6] at H; have c6b0 : decide ((rd l0 x9_1) < 0) = false := decide_eq_false c6; clear c6; by_cases c7 : (rd l0 x9_1) ≥ a1
       ·rw [if_pos c7] at H; have c7b0 : decide (a1 ≤ (rd l0 x9_1)) = true := decide_eq_true c7; clear c7; obtain rfl := Option.some.inj H; have p150 : 0 ≤ (x9_1 : Int) := of_decide_eq_true (by first | (with_reducible assumption) | assumption); have q150 : x9_1 < (l0.length : Int) := of_decide_eq_true (by first | (with_reducible assumption) | assumption); obtain ⟨ad150, e150, hx150_0⟩ := Kd.at_int HR0.out x9_1 p150 q150; cases e150; replace p150 := eq_true p150; replace q150 := eq_true q150; go_wp2; go_ret; exact ⟨by first | rfl | (simp; done) | (simp [*]; done), by repeat (first | exact Drawn0.refl _ | apply Drawn0.step)⟩
       ·rw [if_neg c7] at H; have c7b0 : decide (a1 ≤ (rd l0 x9_1)) = false := decide_eq_false c7; clear c7; have H' := am H; clear H; have p150 : 0 ≤ (x9_1 : Int) := of_decide_eq_true (by first | (with_reducible assumption) | assumption); have q150 : x9_1 < (l0.length : Int) := of_decide_eq_true (by first | (with_reducible assumption) | assumption); obtain ⟨ad150, e150, hx150_0⟩ := Kd.at_int HR0.out x9_1 p150 q150; cases e150; replace p150 := eq_true p150; replace q150 := eq_true q150; go_wp2; go_roundg k1
        case measure => have := HK1.out; omega
        case rel => exact ⟨(wrap64 (x9_1 + 1)), (by first | rfl | (simp; done) | (simp [*]; done)), H', ⟨by have := HK1.out; omega⟩, by repeat (first | exact Drawn0.refl _ | apply Drawn0.step)⟩
     ·rw [if_neg c5] at H; exact absurd H (by simp)
    ·rw [if_neg c4] at H; exact absurd H (by simp)
   ·rw [if_neg c3] at H; have c3b0 : decide (x9_1 < (l0.length : Int)) = false := decide_eq_false c3; clear c3; obtain rfl := Option.some.inj H; go_wp2; go_ret; exact ⟨by first | rfl | (simp; done) | (simp [*]; done), by repeat (first | exact Drawn0.refl _ | apply Drawn0.step)⟩
mutual
def impl_IsMorphism.j0 : Nat → Int → Bool → List (List Int) → Option (Bool)
 | 0, _, _, _ => none
 | k + 1, x3, x14, x152000 => if x14 = true then (some false) else (impl_IsMorphism.l0 k x3 x152000 (x152000.length : Int) 0)
def impl_IsMorphism.l0 : Nat → Int → List (List Int) → Int → Int → Option (Bool)
 | 0, _, _, _, _ => none
 | k + 1, x3, x16, x17, x18 => if x18 < x17 then (if 0 ≤ x18 then (if x18 < (x16.length : Int) then (if ((rd_L1 x16 x18).length : Int) > 8 then (some false) else ((impl_areLetters.f k (rd_L1 x16 x18) x3).bind fun t153 => (if t153 = true then (impl_IsMorphism.l0 k x3 x16 x17 (wrap64 (x18 + 1))) else (some false)))) else (none)) else (none)) else (some true)
end
def impl_IsMorphism.f (k : Nat) (l0_0 : List (List Int)) : Option (Bool) := if (l0_0.length : Int) < 1 then (impl_IsMorphism.j0 k (l0_0.length : Int) true l0_0) else (impl_IsMorphism.j0 k (l0_0.length : Int) (decide ((l0_0.length : Int) > 16)) l0_0)
theorem impl_IsMorphism.mono_l : ∀ k, (∀ y0 y1 y2, LeO (impl_IsMorphism.j0 k y0 y1 y2) (impl_IsMorphism.j0 (k + 1) y0 y1 y2)) ∧ (∀ y0 y1 y2 y3, LeO (impl_IsMorphism.l0 k y0 y1 y2 y3) (impl_IsMorphism.l0 (k + 1) y0 y1 y2 y3))
 | 0 => ⟨fun _ _ _ r h => by simp [impl_IsMorphism.j0] at h, fun _ _ _ _ r h => by simp [impl_IsMorphism.l0] at h⟩
 | k + 1 => by
  obtain ⟨ih0, ih1⟩ := impl_IsMorphism.mono_l k; refine ⟨?_, ?_⟩
  ·intro y0 y1 y2; unfold impl_IsMorphism.j0
   repeat' first
   | (with_reducible exact ih0 _ _ _)
   | (with_reducible exact ih1 _ _ _ _)
   | (with_reducible exact impl_areLetters.mono _ _ _)
   | (with_reducible exact LeO.refl _)
   | (with_reducible exact LeO.none _)
   | (with_reducible refine LeO.ite ?_ ?_)
   | (with_reducible refine LeO.bind ?_ (fun _ => ?_))
  ·intro y0 y1 y2 y3; unfold impl_IsMorphism.l0
   repeat' first
   | (with_reducible exact ih0 _ _ _)
   | (with_reducible exact ih1 _ _ _ _)
   | (with_reducible exact impl_areLetters.mono _ _ _)
   | (with_reducible exact LeO.refl _)
   | (with_reducible exact LeO.none _)
   | (with_reducible refine LeO.ite ?_ ?_)
   | (with_reducible refine LeO.bind ?_ (fun _ => ?_))
theorem impl_IsMorphism.mono : ∀ a0 k, LeO (impl_IsMorphism.f k a0) (impl_IsMorphism.f (k + 1) a0) := by
 intro a0 k; obtain ⟨ih0, ih1⟩ := impl_IsMorphism.mono_l k; unfold impl_IsMorphism.f
 repeat' first
   | (with_reducible exact ih0 _ _ _)
   | (with_reducible exact ih1 _ _ _ _)
   | (with_reducible exact impl_areLetters.mono _ _ _)
   | (with_reducible exact LeO.refl _)
   | (with_reducible exact LeO.none _)
   | (with_reducible refine LeO.ite ?_ ?_)
   | (with_reducible refine LeO.bind ?_ (fun _ => ?_))
set_option maxHeartbeats 8000000 in
set_option maxRecDepth 100000 in
theorem impl_IsMorphism.calls (k : Nat) (A0_0 : Option Addr) (c0_0 : Nat) (l0_0 : List (List Int)) (r : Bool) (w : World) (hr0_0 : Kd.C (Kd.slice 3 (Kd.int .i64)) w A0_0 l0_0.length l0_0) (hc0_0 : l0_0.length ≤ c0_0) (h : impl_IsMorphism.f k l0_0 = some r) :
  Calls Try.prog 108 #[.agg #[.slice A0_0 l0_0.length c0_0]] w fun e w' => e = .returned (.bool r) ∧ Below w.heap.size w w' := by
 have hu28 := Try.underlying28; have HR0_0 := am hr0_0; have HC0_0 := am hc0_0; clear hr0_0 hc0_0; have HB := am (Below.refl w.heap.size w); have H : (if (l0_0.length : Int) < 1 then (impl_IsMorphism.j0 k (l0_0.length : Int) true l0_0) else (impl_IsMorphism.j0 k (l0_0.length : Int) (decide ((l0_0.length : Int) > 16)) l0_0)) = some r := h; clear h; have HC2 := am H; clear H; go_enter Try.func108, Try.ntmps108; go_upto_region 2 with (first | ((with_reducible refine gate_dst (N := 1) rfl ?_); refine box_event ?hg (N := 1) ?hd (cs := #[.slice A0_0 l0_0.length c0_0]) (t := 28) ?hr ?_; (case hd => rfl); (case hg => rfl); (case hr => first | (go_simp; done) | (go_simp; rfl)); intro gb151 hg w3 hbox hb; have BK151 := am (hbox); have GW151 := am ((by rw [hg]; exact (below_size (by exact rB HB)) : w.heap.size ≤ gb151)); have GE151 := am ((by rw [hg]; exact (below_size (by exact rB HB)) : w.heap.size ≤ gb151)); replace HB := am (below_step (by exact rB HB) hb); have qW151 := Ge.mk GW151.out; have qE151 := Ge.mk GE151.out; clear hb hbox hg; have hcz4_0 : w3.cell? ⟨gb151, 0, none⟩ = some (.slice A0_0 l0_0.length c0_0) := (blk_cell BK151.out 0).trans rfl; have hfz4_0 := blk_frozen BK151.out 0)); (try simp only [Act.put, qa, qz, qs]); go_cut [14] (fun v14 wc => ∃ (kq : Nat) (x14_1 : Bool), v14 = .bool x14_1 ∧ Aside0 (impl_IsMorphism.j0 kq (l0_0.length : Int) x14_1 l0_0 = some r) ∧ Aside0 (kq ≤ k) ∧ Aside0 (wc.heap[gb151]? = some (.cells #[(.slice A0_0 l0_0.length c0_0)] 28 (0, 0))) ∧ Aside0 (Below w.heap.size w wc))
 case first =>
  have H := HC2.out; clear HC2; by_cases c5 : (l0_0.length : Int) < 1
  ·rw [if_pos c5] at H; have c5b0 : decide ((l0_0.length : Int) < 1) = true := decide_eq_true c5; have c5b1 : decide (l0_0.length < 1) = true := decide_eq_true (by omega); clear c5
   (first | rw [c5b0] | (simp only [i64_w, i32_w]; rw [c5b0]) | skip)
   have H' := am H; clear H; go_wp2; go_meet
   case rel => exact ⟨_, (true), (by first | rfl | (simp; done) | (simp [*]; done)), H', ⟨by first | omega | exact Nat.le_refl _⟩, ⟨by exact rX BK151⟩, ⟨by exact rB HB⟩⟩
  ·rw [if_neg c5] at H; have c5b0 : decide ((l0_0.length : Int) < 1) = false := decide_eq_false c5; have c5b1 : decide (l0_0.length < 1) = false := decide_eq_false (by omega); clear c5
   (first | rw [c5b0] | (simp only [i64_w, i32_w]; rw [c5b0]) | skip)
   have H' := am H; clear H; go_wp2; go_meet
   case rel => exact ⟨_, (decide ((l0_0.length : Int) > 16)), (by first | rfl | (simp; done) | (simp [*]; done)), H', ⟨by first | omega | exact Nat.le_refl _⟩, ⟨by exact rX BK151⟩, ⟨by exact rB HB⟩⟩
 case rest =>
  clear HC2
  try clear c1
  try clear p2
  try clear c5
  try clear c5b0
  try clear c5b1
  try clear hcz4_0
  try clear hfz4_0
  obtain ⟨kq, x14_1, rfl, HA, HJ1, BK151, HB⟩ := hcut; cases kq with
  | zero => exact absurd HA.out (by simp [impl_IsMorphism.j0])
  | succ kj1 =>
   have H := HA.out; clear HA; simp only [impl_IsMorphism.j0] at H; by_cases c6 : x14_1 = true
   ·subst c6; have H1 : (some false) = some r := by rw [if_pos rfl] at H; exact H
    clear H; have H := H1; clear H1; obtain rfl := Option.some.inj H; go_wp2; go_ret; exact ⟨by first | rfl | (simp [errW_none, errW_some] <;> rfl) | (simp [*, errW_none, errW_some] <;> rfl), by exact rB HB⟩
   ·replace c6 := Bool.eq_false_iff.mpr c6; subst c6; have H1 : (impl_IsMorphism.l0 kj1 (l0_0.length : Int) l0_0 (l0_0.length : Int) 0) = some r := by rw [if_neg (show ¬ (false = true) by decide)] at H; exact H
    clear H; have H := H1; clear H1; have H' := am H; clear H; have hcz7_0 : wc.cell? ⟨gb151, 0, none⟩ = some (.slice A0_0 l0_0.length c0_0) := (blk_cell BK151.out 0).trans rfl; have hfz7_0 := blk_frozen BK151.out 0; go_wp2; go_loopg [18] kj1 (fun kq v18 w' => ∃ (x18_2 : Int), v18 = .int .i64 x18_2 ∧ Aside0 (impl_IsMorphism.l0 kq (l0_0.length : Int) l0_0 (l0_0.length : Int) x18_2 = some r) ∧ Aside0 (kq ≤ kj1) ∧ Aside0 (w'.heap[gb151]? = some (.cells #[(.slice A0_0 l0_0.length c0_0)] 28 (0, 0))) ∧ Aside0 (Below w.heap.size w w'))
    case atStart => exact ⟨(0), (by first | rfl | (simp; done) | (simp [*]; done)), H', ⟨Nat.le_refl _⟩, ⟨by exact rX BK151⟩, ⟨by exact rB HB⟩⟩
    case round =>
     clear H'
     try clear c1
     try clear p2
     try clear c5
     try clear c5b0
     try clear c5b1
     try clear c6
     try clear hcz4_0
     try clear hcz7_0
     try clear hfz4_0
     try clear hfz7_0
     try clear p2
     obtain ⟨x18_2, rfl, HA, HK2, BK151, HB⟩ := hrel; cases gk with
     | zero => exact absurd HA.out (by simp [impl_IsMorphism.l0])
     | succ k2 =>
      have H := HA.out; clear HA; simp only [impl_IsMorphism.l0] at H; by_cases c8 : x18_2 < (l0_0.length : Int)
      ·rw [if_pos c8] at H; have c8b0 : decide (x18_2 < (l0_0.length : Int)) = true := decide_eq_true c8; clear c8; by_cases c9 : 0 ≤ x18_2
       ·rw [if_pos c9] at H; have c9b0 : decide (0 ≤ x18_2) = true := decide_eq_true c9; clear c9; by_cases c10 : x18_2 < (l0_0.length : Int)
        ·rw [if_pos c10] at H; have c10b0 : decide (x18_2 < (l0_0.length : Int)) = true := decide_eq_true c10; clear c10; by_cases c11 : ((rd_L1 l0_0 x18_2).length : Int) > 8
         ·rw [if_pos c11] at H; have c11b0 : decide (8 < ((rd_L1 l0_0 x18_2).length : Int)) = true := decide_eq_true c11; have c11b1 : decide (8 < (rd_L1 l0_0 x18_2).length) = true := decide_eq_true (by omega); clear c11; obtain rfl := Option.some.inj H; have p152 : 0 ≤ (x18_2 : Int) := of_decide_eq_true (by first | (with_reducible assumption) | assumption); have q152 : x18_2 < (l0_0.length : Int) := of_decide_eq_true (by first | (with_reducible assumption) | assumption); obtain ⟨ad152, A152_0, c152_0, e152, hx152_0, hl152_0, hi152_0⟩ := at_L1 HR0_0.out x18_2 p152 q152; cases e152; replace hx152_0 := (HB.out.cell (World.block_lt_of_cell? w _ hx152_0)).trans hx152_0; have HR152_0 := am hi152_0; have HC152_0 := am hl152_0; clear hi152_0 hl152_0; replace p152 := eq_true p152; replace q152 := eq_true q152; go_wp2; go_ret; exact ⟨by first | rfl | (simp [errW_none, errW_some] <;> rfl) | (simp [*, errW_none, errW_some] <;> rfl), by exact rB HB⟩
         ·rw [if_neg c11] at H; have c11b0 : decide (8 < ((rd_L1 l0_0 x18_2).length : Int)) = false := decide_eq_false c11; have c11b1 : decide (8 < (rd_L1 l0_0 x18_2).length) = false := decide_eq_false (by omega); clear c11; replace H := Option.bind_eq_some_iff.mp H; obtain ⟨t153, A120, H⟩ := H; replace H : (if t153 = true then (impl_IsMorphism.l0 k2 (l0_0.length : Int) l0_0 (l0_0.length : Int) (wrap64 (x18_2 + 1))) else (some false)) = some r := H; have A12 := am A120; clear A120; by_cases c13 : t153 = true
          ·subst c13; have H1 : (impl_IsMorphism.l0 k2 (l0_0.length : Int) l0_0 (l0_0.length : Int) (wrap64 (x18_2 + 1))) = some r := by rw [if_pos rfl] at H; exact H
           clear H; have H := H1; clear H1; have H' := am H; clear H; have p152 : 0 ≤ (x18_2 : Int) := of_decide_eq_true (by first | (with_reducible assumption) | assumption); have q152 : x18_2 < (l0_0.length : Int) := of_decide_eq_true (by first | (with_reducible assumption) | assumption); obtain ⟨ad152, A152_0, c152_0, e152, hx152_0, hl152_0, hi152_0⟩ := at_L1 HR0_0.out x18_2 p152 q152; cases e152; replace hx152_0 := (HB.out.cell (World.block_lt_of_cell? w _ hx152_0)).trans hx152_0; have HR152_0 := am hi152_0; have HC152_0 := am hl152_0; clear hi152_0 hl152_0; replace p152 := eq_true p152; replace q152 := eq_true q152; go_wp2_with (first | (go_at_call 159; (with_reducible refine (impl_areLetters.calls k2 _ _ (rd_L1 l0_0 x18_2) (l0_0.length : Int) true _ ?side1 ?side2 A12.out).mono ?_); (case side1 => exact xC ((Kd.C_below HR152_0.out HB.out))); (case side2 => exact HC152_0.out); rintro e w' ⟨rfl, ⟨nd, rfl⟩⟩)); go_roundg k2
           case measure => have := HJ1.out; have := HK2.out; omega
           case rel => exact ⟨(wrap64 (x18_2 + 1)), (by first | rfl | (simp; done) | (simp [*]; done)), H', ⟨by have := HJ1.out; have := HK2.out; omega⟩, ⟨by exact rX BK151⟩, ⟨by exact rB HB⟩⟩
          ·replace c13 := Bool.eq_false_iff.mpr c13; subst c13; have H1 : (some false) = some r := by rw [if_neg (show ¬ (false = true) by decide)] at H; exact H
           clear H; have H := H1; clear H1; obtain rfl := Option.some.inj H; have p152 : 0 ≤ (x18_2 : Int) := of_decide_eq_true (by first | (with_reducible assumption) | assumption); have q152 : x18_2 < (l0_0.length : Int) := of_decide_eq_true (by first | (with_reducible assumption) | assumption); obtain ⟨ad152, A152_0, c152_0, e152, hx152_0, hl152_0, hi152_0⟩ := at_L1 HR0_0.out x18_2 p152 q152; cases e152; replace hx152_0 := (HB.out.cell (World.block_lt_of_cell? w _ hx152_0)).trans hx152_0; have HR152_0 := am hi152_0; have HC152_0 := am hl152_0; clear hi152_0 hl152_0; replace p152 := eq_true p152; replace q152 := eq_true q152; go_wp2_with (first | (go_at_call 159; (with_reducible refine (impl_areLetters.calls k2 _ _ (rd_L1 l0_0 x18_2) (l0_0.length : Int) false _ ?side1 ?side2 A12.out).mono ?_); (case side1 => exact xC ((Kd.C_below HR152_0.out HB.out))); (case side2 => exact HC152_0.out); rintro e w' ⟨rfl, ⟨nd, rfl⟩⟩)); go_ret; exact ⟨by first | rfl | (simp [errW_none, errW_some] <;> rfl) | (simp [*, errW_none, errW_some] <;> rfl), by exact rB HB⟩
        ·rw [if_neg c10] at H; exact absurd H (by simp)
       ·rw [if_neg c9] at H; exact absurd H (by simp)
      ·rw [if_neg c8] at H; have c8b0 : decide (x18_2 < (l0_0.length : Int)) = false := decide_eq_false c8; clear c8; obtain rfl := Option.some.inj H; go_wp2; go_ret; exact ⟨by first | rfl | (simp [errW_none, errW_some] <;> rfl) | (simp [*, errW_none, errW_some] <;> rfl), by exact rB HB⟩
def impl_IsWord.f (k : Nat) (l0 : List Int) (a1 : Int) : Option (Bool) := if a1 ≥ 1 then (if a1 ≤ 16 then (if (l0.length : Int) ≤ 400 then ((impl_areLetters.f k l0 a1).bind fun t441 => (some t441)) else (some false)) else (some false)) else (some false)
theorem impl_IsWord.mono : ∀ a0 a1 k, LeO (impl_IsWord.f k a0 a1) (impl_IsWord.f (k + 1) a0 a1) := by
 intro a0 a1 k; unfold impl_IsWord.f
 repeat' first
   | (with_reducible exact impl_areLetters.mono _ _ _)
   | (with_reducible exact LeO.refl _)
   | (with_reducible exact LeO.none _)
   | (with_reducible refine LeO.ite ?_ ?_)
   | (with_reducible refine LeO.bind ?_ (fun _ => ?_))
set_option maxHeartbeats 8000000 in
set_option maxRecDepth 100000 in
theorem impl_IsWord.calls (k : Nat) (A0 : Option Addr) (c0 : Nat) (l0 : List Int) (a1 : Int) (r : Bool) (w : World) (hr0 : Kd.C (Kd.int .i64) w A0 l0.length l0) (hc0 : l0.length ≤ c0) (h : impl_IsWord.f k l0 a1 = some r) :
  Calls Try.prog 155 #[.slice A0 l0.length c0, .int .i64 a1] w fun e w' => e = .returned (.bool r) ∧ Drawn0 w w' := by
 have HR0 := am hr0; have HC0 := am hc0; clear hr0 hc0; have H : (if a1 ≥ 1 then (if a1 ≤ 16 then (if (l0.length : Int) ≤ 400 then ((impl_areLetters.f k l0 a1).bind fun t441 => (some t441)) else (some false)) else (some false)) else (some false)) = some r := h; clear h; by_cases c3 : a1 ≥ 1
 ·rw [if_pos c3] at H; have c3b0 : decide (1 ≤ a1) = true := decide_eq_true c3; clear c3; by_cases c4 : a1 ≤ 16
  ·rw [if_pos c4] at H; have c4b0 : decide (a1 ≤ 16) = true := decide_eq_true c4; clear c4; by_cases c5 : (l0.length : Int) ≤ 400
   ·rw [if_pos c5] at H; have c5b0 : decide ((l0.length : Int) ≤ 400) = true := decide_eq_true c5; have c5b1 : decide (l0.length ≤ 400) = true := decide_eq_true (by omega); clear c5; replace H := Option.bind_eq_some_iff.mp H; obtain ⟨t441, A60, H⟩ := H; replace H : (some t441) = some r := H; have A6 := am A60; clear A60; obtain rfl := Option.some.inj H; go_enter Try.func155, Try.ntmps155; go_wp2_with (first | (go_at_call 159; (with_reducible refine (impl_areLetters.calls k _ _ l0 a1 t441 _ ?side1 ?side2 A6.out).mono ?_); (case side1 => exact xC (HR0.out)); (case side2 => exact HC0.out); rintro e w' ⟨rfl, ⟨nd, rfl⟩⟩)); go_ret; exact ⟨by first | rfl | (simp; done) | (simp [*]; done), by repeat (first | exact Drawn0.refl _ | apply Drawn0.step)⟩
   ·rw [if_neg c5] at H; have c5b0 : decide ((l0.length : Int) ≤ 400) = false := decide_eq_false c5; have c5b1 : decide (l0.length ≤ 400) = false := decide_eq_false (by omega); clear c5; obtain rfl := Option.some.inj H; go_enter Try.func155, Try.ntmps155; go_wp2; go_ret; exact ⟨by first | rfl | (simp; done) | (simp [*]; done), by repeat (first | exact Drawn0.refl _ | apply Drawn0.step)⟩
  ·rw [if_neg c4] at H; have c4b0 : decide (a1 ≤ 16) = false := decide_eq_false c4; clear c4; obtain rfl := Option.some.inj H; go_enter Try.func155, Try.ntmps155; go_wp2; go_ret; exact ⟨by first | rfl | (simp; done) | (simp [*]; done), by repeat (first | exact Drawn0.refl _ | apply Drawn0.step)⟩
 ·rw [if_neg c3] at H; have c3b0 : decide (1 ≤ a1) = false := decide_eq_false c3; clear c3; obtain rfl := Option.some.inj H; go_enter Try.func155, Try.ntmps155; go_wp2; go_ret; exact ⟨by first | rfl | (simp; done) | (simp [*]; done), by repeat (first | exact Drawn0.refl _ | apply Drawn0.step)⟩
end Go.Proofs.Ytooamcjgejajeaa.M
