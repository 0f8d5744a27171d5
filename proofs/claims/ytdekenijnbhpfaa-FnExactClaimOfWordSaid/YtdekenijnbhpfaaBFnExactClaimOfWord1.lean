/- Texts of the claim on FnExactClaimOfWord, joined (part 1 of 6): walks of the functions, what they come to, and in the last part the row. No condition of mine. -/
import Derived.Test.YtdekenijnbhpfaaBFnExactClaimOfWord0
import Derived.Shelf.Strings.OnBuilder
import Derived.Shelf.SlicesE.IndexFunc
import Derived.Shelf.SlSortCmp.Whole1
import Derived.Test.YtdekenijnbhpfaaProg
import Derived.Below
import Derived.Deep.Draws
import Derived.Deep.AppendLies
import Derived.Maps.AppendAt
import Derived.OwnWalk
import Derived.Laws.BytesArg
import Derived.Laws.MakeOwn
import Derived.Laws.OwnMore
import Derived.Deep.OwnRows
import Derived.Tactics
import Derived.Lib.ConvBytes
import Derived.Laws.Slices
import Derived.WalkKit
import Derived.KernelRfl
import Derived.RowKit3
import Derived.Deep.LoopGhost
import Derived.Deep.QuietTactic
import Derived.BigQuiet
import Derived.WideLaws
import Derived.Deep.DeepCutAuto
import Derived.Deep.CutBlock
import Derived.Deep.RegionHeld3
import Derived.Laws.Rows
import Derived.Lib.AppendStr
import Derived.ArgAppend
import Derived.Laws.IdiomCopy
import Derived.OrdersHeld
import Derived.Laws.BitsLemmas
import Derived.RowKit
/- Plain lemmas on rounds, lists and whole numbers, with no program in sight. No condition. -/
namespace Go.Proofs.Ytdekenijnbhpfaa.K
open Go.RowKit Go.Proofs.YtdekenijnbhpfaaW.PrintWords
/-- Induction downwards from n. -/
theorem down {P : Nat → Prop} (n : Nat) (h0 : P n) (hs : ∀ i, i < n → P (i + 1) → P i) : ∀ i, i ≤ n → P i := by
 intro i hi; obtain ⟨d, rfl⟩ : ∃ d, n = i + d := ⟨n - i, by omega⟩; clear hi
 induction d generalizing i with
 | zero => exact h0
 | succ d ih =>
  refine hs i (by omega) ?_; refine ih (i + 1) ?_ ?_
  ·rw [show i + 1 + d = i + (d + 1) from by omega]; exact h0
  ·intro j hj; exact hs j (by omega)
theorem wsucc {i : Nat} (h : i < 9223372036854775807) : wrap64 ((i : Int) + 1) = ((i + 1 : Nat) : Int) := by
 unfold wrap64; omega
theorem w_id {a : Int} (h1 : -9223372036854775808 ≤ a) (h2 : a ≤ 9223372036854775807) : wrap64 a = a := by
 unfold wrap64; omega
theorem rd_at (xs : List Int) (i : Nat) : rd xs (i : Int) = xs.getD i 0 := by simp [rd]
theorem rd_get (xs : List Int) (i : Nat) (h : i < xs.length) : rd xs (i : Int) = xs[i] := by
 rw [rd_at, List.getD_eq_getElem?_getD, List.getElem?_eq_getElem h]; rfl
theorem Ev.some {α : Type} (r : α) : Ev (fun _ => Option.some r) r := Ev.now r
theorem Ev.val {α : Type} {x : Option α} {r : α} (h : x = Option.some r) : Ev (fun _ => x) r := ⟨0, fun _ _ => h⟩
theorem Ev.if_pos {α : Type} {c : Prop} [Decidable c] {f g : Nat → Option α} {r : α} (h : c) (k : Ev f r) : Ev (fun n => if c then f n else g n) r :=
 Ev.congr (fun _ => _root_.if_pos h) k
theorem Ev.if_neg {α : Type} {c : Prop} [Decidable c] {f g : Nat → Option α} {r : α} (h : ¬ c) (k : Ev g r) : Ev (fun n => if c then f n else g n) r :=
 Ev.congr (fun _ => _root_.if_neg h) k
theorem Ev.ite {α : Type} {c : Prop} [Decidable c] {f g : Nat → Option α} {r : α} (h1 : c → Ev f r) (h2 : ¬ c → Ev g r) : Ev (fun n => if c then f n else g n) r := by
 by_cases h : c
 ·exact Ev.if_pos h (h1 h)
 ·exact Ev.if_neg h (h2 h)
theorem Ev.same {α : Type} {g : Nat → Option α} {r q : α} (h : Ev g r) (e : r = q) : Ev g q := e ▸ h
/-- A row told by its places. -/
def row (n : Nat) (f : Nat → Int) : List Int := (List.range n).map f
theorem row_length (n : Nat) (f : Nat → Int) : (row n f).length = n := by simp [row]
theorem row_getD (n : Nat) (f : Nat → Int) (i : Nat) (h : i < n) : (row n f).getD i 0 = f i := by
 simp [row, List.getD_eq_getElem?_getD, List.getElem?_map, List.getElem?_range h]
theorem rd_row (n : Nat) (f : Nat → Int) (i : Nat) (h : i < n) : rd (row n f) (i : Int) = f i := by rw [rd_at, row_getD n f i h]
theorem row_set (n : Nat) (f : Nat → Int) (i : Nat) (v : Int) : (row n f).set i v = row n (fun m => if m = i then v else f m) := by
 apply List.ext_getElem?; intro j; by_cases hj : j < n
 ·rw [List.getElem?_set]; by_cases e : i = j
  ·subst e; simp [row, hj]
  ·rw [_root_.if_neg e]; simp [row, List.getElem?_map, List.getElem?_range hj, Ne.symm e]
 ·rw [List.getElem?_eq_none (by rw [List.length_set, row_length]; omega), List.getElem?_eq_none (by rw [row_length]; omega)]
theorem row_congr (n : Nat) (f g : Nat → Int) (h : ∀ i, i < n → f i = g i) : row n f = row n g := by
 unfold row; exact List.map_congr_left (fun i hi => h i (List.mem_range.1 hi))
theorem row_of (xs : List Int) : row xs.length (fun i => xs.getD i 0) = xs := by
 apply List.ext_getElem?; intro j; by_cases hj : j < xs.length
 ·simp [row, hj]
 ·rw [List.getElem?_eq_none (by rw [row_length]; omega), List.getElem?_eq_none (by omega)]
theorem row_succ (n : Nat) (f : Nat → Int) : row (n + 1) f = row n f ++ [f n] := by simp [row, List.range_succ]
theorem row_replicate (n : Nat) (v : Int) : List.replicate n v = row n (fun _ => v) := by
 apply List.ext_getElem?; intro j; by_cases hj : j < n
 ·simp [row, hj]
 ·rw [List.getElem?_eq_none (by simp; omega), List.getElem?_eq_none (by rw [row_length]; omega)]
theorem drop_eq {α : Type} (xs : List α) (i : Nat) (h : i < xs.length) : xs.drop i = xs[i] :: xs.drop (i + 1) := List.drop_eq_getElem_cons h
theorem take_succ {α : Type} (xs : List α) (i : Nat) (h : i < xs.length) : xs.take (i + 1) = xs.take i ++ [xs[i]] := by
 rw [List.take_add_one, List.getElem?_eq_getElem h]; rfl
theorem cons_dec {α : Type} [DecidableEq α] (x y : α) (xs ys : List α) : decide (x :: xs = y :: ys) = (decide (x = y) && decide (xs = ys)) := by
 by_cases h : x = y <;> by_cases k : xs = ys <;> simp [h, k]
end Go.Proofs.Ytdekenijnbhpfaa.K
/- Functions of the library as this program holds them: the kit's contracts laid over its numbers. No condition of mine. -/
namespace Go.Proofs.Ytdekenijnbhpfaa
open Go.Shelf
def Try.laysSlF6_f99_ren : Go.Shelf.Ren := ⟨fun | 6 => 99 | 15 => 108 | 14 => 107 | 28 => 119 | 29 => 120 | 20 => 111 | 21 => 112 | 22 => 113 | 23 => 114 | 24 => 115 | 25 => 116 | 26 => 117 | 27 => 118 | 46 => 122 | 47 => 123 | 48 => 124 | 49 => 125 | 50 => 126 | 57 => 127 | n => n, fun | 22 => 22 | 24 => 31 | 25 => 101 | 3 => 3 | 39 => 109 | 0 => 0 | 53 => 120 | 55 => 122 | 4 => 4 | 46 => 113 | 45 => 112 | 50 => 117 | 5 => 5 | 9 => 9 | 66 => 123 | 70 => 127 | 76 => 129 | 77 => 130 | n => n, fun | n => n⟩
theorem Try.laysSlF6_f99 : Go.Proofs.SlLaysF.n6 Try.prog Try.laysSlF6_f99_ren := {
 mixed := by kernel_rfl
 f6 := ⟨Try.f99.name, by decide, Try.func99.trans (congrArg some (by kernel_rfl))⟩
 f14 := ⟨Try.f107.name, by decide, Try.func107.trans (congrArg some (by kernel_rfl))⟩
 f15 := Try.func108.trans (congrArg some (by kernel_rfl))
 f20 := ⟨Try.f111.name, by decide, Try.func111.trans (congrArg some (by kernel_rfl))⟩
 f21 := ⟨Try.f112.name, by decide, Try.func112.trans (congrArg some (by kernel_rfl))⟩
 f22 := ⟨Try.f113.name, by decide, Try.func113.trans (congrArg some (by kernel_rfl))⟩
 f23 := ⟨Try.f114.name, by decide, Try.func114.trans (congrArg some (by kernel_rfl))⟩
 f24 := ⟨Try.f115.name, by decide, Try.func115.trans (congrArg some (by kernel_rfl))⟩
 f25 := ⟨Try.f116.name, by decide, Try.func116.trans (congrArg some (by kernel_rfl))⟩
 f26 := ⟨Try.f117.name, by decide, Try.func117.trans (congrArg some (by kernel_rfl))⟩
 f27 := ⟨Try.f118.name, by decide, Try.func118.trans (congrArg some (by kernel_rfl))⟩
 f28 := Try.func119.trans (congrArg some (by kernel_rfl))
 f29 := Try.func120.trans (congrArg some (by kernel_rfl))
 f46 := ⟨Try.f122.name, by decide, Try.func122.trans (congrArg some (by kernel_rfl))⟩
 f47 := Try.func123.trans (congrArg some (by kernel_rfl))
 f48 := Try.func124.trans (congrArg some (by kernel_rfl))
 f49 := ⟨Try.f125.name, by decide, Try.func125.trans (congrArg some (by kernel_rfl))⟩
 f50 := ⟨Try.f126.name, by decide, Try.func126.trans (congrArg some (by kernel_rfl))⟩
 f57 := ⟨Try.f127.name, by decide, Try.func127.trans (congrArg some (by kernel_rfl))⟩
 t0 := Try.underlying0
 a0 := Try.isAgg0
 z0 := Try.sizeOf0
 v0 := Try.zeroValue0
 t3 := Try.underlying3
 a3 := Try.isAgg3
 z3 := Try.sizeOf3
 v3 := Try.zeroValue3
 t4 := Try.underlying4
 a4 := Try.isAgg4
 z4 := Try.sizeOf4
 v4 := Try.zeroValue4
 t5 := Try.underlying5
 a5 := Try.isAgg5
 z5 := Try.sizeOf5
 v5 := Try.zeroValue5
 t9 := Try.underlying9
 a9 := Try.isAgg9
 z9 := Try.sizeOf9
 v9 := Try.zeroValue9
 t22 := Try.underlying22
 a22 := Try.isAgg22
 z22 := Try.sizeOf22
 v22 := Try.zeroValue22
 a24 := Try.isAgg31
 z24 := Try.sizeOf31
 t25 := Try.underlying101
 a25 := Try.isAgg101
 z25 := Try.sizeOf101
 v25 := Try.zeroValue101
 t39 := Try.underlying109
 a39 := Try.isAgg109
 z39 := Try.sizeOf109
 v39 := Try.zeroValue109
 t45 := Try.underlying112
 a45 := Try.isAgg112
 z45 := Try.sizeOf112
 v45 := Try.zeroValue112
 t46 := Try.underlying113
 a46 := Try.isAgg113
 z46 := Try.sizeOf113
 v46 := Try.zeroValue113
 t50 := Try.underlying117
 a50 := Try.isAgg117
 z50 := Try.sizeOf117
 v50 := Try.zeroValue117
 t53 := Try.underlying120
 a53 := Try.isAgg120
 z53 := Try.sizeOf120
 v53 := Try.zeroValue120
 t55 := Try.underlying122
 a55 := Try.isAgg122
 z55 := Try.sizeOf122
 v55 := Try.zeroValue122
 t66 := Try.underlying123
 a66 := Try.isAgg123
 z66 := Try.sizeOf123
 v66 := Try.zeroValue123
 t70 := Try.underlying127
 a70 := Try.isAgg127
 z70 := Try.sizeOf127
 v70 := Try.zeroValue127
 t76 := Try.underlying129
 a76 := Try.isAgg129
 z76 := Try.sizeOf129
 v76 := Try.zeroValue129
 t77 := Try.underlying130
 a77 := Try.isAgg130
 z77 := Try.sizeOf130
 v77 := Try.zeroValue130 }
open Go.RowKit Go.Lib Go.Sort in
theorem Try.slices_SortFunc {α : Type} [Inhabited α] (enc : α → Value) (h1 : OneCell enc) (cf : α → α → Int) (hO : SWO (ltOf cf)) (g : Nat) (cb : Array Value) (blk off cap : Nat) (d : Array α) (w : World) (eg : ∀ args w, (callFunc g args).run Try.prog w = .ok (.enter g args) w) (hcmp : CmpLays1 Try.prog g cb enc cf blk off d.size w) (hH : Holds enc w blk off d) (hblk : blk < w.heap.size) (hsz : d.size < 4611686018427387904) :
  Calls Try.prog 99 #[.slice (some ⟨blk, off, none⟩) d.size cap, .func (.func g) #[] cb] w fun e w' =>
   e = .returned (.tuple #[]) ∧ ∃ d' n os, PermIn 0 d.size d d' ∧ SortedIn (ltOf cf) 0 d.size d' ∧ w' = sortWorld enc w blk off n d' os := Any.slices_SortFunc Try.laysSlF6_f99 enc h1 cf hO g cb blk off cap d w eg hcmp hH hblk hsz
end Go.Proofs.Ytdekenijnbhpfaa
namespace Go.Proofs.Ytdekenijnbhpfaa.M
open Go.RowKit Go.Proofs.YtdekenijnbhpfaaW.PrintWords Go.Proofs.YtdekenijnbhpfaaW.PrintLast Go.Proofs.YtdekenijnbhpfaaW.PrintMore
attribute [local go_sem] max2_int min2_int max_two min_two max_three min_three max_four min_four
set_option linter.unusedVariables false
set_option linter.unusedSimpArgs false
def errW : Option Int → Value
 | none => .nilIface
 | some c => .iface 0 (.int .i64 c)
theorem errW_none : errW none = .nilIface := rfl
theorem errW_some (c : Int) : errW (some c) = .iface 0 (.int .i64 c) := rfl
theorem info3 : (Try.prog.info? 3).map (fun i => (i.zero, i.size, i.bytes)) = some (some (.int .i64 0), 1, 8) := by kernel_rfl
theorem info5 : (Try.prog.info? 5).map (fun i => (i.zero, i.size, i.bytes)) = some (some (.int .u8 0), 1, 1) := by kernel_rfl
theorem info9 : (Try.prog.info? 9).map (fun i => (i.zero, i.size, i.bytes)) = some (some (.string ⟨#[]⟩), 1, 16) := by kernel_rfl
theorem info31 : (Try.prog.info? 31).map (fun i => (i.zero, i.size, i.bytes)) = some (some (.slice none 0 0), 1, 24) := by kernel_rfl
-- the values' own types
def rd_L1 (xs : List (List Int)) (i : Int) : (List Int) := xs.getD i.toNat ([] : List Int)
theorem at_L1 {w : World} {A : Option Addr} {n : Nat} {xs : List (List Int)} (h : Kd.C (Kd.slice 3 (Kd.int .i64)) w A n xs) (i : Int) (h0 : 0 ≤ i) (h1 : i < n) : ∃ ad A0 c0, A = some ad ∧ w.cell? (ad.add i.toNat) = some (.slice A0 (rd_L1 xs i).length c0) ∧ (rd_L1 xs i).length ≤ c0 ∧ (Kd.int .i64).C w A0 (rd_L1 xs i).length (rd_L1 xs i) := by
 obtain ⟨ad, c, e, _, hK, hc0⟩ := Kd.C_get h ([] : List Int) i h0 h1; have hc : ∀ j u, c[j]? = some u → w.cell? (ad.add (i.toNat * 1 + j)) = some u := hc0; obtain ⟨A0, c0, rfl, l0, g0⟩ := hK; exact ⟨ad, A0, c0, e, by have hq := hc 0 _ rfl; rwa [Nat.mul_one, Nat.add_zero] at hq, l0, g0⟩
/-! #### struct type 75 -/
structure S75 where
 f0 : Int
 f1 : Int
 f2 : Int
 f3 : Int
def z75 : S75 := ⟨(0 : Int), (0 : Int), (0 : Int), (0 : Int)⟩
def k75 : Kd S75 := Kd.iso (Kd.pair (Kd.int .i64) (Kd.pair (Kd.int .i64) (Kd.pair (Kd.int .i64) (Kd.int .i64)))) (fun x : S75 => (x.f0, x.f1, x.f2, x.f3))
theorem k75_heap : Kd.Heap k75 := Kd.heap_iso _ (Kd.heap_pair (Kd.heap_int .i64) (Kd.heap_pair (Kd.heap_int .i64) (Kd.heap_pair (Kd.heap_int .i64) (Kd.heap_int .i64))))
theorem k75_open {w : World} {x : S75} {cs : List Value} (h : k75.K w x cs) : cs = [.int .i64 x.f0, .int .i64 x.f1, .int .i64 x.f2, .int .i64 x.f3] := by
 obtain ⟨_, _, rfl, rfl, ⟨_, _, rfl, rfl, ⟨_, _, rfl, rfl, rfl⟩⟩⟩ := h; exact rfl
theorem k75_openM {w : World} {base : Nat} {ok : Nat → Prop} {x : S75} {cs : List Value} (h : k75.M w base ok x cs) : cs = [.int .i64 x.f0, .int .i64 x.f1, .int .i64 x.f2, .int .i64 x.f3] := by
 obtain ⟨_, _, rfl, rfl, ⟨_, _, rfl, rfl, ⟨_, _, rfl, rfl, rfl⟩⟩⟩ := h; exact rfl
theorem k75_mk (w : World) (x : S75)  : k75.K w x [.int .i64 x.f0, .int .i64 x.f1, .int .i64 x.f2, .int .i64 x.f3] := ⟨[.int .i64 x.f0], [.int .i64 x.f1, .int .i64 x.f2, .int .i64 x.f3], rfl, rfl, ⟨[.int .i64 x.f1], [.int .i64 x.f2, .int .i64 x.f3], rfl, rfl, ⟨[.int .i64 x.f2], [.int .i64 x.f3], rfl, rfl, rfl⟩⟩⟩
theorem k75_mkM (w : World) (base : Nat) (ok : Nat → Prop) (x : S75)  : k75.M w base ok x [.int .i64 x.f0, .int .i64 x.f1, .int .i64 x.f2, .int .i64 x.f3] := ⟨[.int .i64 x.f0], [.int .i64 x.f1, .int .i64 x.f2, .int .i64 x.f3], rfl, rfl, ⟨[.int .i64 x.f1], [.int .i64 x.f2, .int .i64 x.f3], rfl, rfl, ⟨[.int .i64 x.f2], [.int .i64 x.f3], rfl, rfl, rfl⟩⟩⟩
theorem k75_mkF (W : World) (ok : Nat → Prop) (x : S75) : Kd.FK k75 W ok x [.int .i64 x.f0, .int .i64 x.f1, .int .i64 x.f2, .int .i64 x.f3] := fun W2 _ => k75_mk W2 x
def rd_T75 (xs : List S75) (i : Int) : S75 := xs.getD i.toNat z75
theorem at_T75 {w : World} {A : Option Addr} {n : Nat} {xs : List S75} (h : Kd.C k75 w A n xs) (i : Int) (h0 : 0 ≤ i) (h1 : i < n) : ∃ ad , A = some ad ∧ w.cell? (ad.add (i.toNat * 4)) = some (.int .i64 (rd_T75 xs i).f0) ∧ w.cell? ⟨(ad.add (i.toNat * 4)).block, (ad.add (i.toNat * 4)).off + 1, none⟩ = some (.int .i64 (rd_T75 xs i).f1) ∧ w.cell? ⟨(ad.add (i.toNat * 4)).block, (ad.add (i.toNat * 4)).off + 2, none⟩ = some (.int .i64 (rd_T75 xs i).f2) ∧ w.cell? ⟨(ad.add (i.toNat * 4)).block, (ad.add (i.toNat * 4)).off + 3, none⟩ = some (.int .i64 (rd_T75 xs i).f3) := by
 obtain ⟨ad, c, e, _, hK, hc0⟩ := Kd.C_get h z75 i h0 h1; have hc : ∀ j u, c[j]? = some u → w.cell? (ad.add (i.toNat * 4 + j)) = some u := hc0; obtain rfl := k75_open hK; exact ⟨ad, e, hc 0 _ rfl, by rw [← add_field _ _ 1 (by omega)]; exact hc 1 _ rfl, by rw [← add_field _ _ 2 (by omega)]; exact hc 2 _ rfl, by rw [← add_field _ _ 3 (by omega)]; exact hc 3 _ rfl⟩
end Go.Proofs.Ytdekenijnbhpfaa.M
/- Short words for facts that events leave alone. No condition. -/
namespace Go.Proofs.Ytdekenijnbhpfaa.KW
open Go.RowKit Go.Proofs.YtdekenijnbhpfaaW.PrintWords Go.Proofs.YtdekenijnbhpfaaW.PrintLast
class Ge (b g : Nat) : Prop where
 le : b ≤ g
class Nq (a b : Nat) : Prop where
 ne : a ≠ b
class Re (w w' : World) : Prop where
 r : Below w.heap.size w w'
class Rw (b : Nat) (w w' : World) : Prop where
 r : b ≤ w.heap.size → Below b w w'
class Rk (b g : Nat) (w w' : World) : Prop where
 r : w.heap.size ≤ w'.heap.size ∧ ∀ i, i < b → i < w.heap.size → i ≠ g → w'.heap[i]? = w.heap[i]?
class Rq (g : Nat) (w w' : World) : Prop where
 r : w.heap.size ≤ w'.heap.size ∧ (g < w.heap.size → w'.heap[g]? = w.heap[g]?)
variable {w w' w0 : World} {b g h j n : Nat} {o : Obj} {v : Value}
instance : Re w w := ⟨Below.refl _ _⟩
instance [q : Re w w'] : Re w (w'.alloc o) := ⟨below_alloc q.r o⟩
instance [q : Re w w'] : Re w (w'.drewN n) := ⟨pw_below_drewN q.r n⟩
instance [q : Re w w'] : Re w w'.drew := ⟨below_drew1 q.r⟩
instance : Rw b w w := ⟨fun _ => Below.refl _ _⟩
instance [q : Rw b w w'] : Rw b w (w'.alloc o) := ⟨fun hb => (q.r hb).alloc (Nat.le_trans hb (q.r hb).size) o⟩
instance [q : Rw b w w'] : Rw b w (w'.drewN n) := ⟨fun hb => pw_below_drewN (q.r hb) n⟩
instance [q : Rw b w w'] : Rw b w w'.drew := ⟨fun hb => (q.r hb).drew⟩
instance [q : Rw b w w'] [k : Ge b h] : Rw b w (w'.setCell ⟨h, j, none⟩ v) := ⟨fun hb => (q.r hb).setCell k.le _⟩
theorem heap_alloc_lt (w : World) (o : Obj) (i : Nat) (h : i < w.heap.size) : (w.alloc o).heap[i]? = w.heap[i]? := (below_alloc (Below.refl w.heap.size w) o).block i h
theorem size_alloc (w : World) (o : Obj) : w.heap.size ≤ (w.alloc o).heap.size := (below_alloc (Below.refl w.heap.size w) o).size
theorem size_set (w : World) (p : Addr) (v : Value) : w.heap.size ≤ (w.setCell p v).heap.size := by simp [World.setCell]
instance : Rk b g w w := ⟨Nat.le_refl _, fun _ _ _ _ => rfl⟩
instance [q : Rk b g w w'] : Rk b g w (w'.alloc o) := ⟨Nat.le_trans q.r.1 (size_alloc _ _), fun i h1 h2 h3 => (heap_alloc_lt _ _ _ (Nat.lt_of_lt_of_le h2 q.r.1)).trans (q.r.2 i h1 h2 h3)⟩
instance [q : Rk b g w w'] : Rk b g w (w'.drewN n) := ⟨q.r.1, fun i h1 h2 h3 => q.r.2 i h1 h2 h3⟩
instance [q : Rk b g w w'] : Rk b g w w'.drew := ⟨q.r.1, fun i h1 h2 h3 => q.r.2 i h1 h2 h3⟩
instance rkFar [q : Rk b g w w'] [k : Ge b h] : Rk b g w (w'.setCell ⟨h, j, none⟩ v) := ⟨Nat.le_trans q.r.1 (size_set _ _ _), fun i h1 h2 h3 => (Below.heap_setCell w' ⟨h, j, none⟩ v i (fun e => Nat.lt_irrefl _ (Nat.lt_of_lt_of_le h1 (e ▸ k.le)))).trans (q.r.2 i h1 h2 h3)⟩
instance rkOwn [q : Rk b g w w'] : Rk b g w (w'.setCell ⟨g, j, none⟩ v) := ⟨Nat.le_trans q.r.1 (size_set _ _ _), fun i h1 h2 h3 => (Below.heap_setCell w' ⟨g, j, none⟩ v i h3).trans (q.r.2 i h1 h2 h3)⟩
instance : Rq g w w := ⟨Nat.le_refl _, fun _ => rfl⟩
instance [q : Rq g w w'] : Rq g w (w'.alloc o) := ⟨Nat.le_trans q.r.1 (size_alloc _ _), fun h1 => (heap_alloc_lt _ _ _ (Nat.lt_of_lt_of_le h1 q.r.1)).trans (q.r.2 h1)⟩
instance [q : Rq g w w'] : Rq g w (w'.drewN n) := ⟨q.r.1, q.r.2⟩
instance [q : Rq g w w'] : Rq g w w'.drew := ⟨q.r.1, q.r.2⟩
instance [q : Rq g w w'] [k : Nq g h] : Rq g w (w'.setCell ⟨h, j, none⟩ v) := ⟨Nat.le_trans q.r.1 (size_set _ _ _), fun h1 => (Below.heap_setCell w' ⟨h, j, none⟩ v g k.ne).trans (q.r.2 h1)⟩
theorem mT {α β : Type} (f : α → β) (l : List α) : l.toArray.map f = (l.map f).toArray := by simp
theorem mC {α β : Type} (f : α → β) (x : α) (l : List α) : (x :: l).map f = f x :: l.map f := rfl
theorem mN {α β : Type} (f : α → β) : ([] : List α).map f = [] := rfl
def bL : Nat → Nat → List Bool
 | 0, _ => []
 | n + 1, k => (k % 2 == 1) :: bL n (k / 2)
def bA (n k : Nat) : Array Bool := (bL n k).toArray
theorem qa {α : Type} (l : List α) (i : Nat) (a : α) : l.toArray.setIfInBounds i a = (l.set i a).toArray := List.setIfInBounds_toArray ..
theorem qz {α : Type} {x a : α} {l : List α} : (x :: l).set 0 a = a :: l := rfl
theorem qs {α : Type} {x a : α} {l : List α} {n : Nat} : (x :: l).set (n + 1) a = x :: l.set n a := rfl
theorem aM {p : Prop} (h : p) : Aside0 p := ⟨h⟩
theorem rB (h : Aside0 (Below w0.heap.size w0 w)) [q : Rw w0.heap.size w w'] : Below w0.heap.size w0 w' := h.out.trans (q.r h.out.size)
theorem xX (h : w.heap[g]? = some o) [q : Rq g w w'] : w'.heap[g]? = some o := (q.r.2 (blk_lt h)).trans h
theorem rX (h : Aside0 (w.heap[g]? = some o)) [q : Rq g w w'] : w'.heap[g]? = some o := xX h.out
theorem oD {p : Prop} [Decidable p] (h : decide p = true := by first | (with_reducible assumption) | assumption) : p := of_decide_eq_true h
theorem bE {α β : Type} {x : Option α} {f : α → Option β} {b : β} (h : x.bind f = some b) : ∃ a, x = some a ∧ f a = some b := Option.bind_eq_some_iff.mp h
theorem bK (h : Aside0 (w.heap[g]? = some o)) {w2 : World} (hb : Below w'.heap.size w' w2) [q : Rq g w w'] : Aside0 (w2.heap[g]? = some o) := ⟨blk_below (rX h) hb⟩
theorem bS (h : Aside0 (Below w0.heap.size w0 w)) {w2 : World} (hb : Below w'.heap.size w' w2) [q : Rw w0.heap.size w w'] : Aside0 (Below w0.heap.size w0 w2) := ⟨below_step (rB h) hb⟩
theorem bZ (h : Aside0 (Below w0.heap.size w0 w)) [q : Rw w0.heap.size w w'] : w0.heap.size ≤ w'.heap.size := below_size (rB h)
variable {a1 a2 a3 : Value} {t : TypeId}
theorem z30 (h : Aside0 (w.heap[g]? = some (.cells #[a1, a2, a3] t (0, 0)))) : w.cell? ⟨g, 0, none⟩ = some a1 := (blk_cell h.out 0).trans rfl
theorem z31 (h : Aside0 (w.heap[g]? = some (.cells #[a1, a2, a3] t (0, 0)))) : w.cell? ⟨g, 1, none⟩ = some a2 := (blk_cell h.out 1).trans rfl
theorem z32 (h : Aside0 (w.heap[g]? = some (.cells #[a1, a2, a3] t (0, 0)))) : w.cell? ⟨g, 2, none⟩ = some a3 := (blk_cell h.out 2).trans rfl
variable {α : Type} {d : Kd α} {e base : Nat} {ok : Nat → Prop} {u : Value} {xs : List α} {A : Option Addr}
theorem xR (h : d.R e w base ok u xs) [q : Re w w'] : d.R e w' base ok u xs := Kd.R_below h q.r
theorem rR (h : Aside0 (d.R e w base ok u xs)) [q : Re w w'] : d.R e w' base ok u xs := xR h.out
theorem xS (h : Kd.S d e w base ok u xs) [q : Re w w'] : Kd.S d e w' base ok u xs := Kd.S_below h q.r
theorem rS (h : Aside0 (Kd.S d e w base ok u xs)) [q : Re w w'] : Kd.S d e w' base ok u xs := xS h.out
theorem xN (h : Kd.N d e w base ok u xs) [q : Re w w'] : Kd.N d e w' base ok u xs := Kd.N_below h q.r
theorem rN (h : Aside0 (Kd.N d e w base ok u xs)) [q : Re w w'] : Kd.N d e w' base ok u xs := xN h.out
theorem xV (h : Kd.V d e w base ok u xs) [q : Re w w'] : Kd.V d e w' base ok u xs := Kd.V_below h q.r
theorem rV (h : Aside0 (Kd.V d e w base ok u xs)) [q : Re w w'] : Kd.V d e w' base ok u xs := xV h.out
theorem xC (h : d.C w A n xs) [q : Re w w'] : d.C w' A n xs := Kd.C_below h q.r
section
variable {P : Program} {ops : Array Oper} {Q : Exit → Act → World → Prop} {md : Region.Mode} {S : World → Prop} {ds : List Nat} {T : Bool × List (List Nat × List Nat)} {B : List Nat} {n k fuel : Nat} {oi : Oper} {v : Value} {a a' : Act} {w : World}
theorem pV (i t m : Nat) (HT : Aside0 (rtab md ops = T)) (h : wpAnyLast P md ops Q S ds fuel (bA n m) a' w) (hc : anyT T (bA n k).toList (bA n m).toList i = true := by kernel_rfl) (hi : ops[i]? = some oi := by rfl) (hN : oi.dst = some t := by rfl) (hQ : ∀ c a w, Q (.panic c) (a.put oi.dst v) w → Q (.panic c) a w := by exact fun _ _ _ h => h) (hw : Region.wanted oi (yielded ops a.tmps) = true := by rfl) (hr : ∀ w, (execOp a.eval oi).run P w = .ok (.value v) w := by (intro w'; go_simp; with_reducible rfl)) (ha : a.put (some t) v = a' := by (simp only [Act.put, qa, qz, qs, i64_w, i32_w]; rfl)) : wpAnyLast P md ops Q S ds (fuel + 1) (bA n k) a w :=
 pure_ (N := some t) (bA n m) hi hN (any_of HT.out hc) hQ (Or.inl ⟨hw, hr⟩) ha h
theorem tV (i t m : Nat) (HT : Aside0 (rtab md ops = T)) (HW : Aside0 (waitsOk T.2 B = true)) (hS : S w) (h : wpAnyLast P md ops Q S ds fuel (bA n m) a' w) (hc : takeW T B ds (bA n k).toList (bA n m).toList i = true := by kernel_rfl) (hi : ops[i]? = some oi := by rfl) (hN : oi.dst = some t := by rfl) (hQ : ∀ c a w, Q (.panic c) (a.put oi.dst v) w → Q (.panic c) a w := by exact fun _ _ _ h => h) (hw : Region.wanted oi (yielded ops a.tmps) = true := by rfl) (hr : ∀ w, S w → (execOp a.eval oi).run P w = .ok (.value v) w := by (intro w' hs_; (repeat (have s_ := hs_.1; replace hs_ := hs_.2)); go_simp; with_reducible rfl)) (ha : a.put (some t) v = a' := by (simp only [Act.put, qa, qz, qs, i64_w, i32_w]; rfl)) : wpAnyLast P md ops Q S ds (fuel + 1) (bA n k) a w :=
 take_ (N := some t) (bA n m) hi hN (take_ofW HT.out HW.out hc) hQ (Or.inl ⟨hw, hr⟩) hS ha h
end
theorem nP {P : Program} {ops : Array Oper} {Q : Exit → Act → World → Prop} {md : Region.Mode} {S : World → Prop} {ds : List Nat} {fuel : Nat} {l : Array Bool} {a a' : Act} {w : World} (h : wpAnyLast P md ops Q S ds fuel l a' w) (ha : a = a' := by (show Act.put _ _ _ = _; simp only [Act.put, qa, qz, qs, i64_w, i32_w]; rfl)) : wpAnyLast P md ops Q S ds fuel l a w := norm_ ha h
theorem oV {P : Program} {ops : Array Oper} {Q : Exit → Act → World → Prop} {md : Region.Mode} {S : World → Prop} {ds : List Nat} {T : Bool × List (List Nat × List Nat)} {n k fuel : Nat} {oi : Oper} {a : Act} {w : World} (i t m : Nat) (HT : Aside0 (rtab md ops = T)) (h : ∀ K : Act → World → Prop, Shut (∀ a' w', S w' → (S w' → wpAnyLast P md ops Q S ds fuel (bA n m) a' w') → K a' w') → if Region.wanted oi (yielded ops a.tmps) = true then Oper.wp P oi a w K Q else K (a.put (some t) undef) w) (hi : ops[i]? = some oi := by rfl) (hN : oi.dst = some t := by rfl) (hc : (readyT T.2 (bA n k).toList == [i] && (bA n k).toList.set i true == (bA n m).toList) = true := by kernel_rfl) (hd : i ∉ ds := by decide) : wpAnyLast P md ops Q S ds (fuel + 1) (bA n k) a w :=
 one_ (N := some t) (bA n m) hi hN (one_of HT.out hc) hd h
theorem zc4 {a0 a1 a2 a3 : Value} {t : TypeId} {w : World} {g : Nat} (h : Aside0 (w.heap[g]? = some (.cells #[a0, a1, a2, a3] t (0, 0)))) : w.cell? ⟨g, 0, none⟩ = some a0 ∧ w.cell? ⟨g, 1, none⟩ = some a1 ∧ w.cell? ⟨g, 2, none⟩ = some a2 ∧ w.cell? ⟨g, 3, none⟩ = some a3 := ⟨(blk_cell h.out 0).trans rfl, (blk_cell h.out 1).trans rfl, (blk_cell h.out 2).trans rfl, (blk_cell h.out 3).trans rfl⟩
theorem zc11 {a0 a1 a2 a3 a4 a5 a6 a7 a8 a9 a10 : Value} {t : TypeId} {w : World} {g : Nat} (h : Aside0 (w.heap[g]? = some (.cells #[a0, a1, a2, a3, a4, a5, a6, a7, a8, a9, a10] t (0, 0)))) : w.cell? ⟨g, 0, none⟩ = some a0 ∧ w.cell? ⟨g, 1, none⟩ = some a1 ∧ w.cell? ⟨g, 2, none⟩ = some a2 ∧ w.cell? ⟨g, 3, none⟩ = some a3 ∧ w.cell? ⟨g, 4, none⟩ = some a4 ∧ w.cell? ⟨g, 5, none⟩ = some a5 ∧ w.cell? ⟨g, 6, none⟩ = some a6 ∧ w.cell? ⟨g, 7, none⟩ = some a7 ∧ w.cell? ⟨g, 8, none⟩ = some a8 ∧ w.cell? ⟨g, 9, none⟩ = some a9 ∧ w.cell? ⟨g, 10, none⟩ = some a10 := ⟨(blk_cell h.out 0).trans rfl, (blk_cell h.out 1).trans rfl, (blk_cell h.out 2).trans rfl, (blk_cell h.out 3).trans rfl, (blk_cell h.out 4).trans rfl, (blk_cell h.out 5).trans rfl, (blk_cell h.out 6).trans rfl, (blk_cell h.out 7).trans rfl, (blk_cell h.out 8).trans rfl, (blk_cell h.out 9).trans rfl, (blk_cell h.out 10).trans rfl⟩
theorem bG (h : Aside0 (Below w0.heap.size w0 w)) (hg : g = w'.heap.size) [q : Rw w0.heap.size w w'] : Aside0 (w0.heap.size ≤ g) := ⟨by rw [hg]; exact bZ h⟩
theorem bN (h : Aside0 (w.heap[g]? = some o)) (hg : j = w'.heap.size) [q : Rq g w w'] : Aside0 (g ≠ j) := ⟨by rw [hg]; exact Nat.ne_of_lt (blk_lt (rX h))⟩
theorem bM (h : Aside0 (w.heap[g]? = some o)) (hg : j = w'.heap.size) [q : Rq g w w'] : Aside0 (j ≠ g) := ⟨by rw [hg]; exact Nat.ne_of_gt (blk_lt (rX h))⟩
theorem fz3 {cs : Array Value} {t : TypeId} (h : Aside0 (w.heap[g]? = some (.cells cs t (0, 0)))) : w.frozen? ⟨g, 0, none⟩ = false ∧ w.frozen? ⟨g, 1, none⟩ = false ∧ w.frozen? ⟨g, 2, none⟩ = false := ⟨blk_frozen h.out 0, blk_frozen h.out 1, blk_frozen h.out 2⟩
theorem fz4 {cs : Array Value} {t : TypeId} (h : Aside0 (w.heap[g]? = some (.cells cs t (0, 0)))) : w.frozen? ⟨g, 0, none⟩ = false ∧ w.frozen? ⟨g, 1, none⟩ = false ∧ w.frozen? ⟨g, 2, none⟩ = false ∧ w.frozen? ⟨g, 3, none⟩ = false := ⟨blk_frozen h.out 0, blk_frozen h.out 1, blk_frozen h.out 2, blk_frozen h.out 3⟩
theorem fz11 {cs : Array Value} {t : TypeId} (h : Aside0 (w.heap[g]? = some (.cells cs t (0, 0)))) : w.frozen? ⟨g, 0, none⟩ = false ∧ w.frozen? ⟨g, 1, none⟩ = false ∧ w.frozen? ⟨g, 2, none⟩ = false ∧ w.frozen? ⟨g, 3, none⟩ = false ∧ w.frozen? ⟨g, 4, none⟩ = false ∧ w.frozen? ⟨g, 5, none⟩ = false ∧ w.frozen? ⟨g, 6, none⟩ = false ∧ w.frozen? ⟨g, 7, none⟩ = false ∧ w.frozen? ⟨g, 8, none⟩ = false ∧ w.frozen? ⟨g, 9, none⟩ = false ∧ w.frozen? ⟨g, 10, none⟩ = false := ⟨blk_frozen h.out 0, blk_frozen h.out 1, blk_frozen h.out 2, blk_frozen h.out 3, blk_frozen h.out 4, blk_frozen h.out 5, blk_frozen h.out 6, blk_frozen h.out 7, blk_frozen h.out 8, blk_frozen h.out 9, blk_frozen h.out 10⟩
abbrev nb (k : Nat) (v : Value) : Prop := some k ≠ v.ownBlock
theorem gR11 {α : Type} {d : Kd α} {e : Nat} {w : World} {base : Nat} {ok : Nat → Prop} {v : Value} {xs : List α} {g t : Nat} {cells : Array Value} (h : d.R e w base ok v xs) (hb : w.heap[g]? = some (.cells cells t (0, 0))) (v0 v1 v2 v3 v4 v5 v6 v7 v8 v9 v10 : Value) (ht : ∀ q, q ∈ e :: d.E → q ≠ t := by decide) :
  d.R e (((((((((((w.setCell ⟨g, 0, none⟩ v0).setCell ⟨g, 1, none⟩ v1).setCell ⟨g, 2, none⟩ v2).setCell ⟨g, 3, none⟩ v3).setCell ⟨g, 4, none⟩ v4).setCell ⟨g, 5, none⟩ v5).setCell ⟨g, 6, none⟩ v6).setCell ⟨g, 7, none⟩ v7).setCell ⟨g, 8, none⟩ v8).setCell ⟨g, 9, none⟩ v9).setCell ⟨g, 10, none⟩ v10) base ok v xs :=
 Kd.R_mono (Kd.R_far (p := ⟨g, 10, none⟩) (Kd.R_far (p := ⟨g, 9, none⟩) (Kd.R_far (p := ⟨g, 8, none⟩) (Kd.R_far (p := ⟨g, 7, none⟩) (Kd.R_far (p := ⟨g, 6, none⟩) (Kd.R_far (p := ⟨g, 5, none⟩) (Kd.R_far (p := ⟨g, 4, none⟩) (Kd.R_far (p := ⟨g, 3, none⟩) (Kd.R_far (p := ⟨g, 2, none⟩) (Kd.R_far (p := ⟨g, 1, none⟩) (Kd.R_far (p := ⟨g, 0, none⟩) (Kd.R_types h hb ht) (fun _ hk => hk.2) v0) (fun _ hk => hk.2) v1) (fun _ hk => hk.2) v2) (fun _ hk => hk.2) v3) (fun _ hk => hk.2) v4) (fun _ hk => hk.2) v5) (fun _ hk => hk.2) v6) (fun _ hk => hk.2) v7) (fun _ hk => hk.2) v8) (fun _ hk => hk.2) v9) (fun _ hk => hk.2) v10) (fun _ h_ => h_.1)
theorem gS11 {α : Type} {d : Kd α} {e : Nat} {w : World} {base : Nat} {ok : Nat → Prop} {v : Value} {xs : List α} {g t : Nat} {cells : Array Value} (h : Kd.S d e w base ok v xs) (hb : w.heap[g]? = some (.cells cells t (0, 0))) (v0 v1 v2 v3 v4 v5 v6 v7 v8 v9 v10 : Value) (ht : ∀ q, q ∈ e :: d.E → q ≠ t := by decide) :
  Kd.S d e (((((((((((w.setCell ⟨g, 0, none⟩ v0).setCell ⟨g, 1, none⟩ v1).setCell ⟨g, 2, none⟩ v2).setCell ⟨g, 3, none⟩ v3).setCell ⟨g, 4, none⟩ v4).setCell ⟨g, 5, none⟩ v5).setCell ⟨g, 6, none⟩ v6).setCell ⟨g, 7, none⟩ v7).setCell ⟨g, 8, none⟩ v8).setCell ⟨g, 9, none⟩ v9).setCell ⟨g, 10, none⟩ v10) base ok v xs :=
 Kd.S_mono (Kd.S_far (p := ⟨g, 10, none⟩) (Kd.S_far (p := ⟨g, 9, none⟩) (Kd.S_far (p := ⟨g, 8, none⟩) (Kd.S_far (p := ⟨g, 7, none⟩) (Kd.S_far (p := ⟨g, 6, none⟩) (Kd.S_far (p := ⟨g, 5, none⟩) (Kd.S_far (p := ⟨g, 4, none⟩) (Kd.S_far (p := ⟨g, 3, none⟩) (Kd.S_far (p := ⟨g, 2, none⟩) (Kd.S_far (p := ⟨g, 1, none⟩) (Kd.S_far (p := ⟨g, 0, none⟩) (Kd.S_types h hb ht) (fun _ hk => hk.2) v0) (fun _ hk => hk.2) v1) (fun _ hk => hk.2) v2) (fun _ hk => hk.2) v3) (fun _ hk => hk.2) v4) (fun _ hk => hk.2) v5) (fun _ hk => hk.2) v6) (fun _ hk => hk.2) v7) (fun _ hk => hk.2) v8) (fun _ hk => hk.2) v9) (fun _ hk => hk.2) v10) (fun _ h_ => h_.1)
end Go.Proofs.Ytdekenijnbhpfaa.KW
namespace Go.Proofs.Ytdekenijnbhpfaa.M
open Go.RowKit Go.Proofs.Ytdekenijnbhpfaa.KW Go.Proofs.YtdekenijnbhpfaaW.PrintWords Go.Proofs.YtdekenijnbhpfaaW.PrintLast Go.Proofs.YtdekenijnbhpfaaW.PrintMore
attribute [local go_sem] max2_int min2_int max_two min_two max_three min_three max_four min_four
set_option linter.unusedVariables false
set_option linter.unusedSimpArgs false
def laws_toIntS.l0 : Nat → List Int → List Int → Int → Option (List Int)
 | 0, _, _, _ => none
 | k + 1, x0, x3, x4 => if x4 < (x0.length : Int) then (if 0 ≤ x4 then (if x4 < (x3.length : Int) then (laws_toIntS.l0 k x0 (x3.set (x4 : Int).toNat (rd x0 x4)) (wrap64 (x4 + 1))) else (none)) else (none)) else (some x3)
def laws_toIntS.f (k : Nat) (l0 : List Int) : Option (List Int) := if 0 ≤ (l0.length : Int) then (if ((l0.length : Int) : Int).toNat ≤ 35184372088832 then (laws_toIntS.l0 k l0 (List.replicate ((l0.length : Int) : Int).toNat 0) 0) else (none)) else (none)
set_option maxHeartbeats 8000000 in
set_option maxRecDepth 100000 in
theorem laws_toIntS.calls (k : Nat) (A0 : Option Addr) (c0 : Nat) (l0 : List Int) (r : List Int) (w : World) (hr0 : Kd.C (Kd.int .i64) w A0 l0.length l0) (hc0 : l0.length ≤ c0) (h : laws_toIntS.f k l0 = some r) :
  Calls Try.prog 11 #[.slice A0 l0.length c0] w fun e w' => ∃ v0_ : Value, e = .returned (v0_) ∧ Kd.R (Kd.int .i64) 3 w' w.heap.size (fun _ => True) v0_ r ∧ Below w.heap.size w w' := by
 have HR0 := aM hr0; have HC0 := aM hc0; clear hr0 hc0; have HB := aM (Below.refl w.heap.size w); have H : (if 0 ≤ (l0.length : Int) then (if ((l0.length : Int) : Int).toNat ≤ 35184372088832 then (laws_toIntS.l0 k l0 (List.replicate ((l0.length : Int) : Int).toNat 0) 0) else (none)) else (none)) = some r := h; clear h; by_cases c2 : 0 ≤ (l0.length : Int)
 ·rw [if_pos c2] at H; have c2b0 := eq_true c2; have c2b1 : decide (0 ≤ (l0.length : Int)) = true := decide_eq_true c2; clear c2; by_cases c3 : ((l0.length : Int) : Int).toNat ≤ 35184372088832
  ·rw [if_pos c3] at H; have c3b0 := eq_true c3; have c3b1 : decide (((l0.length : Int) : Int).toNat ≤ 35184372088832) = true := decide_eq_true c3; clear c3; obtain ⟨y315, hy315⟩ : ∃ y_ : List Int, y_ = (List.replicate ((l0.length : Int) : Int).toNat 0) := ⟨_, rfl⟩; replace H : (laws_toIntS.l0 k l0 y315 0) = some r := by rw [hy315]; first | exact H | exact (Option.bind_some _ _).symm.trans H
   have Ny315 := aM hy315; clear hy315; have H' := aM H; clear H; go_enter Try.func11, Try.ntmps11; go_wp2_with (first | ((with_reducible refine gate_dst (N := 7) rfl ?_); refine Kd.R_make (Kd.int .i64) _ 3 rfl (N := 7) rfl 31 _ _ rfl (l0.length : Int) rfl rfl Try.underlying31 (.int .i64 0) 8 info3 rfl (by decide) (by omega) 0 (ok := fun _ => True) (okp := fun _ => True) rfl (fun _ hk => hk) trivial (oD) (Nat.le_trans (Nat.mul_le_mul_right _ (oD : (l0.length : Int).toNat ≤ 35184372088832)) (by omega)) (Below.refl _ _) (Nat.le_refl _) ?_; intro v316 w4 ho5 hb hg_ hnew_; clear hg_ hnew_; (first | rw [← Ny315.out] at ho5 | (simp only [Int.reduceToNat] at ho5; rw [← Ny315.out] at ho5)); have HO317 := aM (Kd.R_lower ho5 (bZ HB)); replace HB := bS HB hb; clear hb ho5)); go_loopg [4] k (fun kq v4 w' => ∃ (x3_1 : List Int) (x4_1 : Int), v4 = .int .i64 x4_1 ∧ Aside0 (laws_toIntS.l0 kq l0 x3_1 x4_1 = some r) ∧ Aside0 (kq ≤ k) ∧ Aside0 (Kd.R (Kd.int .i64) 3 w' w.heap.size (fun _ => True) v316 x3_1) ∧ Aside0 (Below w.heap.size w w'))
   case atStart => exact ⟨(y315), (0), (by first | rfl | (simp; done) | (simp [*]; done)), H', ⟨Nat.le_refl _⟩, ⟨by exact rR HO317⟩, ⟨by exact rB HB⟩⟩
   case round =>
    clear H'; (try clear c1); (try clear c2); (try clear c2b0); (try clear c2b1); (try clear p2); (try clear c3); (try clear c3b0); (try clear c3b1)
    obtain ⟨x3_1, x4_1, rfl, HA, HK1, HO_3, HB⟩ := hrel; cases gk with
    | zero => exact absurd HA.out (by simp [laws_toIntS.l0])
    | succ k1 =>
     have H := HA.out; clear HA; simp only [laws_toIntS.l0] at H; by_cases c6 : x4_1 < (l0.length : Int)
     ·rw [if_pos c6] at H; have c6b0 : decide (x4_1 < (l0.length : Int)) = true := decide_eq_true c6; clear c6; by_cases c7 : 0 ≤ x4_1
      ·rw [if_pos c7] at H; have c7b0 : decide (0 ≤ x4_1) = true := decide_eq_true c7; clear c7; by_cases c8 : x4_1 < (x3_1.length : Int)
       ·rw [if_pos c8] at H; have c8b0 : decide (x4_1 < (x3_1.length : Int)) = true := decide_eq_true c8; clear c8; obtain ⟨y319, hy319⟩ : ∃ y_ : List Int, y_ = (x3_1.set (x4_1 : Int).toNat (rd l0 x4_1)) := ⟨_, rfl⟩; replace H : (laws_toIntS.l0 k1 l0 y319 (wrap64 (x4_1 + 1))) = some r := by rw [hy319]; first | exact H | exact (Option.bind_some _ _).symm.trans H
        have Ny319 := aM hy319; clear hy319; have H' := aM H; clear H; have p318 : 0 ≤ (x4_1 : Int) := oD; have q318 : x4_1 < (l0.length : Int) := oD; obtain ⟨ad318, e318, hx318_0⟩ := Kd.at_int HR0.out x4_1 p318 q318; cases e318; (try replace hx318_0 := (HB.out.cell (World.block_lt_of_cell? w _ hx318_0)).trans hx318_0); replace p318 := eq_true p318; replace q318 := eq_true q318; have p9 : 0 ≤ (x4_1 : Int) := oD; have q9 : (x4_1 : Int) < ((x3_1.length : Int) : Int) := oD; obtain ⟨go9, co9, eo9, gb9, gl9, cl9, HG9⟩ := Kd.R_form HO_3.out (by omega)
        (first | cases eo9 | (injection eo9 with ea_ en_ ec_; (first | subst ea_ | (injection ea_ with ea_; subst ea_)); subst ec_; clear en_))
        have GB9 := aM gb9; have GG9 := aM HG9; clear gb9 gl9 HG9; obtain ⟨hx9_0, hf9_0⟩ := Kd.R_celln 0 HO_3.out (x4_1 : Int) p9 q9; replace p9 := eq_true p9; replace q9 := eq_true q9; have HP10 := Kd.R_putg HO_3.out (x4_1 : Int) (rd l0 x4_1); go_wp2_with (first | ((with_reducible refine gate_store (t := 3) (p := 20) rfl ?_); refine store_event (t := 3) (p := 20) (v := ?vo_w11) (w1 := (wr.setCell ⟨go9, (x4_1 : Int).toNat, none⟩ (.int .i64 (rd l0 x4_1)))) ?hg ?ho ?hn ?hr ?_; (case ho => rfl); (case hg => rfl); (case hn => rfl); (case hr => go_simp <;> rfl); intro w11 hw; have hg : wr.grownBy w11 (some go9) := (by rw [hw]; exact HP10.2); have hp_ : Kd.R (Kd.int .i64) 3 w11 w.heap.size (fun _ => True) (.slice (some ⟨go9, 0, none⟩) x3_1.length co9) y319 := (by rw [hw, Ny319.out]; exact HP10.1); clear HP10; replace HO_3 := aM (hp_); replace HB := aM ((by rw [hw]; exact below_set (HB.out) GB9.out : Below w.heap.size w w11)); clear hg hw hp_)); go_roundg k1
        case measure => have := HK1.out; omega
        case rel => exact ⟨(y319), (wrap64 (x4_1 + 1)), (by first | rfl | (simp; done) | (simp [*]; done)), H', ⟨by have := HK1.out; omega⟩, ⟨by exact rR HO_3⟩, ⟨by exact rB HB⟩⟩
       ·rw [if_neg c8] at H; exact absurd H (by simp)
      ·rw [if_neg c7] at H; exact absurd H (by simp)
     ·rw [if_neg c6] at H; have c6b0 : decide (x4_1 < (l0.length : Int)) = false := decide_eq_false c6; clear c6; obtain rfl := Option.some.inj H; go_wp2; go_ret; exact ⟨_, by first | rfl | (simp [errW_none, errW_some] <;> rfl) | (simp [*, errW_none, errW_some] <;> rfl), by exact rR HO_3, by exact rB HB⟩
  ·rw [if_neg c3] at H; exact absurd H (by simp)
 ·rw [if_neg c2] at H; exact absurd H (by simp)
def laws_eqIntS.l0 : Nat → List Int → List Int → Int → Option (Bool)
 | 0, _, _, _ => none
 | k + 1, x0, x1, x5 => if x5 < (x0.length : Int) then (if 0 ≤ x5 then (if x5 < (x1.length : Int) then (if (rd x0 x5) = (rd x1 x5) then (laws_eqIntS.l0 k x0 x1 (wrap64 (x5 + 1))) else (some false)) else (none)) else (none)) else (some true)
def laws_eqIntS.f (k : Nat) (l0 : List Int) (l1 : List Int) : Option (Bool) := if (l0.length : Int) = (l1.length : Int) then (laws_eqIntS.l0 k l0 l1 0) else (some false)
set_option maxHeartbeats 8000000 in
set_option maxRecDepth 100000 in
theorem laws_eqIntS.calls (k : Nat) (A0 : Option Addr) (c0 : Nat) (l0 : List Int) (A1 : Option Addr) (c1 : Nat) (l1 : List Int) (r : Bool) (w : World) (hr0 : Kd.C (Kd.int .i64) w A0 l0.length l0) (hc0 : l0.length ≤ c0) (hr1 : Kd.C (Kd.int .i64) w A1 l1.length l1) (hc1 : l1.length ≤ c1) (h : laws_eqIntS.f k l0 l1 = some r) :
  Calls Try.prog 14 #[.slice A0 l0.length c0, .slice A1 l1.length c1] w fun e w' => e = .returned (.bool r) ∧ Drawn0 w w' := by
 have HR0 := aM hr0; have HC0 := aM hc0; clear hr0 hc0; have HR1 := aM hr1; have HC1 := aM hc1; clear hr1 hc1; have H : (if (l0.length : Int) = (l1.length : Int) then (laws_eqIntS.l0 k l0 l1 0) else (some false)) = some r := h; clear h; by_cases c3 : (l0.length : Int) = (l1.length : Int)
 ·rw [if_pos c3] at H; have c3b0 : ((l0.length : Int) == (l1.length : Int)) = true := beq_iff_eq.mpr c3; have c3b1 : ((l0.length : Int) != (l1.length : Int)) = false := bne_eq_false_iff_eq.mpr c3; have c3b2 : (l0.length == l1.length) = true := by first | simpa using c3 | (simp at c3 ⊢; omega)
  clear c3; have H' := aM H; clear H; go_enter Try.func14, Try.ntmps14; go_wp2
  repeat (go_quiet (fail); try go_wp2)
  go_loopg [5] k (fun kq v5 w' => ∃ (x5_1 : Int), v5 = .int .i64 x5_1 ∧ Aside0 (laws_eqIntS.l0 kq l0 l1 x5_1 = some r) ∧ Aside0 (kq ≤ k) ∧ Drawn0 w w')
  case atStart => exact ⟨(0), (by first | rfl | (simp; done) | (simp [*]; done)), H', ⟨Nat.le_refl _⟩, by repeat (first | exact Drawn0.refl _ | apply Drawn0.step)⟩
  case round =>
   clear H'; (try clear c1); (try clear p2); (try clear c3); (try clear c3b0); (try clear c3b1); (try clear c3b2)
   obtain ⟨x5_1, rfl, HA, HK1, ⟨m1, rfl⟩⟩ := hrel; cases gk with
   | zero => exact absurd HA.out (by simp [laws_eqIntS.l0])
   | succ k1 =>
    have H := HA.out; clear HA; simp only [laws_eqIntS.l0] at H; by_cases c4 : x5_1 < (l0.length : Int)
    ·rw [if_pos c4] at H; have c4b0 : decide (x5_1 < (l0.length : Int)) = true := decide_eq_true c4; clear c4; by_cases c5 : 0 ≤ x5_1
     ·rw [if_pos c5] at H; have c5b0 : decide (0 ≤ x5_1) = true := decide_eq_true c5; clear c5; by_cases c6 : x5_1 < (l1.length : Int)
      ·rw [if_pos c6] at H; have c6b0 : decide (x5_1 < (l1.length : Int)) = true := decide_eq_true c6; clear c6; by_cases c7 : (rd l0 x5_1) = (rd l1 x5_1)
       ·rw [if_pos c7] at H; have c7b0 : ((rd l0 x5_1) == (rd l1 x5_1)) = true := beq_iff_eq.mpr c7; have c7b1 : ((rd l0 x5_1) != (rd l1 x5_1)) = false := bne_eq_false_iff_eq.mpr c7; clear c7; have H' := aM H; clear H; have p515 : 0 ≤ (x5_1 : Int) := oD; have q515 : x5_1 < (l0.length : Int) := oD; obtain ⟨ad515, e515, hx515_0⟩ := Kd.at_int HR0.out x5_1 p515 q515; cases e515; replace p515 := eq_true p515; replace q515 := eq_true q515; have p516 : 0 ≤ (x5_1 : Int) := oD; have q516 : x5_1 < (l1.length : Int) := oD; obtain ⟨ad516, e516, hx516_0⟩ := Kd.at_int HR1.out x5_1 p516 q516; cases e516; replace p516 := eq_true p516; replace q516 := eq_true q516; go_wp2
        repeat (go_quiet (fail); try go_wp2)
        go_roundg k1
        case measure => have := HK1.out; omega
        case rel => exact ⟨(wrap64 (x5_1 + 1)), (by first | rfl | (simp; done) | (simp [*]; done)), H', ⟨by have := HK1.out; omega⟩, by repeat (first | exact Drawn0.refl _ | apply Drawn0.step)⟩
       ·rw [if_neg c7] at H; have c7b0 : ((rd l0 x5_1) == (rd l1 x5_1)) = false := beq_eq_false_iff_ne.mpr c7; have c7b1 : ((rd l0 x5_1) != (rd l1 x5_1)) = true := bne_iff_ne.mpr c7; obtain rfl := Option.some.inj H; have p515 : 0 ≤ (x5_1 : Int) := oD; have q515 : x5_1 < (l0.length : Int) := oD; obtain ⟨ad515, e515, hx515_0⟩ := Kd.at_int HR0.out x5_1 p515 q515; cases e515; replace p515 := eq_true p515; replace q515 := eq_true q515; have p516 : 0 ≤ (x5_1 : Int) := oD; have q516 : x5_1 < (l1.length : Int) := oD; obtain ⟨ad516, e516, hx516_0⟩ := Kd.at_int HR1.out x5_1 p516 q516; cases e516; replace p516 := eq_true p516; replace q516 := eq_true q516; go_wp2
        repeat (go_quiet (fail); try go_wp2)
        go_ret; exact ⟨by first | rfl | (simp; done) | (simp [*]; done), by repeat (first | exact Drawn0.refl _ | apply Drawn0.step)⟩
      ·rw [if_neg c6] at H; exact absurd H (by simp)
     ·rw [if_neg c5] at H; exact absurd H (by simp)
    ·rw [if_neg c4] at H; have c4b0 : decide (x5_1 < (l0.length : Int)) = false := decide_eq_false c4; clear c4; obtain rfl := Option.some.inj H; go_wp2
     repeat (go_quiet (fail); try go_wp2)
     go_ret; exact ⟨by first | rfl | (simp; done) | (simp [*]; done), by repeat (first | exact Drawn0.refl _ | apply Drawn0.step)⟩
 ·rw [if_neg c3] at H; have c3b0 : ((l0.length : Int) == (l1.length : Int)) = false := beq_eq_false_iff_ne.mpr c3; have c3b1 : ((l0.length : Int) != (l1.length : Int)) = true := bne_iff_ne.mpr c3; have c3b2 : (l0.length == l1.length) = false := by first | simpa using c3 | (simp at c3 ⊢; omega)
  obtain rfl := Option.some.inj H; go_enter Try.func14, Try.ntmps14; go_wp2
  repeat (go_quiet (fail); try go_wp2)
  go_ret; exact ⟨by first | rfl | (simp; done) | (simp [*]; done), by repeat (first | exact Drawn0.refl _ | apply Drawn0.step)⟩
def spec_l1In.f (a0 : Int) (a1 : Int) (a2 : Int) : Option (Bool) := if a0 ≥ a1 then (some (decide (a0 ≤ a2))) else (some false)
set_option maxHeartbeats 8000000 in
set_option maxRecDepth 100000 in
theorem spec_l1In.calls (a0 : Int) (a1 : Int) (a2 : Int) (r : Bool) (w : World) (h : spec_l1In.f a0 a1 a2 = some r) :
  Calls Try.prog 36 #[.int .i64 a0, .int .i64 a1, .int .i64 a2] w fun e w' => e = .returned (.bool r) ∧ Drawn0 w w' := by
 have H : (if a0 ≥ a1 then (some (decide (a0 ≤ a2))) else (some false)) = some r := h; clear h; by_cases c4 : a0 ≥ a1
 ·rw [if_pos c4] at H; have c4b0 : decide (a1 ≤ a0) = true := decide_eq_true c4; clear c4; obtain rfl := Option.some.inj H; go_enter Try.func36, Try.ntmps36; go_wp2; go_ret; exact ⟨by first | rfl | (simp; done) | (simp [*]; done), by repeat (first | exact Drawn0.refl _ | apply Drawn0.step)⟩
 ·rw [if_neg c4] at H; have c4b0 : decide (a1 ≤ a0) = false := decide_eq_false c4; clear c4; obtain rfl := Option.some.inj H; go_enter Try.func36, Try.ntmps36; go_wp2; go_ret; exact ⟨by first | rfl | (simp; done) | (simp [*]; done), by repeat (first | exact Drawn0.refl _ | apply Drawn0.step)⟩
def spec_IsWord.l0 : Nat → List Int → Int → Int → Option (Bool)
 | 0, _, _, _ => none
 | k + 1, x0, x1, x5 => if x5 < (x0.length : Int) then (if 0 ≤ x5 then (if (rd x0 x5) < 0 then (some false) else (if (rd x0 x5) ≥ x1 then (some false) else (spec_IsWord.l0 k x0 x1 (wrap64 (x5 + 1))))) else (none)) else ((spec_l1In.f x1 1 16).bind fun t107 => (if t107 = true then (some (decide ((x0.length : Int) ≤ 400))) else (some false)))
def spec_IsWord.f (k : Nat) (l0 : List Int) (a1 : Int) : Option (Bool) := spec_IsWord.l0 k l0 a1 0
set_option maxHeartbeats 8000000 in
set_option maxRecDepth 100000 in
theorem spec_IsWord.calls (k : Nat) (A0 : Option Addr) (c0 : Nat) (l0 : List Int) (a1 : Int) (r : Bool) (w : World) (hr0 : Kd.C (Kd.int .i64) w A0 l0.length l0) (hc0 : l0.length ≤ c0) (h : spec_IsWord.f k l0 a1 = some r) :
  Calls Try.prog 35 #[.slice A0 l0.length c0, .int .i64 a1] w fun e w' => e = .returned (.bool r) ∧ Drawn0 w w' := by
 have HR0 := aM hr0; have HC0 := aM hc0; clear hr0 hc0; have H : (spec_IsWord.l0 k l0 a1 0) = some r := h; clear h; have H' := aM H; clear H; go_enter Try.func35, Try.ntmps35; go_wp2; go_loopg [5] k (fun kq v5 w' => ∃ (x5_1 : Int), v5 = .int .i64 x5_1 ∧ Aside0 (spec_IsWord.l0 kq l0 a1 x5_1 = some r) ∧ Aside0 (kq ≤ k) ∧ Drawn0 w w')
 case atStart => exact ⟨(0), (by first | rfl | (simp; done) | (simp [*]; done)), H', ⟨Nat.le_refl _⟩, by repeat (first | exact Drawn0.refl _ | apply Drawn0.step)⟩
 case round =>
  clear H'
  try clear p2
  obtain ⟨x5_1, rfl, HA, HK1, ⟨m1, rfl⟩⟩ := hrel; cases gk with
  | zero => exact absurd HA.out (by simp [spec_IsWord.l0])
  | succ k1 =>
   have H := HA.out; clear HA; simp only [spec_IsWord.l0] at H; by_cases c3 : x5_1 < (l0.length : Int)
   ·rw [if_pos c3] at H; have c3b0 : decide (x5_1 < (l0.length : Int)) = true := decide_eq_true c3; clear c3; by_cases c4 : 0 ≤ x5_1
    ·rw [if_pos c4] at H; have c4b0 : decide (0 ≤ x5_1) = true := decide_eq_true c4; clear c4; by_cases c5 : (rd l0 x5_1) < 0
     ·rw [if_pos c5] at H; have c5b0 : decide ((rd l0 x5_1) < 0) = true := decide_eq_true c5; clear c5; obtain rfl := Option.some.inj H; have p105 : 0 ≤ (x5_1 : Int) := oD; have q105 : x5_1 < (l0.length : Int) := oD; obtain ⟨ad105, e105, hx105_0⟩ := Kd.at_int HR0.out x5_1 p105 q105; cases e105; replace p105 := eq_true p105; replace q105 := eq_true q105; go_wp2; go_ret; exact ⟨by first | rfl | (simp; done) | (simp [*]; done), by repeat (first | exact Drawn0.refl _ | apply Drawn0.step)⟩
     ·rw [if_neg c5] at H; have c5b0 : decide ((rd l0 x5_1) < 0) = false := decide_eq_false c5; clear c5; by_cases c6 : (rd l0 x5_1) ≥ a1
      ·rw [if_pos c6] at H; have c6b0 : decide (a1 ≤ (rd l0 x5_1)) = true := decide_eq_true c6; clear c6; obtain rfl := Option.some.inj H; have p105 : 0 ≤ (x5_1 : Int) := oD; have q105 : x5_1 < (l0.length : Int) := oD; obtain ⟨ad105, e105, hx105_0⟩ := Kd.at_int HR0.out x5_1 p105 q105; cases e105; replace p105 := eq_true p105; replace q105 := eq_true q105; have p106 : 0 ≤ (x5_1 : Int) := oD; have q106 : x5_1 < (l0.length : Int) := oD; obtain ⟨ad106, e106, hx106_0⟩ := Kd.at_int HR0.out x5_1 p106 q106; obtain rfl : ad105 = ad106 := (by injection e106); replace p106 := eq_true p106; replace q106 := eq_true q106; go_wp2; go_ret; exact ⟨by first | rfl | (simp; done) | (simp [*]; done), by repeat (first | exact Drawn0.refl _ | apply Drawn0.step)⟩
      ·rw [if_neg c6] at H; have c6b0 : decide (a1 ≤ (rd l0 x5_1)) = false := decide_eq_false c6; clear c6; have H' := aM H; clear H; have p105 : 0 ≤ (x5_1 : Int) := oD; have q105 : x5_1 < (l0.length : Int) := oD; obtain ⟨ad105, e105, hx105_0⟩ := Kd.at_int HR0.out x5_1 p105 q105; cases e105; replace p105 := eq_true p105; replace q105 := eq_true q105; have p106 : 0 ≤ (x5_1 : Int) := oD; have q106 : x5_1 < (l0.length : Int) := oD; obtain ⟨ad106, e106, hx106_0⟩ := Kd.at_int HR0.out x5_1 p106 q106; obtain rfl : ad105 = ad106 := (by injection e106); replace p106 := eq_true p106; replace q106 := eq_true q106; go_wp2; go_roundg k1
       case measure => have := HK1.out; omega
       case rel => exact ⟨(wrap64 (x5_1 + 1)), (by first | rfl | (simp; done) | (simp [*]; done)), H', ⟨by have := HK1.out; omega⟩, by repeat (first | exact Drawn0.refl _ | apply Drawn0.step)⟩
    ·rw [if_neg c4] at H; exact absurd H (by simp)
   ·rw [if_neg c3] at H; have c3b0 : decide (x5_1 < (l0.length : Int)) = false := decide_eq_false c3; clear c3; replace H := bE H; obtain ⟨t107, A70, H⟩ := H; replace H : (if t107 = true then (some (decide ((l0.length : Int) ≤ 400))) else (some false)) = some r := H; have A7 := aM A70; clear A70; by_cases c8 : t107 = true
    ·subst c8; have H1 : (some (decide ((l0.length : Int) ≤ 400))) = some r := by rw [if_pos rfl] at H; exact H
     clear H; have H := H1; clear H1; obtain rfl := Option.some.inj H; go_wp2_with (first | ((with_reducible refine gate_callee (f := 36) rfl ?_); refine goesL_ (some 26) rfl rfl Try.func36 (by kernel_rfl) rfl #[.int .i64 a1, .int .i64 1, .int .i64 16] rfl (by (try simp only [mT, mC, mN]); first | done | rfl) ?_; (with_reducible refine (spec_l1In.calls a1 1 16 true _ A7.out).mono ?_); rintro e w' ⟨rfl, ⟨nd, rfl⟩⟩; refine ⟨_, rfl, ?_⟩)); go_ret; exact ⟨by first | rfl | (simp; done) | (simp [*]; done), by repeat (first | exact Drawn0.refl _ | apply Drawn0.step)⟩
    ·replace c8 := Bool.eq_false_iff.mpr c8; subst c8; have H1 : (some false) = some r := by rw [if_neg (show ¬ (false = true) by decide)] at H; exact H
     clear H; have H := H1; clear H1; obtain rfl := Option.some.inj H; go_wp2_with (first | ((with_reducible refine gate_callee (f := 36) rfl ?_); refine goesL_ (some 26) rfl rfl Try.func36 (by kernel_rfl) rfl #[.int .i64 a1, .int .i64 1, .int .i64 16] rfl (by (try simp only [mT, mC, mN]); first | done | rfl) ?_; (with_reducible refine (spec_l1In.calls a1 1 16 false _ A7.out).mono ?_); rintro e w' ⟨rfl, ⟨nd, rfl⟩⟩; refine ⟨_, rfl, ?_⟩)); go_ret; exact ⟨by first | rfl | (simp; done) | (simp [*]; done), by repeat (first | exact Drawn0.refl _ | apply Drawn0.step)⟩
def spec_l10Match.l0 : Nat → List Int → Int → Int → Int → Option (Int)
 | 0, _, _, _, _ => none
 | k + 1, x0, x1, x2, x7 => if (wrap64 (x1 + x7)) < (x0.length : Int) then (if 0 ≤ (wrap64 (x1 + x7)) then (if 0 ≤ (wrap64 ((wrap64 (x1 + x7)) - x2)) then (if (wrap64 ((wrap64 (x1 + x7)) - x2)) < (x0.length : Int) then (if (rd x0 (wrap64 (x1 + x7))) = (rd x0 (wrap64 ((wrap64 (x1 + x7)) - x2))) then (spec_l10Match.l0 k x0 x1 x2 (wrap64 (x7 + 1))) else (some (mn x7 (wrap64 ((x0.length : Int) - x1))))) else (none)) else (none)) else (none)) else (some (mn x7 (wrap64 ((x0.length : Int) - x1))))
def spec_l10Match.f (k : Nat) (l0 : List Int) (a1 : Int) (a2 : Int) : Option (Int) := spec_l10Match.l0 k l0 a1 a2 a2
set_option maxHeartbeats 8000000 in
set_option maxRecDepth 100000 in
theorem spec_l10Match.calls (k : Nat) (A0 : Option Addr) (c0 : Nat) (l0 : List Int) (a1 : Int) (a2 : Int) (r : Int) (w : World) (hr0 : Kd.C (Kd.int .i64) w A0 l0.length l0) (hc0 : l0.length ≤ c0) (h : spec_l10Match.f k l0 a1 a2 = some r) :
  Calls Try.prog 68 #[.slice A0 l0.length c0, .int .i64 a1, .int .i64 a2] w fun e w' => e = .returned (.int .i64 r) ∧ Below w.heap.size w w' := by
 have HR0 := aM hr0; have HC0 := aM hc0; clear hr0 hc0; have HB := aM (Below.refl w.heap.size w); have H : (spec_l10Match.l0 k l0 a1 a2 a2) = some r := h; clear h; have H' := aM H; clear H; go_enter Try.func68, Try.ntmps68; go_wp2
 repeat (go_quiet (fail); try go_wp2)
 go_loopg [7] k (fun kq v7 w' => ∃ (x7_1 : Int), v7 = .int .i64 x7_1 ∧ Aside0 (spec_l10Match.l0 kq l0 a1 a2 x7_1 = some r) ∧ Aside0 (kq ≤ k) ∧ Aside0 (Below w.heap.size w w'))
 case atStart => exact ⟨(a2), (by first | rfl | (simp; done) | (simp [*]; done)), H', ⟨Nat.le_refl _⟩, ⟨by exact rB HB⟩⟩
 case round =>
  clear H'
  try clear p2
  obtain ⟨x7_1, rfl, HA, HK1, HB⟩ := hrel; cases gk with
  | zero => exact absurd HA.out (by simp [spec_l10Match.l0])
  | succ k1 =>
   have H := HA.out; clear HA; simp only [spec_l10Match.l0] at H; by_cases c4 : (wrap64 (a1 + x7_1)) < (l0.length : Int)
   ·rw [if_pos c4] at H; have c4b0 : decide ((wrap64 (a1 + x7_1)) < (l0.length : Int)) = true := decide_eq_true c4; clear c4; obtain ⟨ji5, hji5⟩ : ∃ j_ : Int, (wrap64 (a1 + x7_1)) = j_ := ⟨_, rfl⟩; replace H : (if 0 ≤ (ji5) then (if 0 ≤ (wrap64 ((ji5) - a2)) then (if (wrap64 ((ji5) - a2)) < (l0.length : Int) then (if (rd l0 (ji5)) = (rd l0 (wrap64 ((ji5) - a2))) then (spec_l10Match.l0 k1 l0 a1 a2 (wrap64 (x7_1 + 1))) else (some (mn x7_1 (wrap64 ((l0.length : Int) - a1))))) else (none)) else (none)) else (none)) = some r := by first | (rw [hji5] at H; exact H) | (simp only [hji5] at H ⊢; exact H)
    (try rw [hji5] at c4b0); have hji5w : (IntKind.i64.wrap (a1 + x7_1)) = ji5 := (i64_w _).trans hji5; by_cases c6 : 0 ≤ (ji5)
    ·rw [if_pos c6] at H; have c6b0 : decide (0 ≤ (ji5)) = true := decide_eq_true c6; clear c6; obtain ⟨ji7, hji7⟩ : ∃ j_ : Int, (wrap64 ((ji5) - a2)) = j_ := ⟨_, rfl⟩; replace H : (if 0 ≤ (ji7) then (if (ji7) < (l0.length : Int) then (if (rd l0 (ji5)) = (rd l0 (ji7)) then (spec_l10Match.l0 k1 l0 a1 a2 (wrap64 (x7_1 + 1))) else (some (mn x7_1 (wrap64 ((l0.length : Int) - a1))))) else (none)) else (none)) = some r := by first | (rw [hji7] at H; exact H) | (simp only [hji7] at H ⊢; exact H)
     have hji7w : (IntKind.i64.wrap ((ji5) - a2)) = ji7 := (i64_w _).trans hji7; by_cases c8 : 0 ≤ (ji7)
     ·rw [if_pos c8] at H; have c8b0 : decide (0 ≤ (ji7)) = true := decide_eq_true c8; clear c8; by_cases c9 : (ji7) < (l0.length : Int)
      ·rw [if_pos c9] at H; have c9b0 : decide ((ji7) < (l0.length : Int)) = true := decide_eq_true c9; clear c9; by_cases c10 : (rd l0 (ji5)) = (rd l0 (ji7))
       ·rw [if_pos c10] at H; have c10b0 : ((rd l0 (ji5)) == (rd l0 (ji7))) = true := beq_iff_eq.mpr c10; have c10b1 : ((rd l0 (ji5)) != (rd l0 (ji7))) = false := bne_eq_false_iff_eq.mpr c10; clear c10; have H' := aM H; clear H; have p199 : 0 ≤ ((ji5) : Int) := oD; have q199 : (ji5) < (l0.length : Int) := oD; obtain ⟨ad199, e199, hx199_0⟩ := Kd.at_int HR0.out (ji5) p199 q199; cases e199; (try replace hx199_0 := (HB.out.cell (World.block_lt_of_cell? w _ hx199_0)).trans hx199_0); replace p199 := eq_true p199; replace q199 := eq_true q199; have p200 : 0 ≤ ((ji7) : Int) := oD; have q200 : (ji7) < (l0.length : Int) := oD; obtain ⟨ad200, e200, hx200_0⟩ := Kd.at_int HR0.out (ji7) p200 q200; obtain rfl : ad199 = ad200 := (by injection e200); (try replace hx200_0 := (HB.out.cell (World.block_lt_of_cell? w _ hx200_0)).trans hx200_0); replace p200 := eq_true p200; replace q200 := eq_true q200; go_wp2
        repeat (go_quiet (fail); try go_wp2)
        go_roundg k1
        case measure => have := HK1.out; omega
        case rel => exact ⟨(wrap64 (x7_1 + 1)), (by first | rfl | (simp; done) | (simp [*]; done)), H', ⟨by have := HK1.out; omega⟩, ⟨by exact rB HB⟩⟩
       ·rw [if_neg c10] at H; have c10b0 : ((rd l0 (ji5)) == (rd l0 (ji7))) = false := beq_eq_false_iff_ne.mpr c10; have c10b1 : ((rd l0 (ji5)) != (rd l0 (ji7))) = true := bne_iff_ne.mpr c10; obtain ⟨ji11, hji11⟩ : ∃ j_ : Int, (mn x7_1 (wrap64 ((l0.length : Int) - a1))) = j_ := ⟨_, rfl⟩; replace H : (some ji11) = some r := by first | (rw [hji11] at H; exact H) | (simp only [hji11] at H ⊢; exact H)
        have hji11_ : (if (wrap64 ((l0.length : Int) - a1)) < x7_1 then (wrap64 ((l0.length : Int) - a1)) else x7_1) = ji11 := hji11; obtain rfl := Option.some.inj H; have p199 : 0 ≤ ((ji5) : Int) := oD; have q199 : (ji5) < (l0.length : Int) := oD; obtain ⟨ad199, e199, hx199_0⟩ := Kd.at_int HR0.out (ji5) p199 q199; cases e199; (try replace hx199_0 := (HB.out.cell (World.block_lt_of_cell? w _ hx199_0)).trans hx199_0); replace p199 := eq_true p199; replace q199 := eq_true q199; have p200 : 0 ≤ ((ji7) : Int) := oD; have q200 : (ji7) < (l0.length : Int) := oD; obtain ⟨ad200, e200, hx200_0⟩ := Kd.at_int HR0.out (ji7) p200 q200; obtain rfl : ad199 = ad200 := (by injection e200); (try replace hx200_0 := (HB.out.cell (World.block_lt_of_cell? w _ hx200_0)).trans hx200_0); replace p200 := eq_true p200; replace q200 := eq_true q200; go_wp2
        repeat (go_quiet (fail); try go_wp2)
        go_ret; exact ⟨by first | rfl | (simp [errW_none, errW_some] <;> rfl) | (simp only [← hji5, ← hji7, ← hji11]; first | rfl | (simp [errW_none, errW_some] <;> rfl)) | (simp [*, errW_none, errW_some] <;> rfl), by exact rB HB⟩
      ·rw [if_neg c9] at H; exact absurd H (by simp)
     ·rw [if_neg c8] at H; exact absurd H (by simp)
    ·rw [if_neg c6] at H; exact absurd H (by simp)
   ·rw [if_neg c4] at H; have c4b0 : decide ((wrap64 (a1 + x7_1)) < (l0.length : Int)) = false := decide_eq_false c4; clear c4; obtain ⟨ji12, hji12⟩ : ∃ j_ : Int, (mn x7_1 (wrap64 ((l0.length : Int) - a1))) = j_ := ⟨_, rfl⟩; replace H : (some ji12) = some r := by first | (rw [hji12] at H; exact H) | (simp only [hji12] at H ⊢; exact H)
    have hji12_ : (if (wrap64 ((l0.length : Int) - a1)) < x7_1 then (wrap64 ((l0.length : Int) - a1)) else x7_1) = ji12 := hji12; obtain rfl := Option.some.inj H; go_wp2
    repeat (go_quiet (fail); try go_wp2)
    go_ret; exact ⟨by first | rfl | (simp [errW_none, errW_some] <;> rfl) | (simp only [← hji12]; first | rfl | (simp [errW_none, errW_some] <;> rfl)) | (simp [*, errW_none, errW_some] <;> rfl), by exact rB HB⟩
mutual
def spec_HasPower.j0 : Nat → List Int → Int → Int → Bool → Option (Bool)
 | 0, _, _, _, _ => none
 | k + 1, x0, x1, x2, x18 => if x18 = true then (some false) else (spec_HasPower.l0 k x0 x1 x2 0)
def spec_HasPower.l0 : Nat → List Int → Int → Int → Int → Option (Bool)
 | 0, _, _, _, _ => none
 | k + 1, x0, x1, x2, x7 => if x7 < (x0.length : Int) then (spec_HasPower.j2 k x0 x1 x2 x7 (decide ((x0.length : Int) ≤ 128))) else (spec_HasPower.j2 k x0 x1 x2 x7 false)
def spec_HasPower.j2 : Nat → List Int → Int → Int → Int → Bool → Option (Bool)
 | 0, _, _, _, _, _ => none
 | k + 1, x0, x1, x2, x7, x27 => if x27 = true then (spec_HasPower.l1 k x0 x1 x2 x7 1) else (some false)
def spec_HasPower.l1 : Nat → List Int → Int → Int → Int → Int → Option (Bool)
 | 0, _, _, _, _, _ => none
 | k + 1, x0, x1, x2, x7, x8 => if (wrap64 (x7 + x8)) < (x0.length : Int) then ((spec_l10Match.f k x0 x7 x8).bind fun t203 => (if (wrap64 (t203 * x2)) ≥ (wrap64 (x8 * x1)) then (some true) else (spec_HasPower.l1 k x0 x1 x2 x7 (wrap64 (x8 + 1))))) else (spec_HasPower.l0 k x0 x1 x2 (wrap64 (x7 + 1)))
end
def spec_HasPower.f (k : Nat) (l0 : List Int) (a1 : Int) (a2 : Int) : Option (Bool) := (spec_l1In.f a1 2 20).bind fun t201 => (if t201 = true then ((spec_l1In.f a2 1 (wrap64 (a1 - 1))).bind fun t202 => (spec_HasPower.j0 k l0 a1 a2 (!t202))) else (spec_HasPower.j0 k l0 a1 a2 true))
set_option maxHeartbeats 8000000 in
set_option maxRecDepth 100000 in
theorem spec_HasPower.calls (k : Nat) (A0 : Option Addr) (c0 : Nat) (l0 : List Int) (a1 : Int) (a2 : Int) (r : Bool) (w : World) (hr0 : Kd.C (Kd.int .i64) w A0 l0.length l0) (hc0 : l0.length ≤ c0) (h : spec_HasPower.f k l0 a1 a2 = some r) :
  Calls Try.prog 37 #[.slice A0 l0.length c0, .int .i64 a1, .int .i64 a2] w fun e w' => e = .returned (.bool r) ∧ Below w.heap.size w w' := by
 have HR0 := aM hr0; have HC0 := aM hc0; clear hr0 hc0; have HB := aM (Below.refl w.heap.size w); have H : ((spec_l1In.f a1 2 20).bind fun t201 => (if t201 = true then ((spec_l1In.f a2 1 (wrap64 (a1 - 1))).bind fun t202 => (spec_HasPower.j0 k l0 a1 a2 (!t202))) else (spec_HasPower.j0 k l0 a1 a2 true))) = some r := h; clear h; have HC4 := aM H; clear H; go_enter Try.func37, Try.ntmps37; go_upto_region 1 with (fail); go_cut [18] (fun v18 wc => ∃ (kq : Nat) (x18_3 : Bool), v18 = .bool x18_3 ∧ Aside0 (spec_HasPower.j0 kq l0 a1 a2 x18_3 = some r) ∧ Aside0 (kq ≤ k) ∧ Aside0 (Below w.heap.size w wc))
 case first =>
  have H := HC4.out; clear HC4; replace H := bE H; obtain ⟨t201, A50, H⟩ := H; replace H : (if t201 = true then ((spec_l1In.f a2 1 (wrap64 (a1 - 1))).bind fun t202 => (spec_HasPower.j0 k l0 a1 a2 (!t202))) else (spec_HasPower.j0 k l0 a1 a2 true)) = some r := H; have A5 := aM A50; clear A50; by_cases c6 : t201 = true
  ·subst c6; have H1 : ((spec_l1In.f a2 1 (wrap64 (a1 - 1))).bind fun t202 => (spec_HasPower.j0 k l0 a1 a2 (!t202))) = some r := by rw [if_pos rfl] at H; exact H
   clear H; have H := H1; clear H1; replace H := bE H; obtain ⟨t202, A70, H⟩ := H; replace H : (spec_HasPower.j0 k l0 a1 a2 (!t202)) = some r := H; have A7 := aM A70; clear A70; have H' := aM H; clear H; go_wp2_with (first | ((with_reducible refine gate_callee (f := 36) rfl ?_); refine goesL_ (some 10) rfl rfl Try.func36 (by kernel_rfl) rfl #[.int .i64 a1, .int .i64 2, .int .i64 20] rfl (by (try simp only [mT, mC, mN]); first | done | rfl) ?_; (with_reducible refine (spec_l1In.calls a1 2 20 true _ A5.out).mono ?_); rintro e w' ⟨rfl, ⟨nd, rfl⟩⟩; refine ⟨_, rfl, ?_⟩) | (go_at_call 36; (with_reducible refine (spec_l1In.calls a2 1 (wrap64 (a1 - 1)) t202 _ A7.out).mono ?_); rintro e w' ⟨rfl, ⟨nd, rfl⟩⟩)); go_meet
   case rel => exact ⟨_, (!t202), (by first | rfl | (simp; done) | (simp [*]; done)), H', ⟨by first | omega | exact Nat.le_refl _⟩, ⟨by exact rB HB⟩⟩
  ·replace c6 := Bool.eq_false_iff.mpr c6; subst c6; have H1 : (spec_HasPower.j0 k l0 a1 a2 true) = some r := by rw [if_neg (show ¬ (false = true) by decide)] at H; exact H
   clear H; have H := H1; clear H1; have H' := aM H; clear H; go_wp2_with (first | ((with_reducible refine gate_callee (f := 36) rfl ?_); refine goesL_ (some 10) rfl rfl Try.func36 (by kernel_rfl) rfl #[.int .i64 a1, .int .i64 2, .int .i64 20] rfl (by (try simp only [mT, mC, mN]); first | done | rfl) ?_; (with_reducible refine (spec_l1In.calls a1 2 20 false _ A5.out).mono ?_); rintro e w' ⟨rfl, ⟨nd, rfl⟩⟩; refine ⟨_, rfl, ?_⟩)); go_meet
   case rel => exact ⟨_, (true), (by first | rfl | (simp; done) | (simp [*]; done)), H', ⟨by first | omega | exact Nat.le_refl _⟩, ⟨by exact rB HB⟩⟩
 case rest =>
  clear HC4; (try clear p2); (try clear c3); (try clear c6); (try clear p6)
  obtain ⟨kq, x18_3, rfl, HA, HJ3, HB⟩ := hcut; cases kq with
  | zero => exact absurd HA.out (by simp [spec_HasPower.j0])
  | succ kj3 =>
   have H := HA.out; clear HA; simp only [spec_HasPower.j0] at H; by_cases c8 : x18_3 = true
   ·subst c8; have H1 : (some false) = some r := by rw [if_pos rfl] at H; exact H
    clear H; have H := H1; clear H1; obtain rfl := Option.some.inj H; go_wp2; go_ret; exact ⟨by first | rfl | (simp [errW_none, errW_some] <;> rfl) | (simp [*, errW_none, errW_some] <;> rfl), by exact rB HB⟩
   ·replace c8 := Bool.eq_false_iff.mpr c8; subst c8; have H1 : (spec_HasPower.l0 kj3 l0 a1 a2 0) = some r := by rw [if_neg (show ¬ (false = true) by decide)] at H; exact H
    clear H; have H := H1; clear H1; have H' := aM H; clear H; go_wp2; go_loopg [7] kj3 (fun kq v7 w' => ∃ (x7_2 : Int), v7 = .int .i64 x7_2 ∧ Aside0 (spec_HasPower.l0 kq l0 a1 a2 x7_2 = some r) ∧ Aside0 (kq ≤ kj3) ∧ Aside0 (Below w.heap.size w w'))
    case atStart => exact ⟨(0), (by first | rfl | (simp; done) | (simp [*]; done)), H', ⟨Nat.le_refl _⟩, ⟨by exact rB HB⟩⟩
    case round =>
     clear H'; (try clear p2); (try clear c3); (try clear c6); (try clear p6); (try clear c8); (try clear p2); (try clear p6)
     obtain ⟨x7_2, rfl, HA, HK2, HB⟩ := hrel; cases gk with
     | zero => exact absurd HA.out (by simp [spec_HasPower.l0])
     | succ k2 =>
      have H := HA.out; clear HA; simp only [spec_HasPower.l0] at H; have HC9 := aM H; clear H; go_upto_region 4 with (fail); go_cut [27] (fun v27 wc => ∃ (kq : Nat) (x27_8 : Bool), v27 = .bool x27_8 ∧ Aside0 (spec_HasPower.j2 kq l0 a1 a2 x7_2 x27_8 = some r) ∧ Aside0 (kq ≤ k2) ∧ Aside0 (Below w.heap.size w wc))
      case first =>
       have H := HC9.out; clear HC9; by_cases c10 : x7_2 < (l0.length : Int)
       ·rw [if_pos c10] at H; have c10b0 : decide (x7_2 < (l0.length : Int)) = true := decide_eq_true c10; clear c10
        (first | rw [c10b0] | (simp only [i64_w, i32_w]; rw [c10b0]) | skip)
        have H' := aM H; clear H; go_wp2; go_meet
        case rel => exact ⟨_, (decide ((l0.length : Int) ≤ 128)), (by first | rfl | (simp; done) | (simp [*]; done)), H', ⟨by have := HJ3.out; have := HK2.out; first | omega | exact Nat.le_refl _⟩, ⟨by exact rB HB⟩⟩
       ·rw [if_neg c10] at H; have c10b0 : decide (x7_2 < (l0.length : Int)) = false := decide_eq_false c10; clear c10
        (first | rw [c10b0] | (simp only [i64_w, i32_w]; rw [c10b0]) | skip)
        have H' := aM H; clear H; go_wp2; go_meet
        case rel => exact ⟨_, (false), (by first | rfl | (simp; done) | (simp [*]; done)), H', ⟨by have := HJ3.out; have := HK2.out; first | omega | exact Nat.le_refl _⟩, ⟨by exact rB HB⟩⟩
      case rest =>
       clear HC9; (try clear c1); (try clear p2); (try clear c3); (try clear c6); (try clear p6); (try clear c8); (try clear c10); (try clear c10b0); (try clear p2); (try clear p6)
       obtain ⟨kq, x27_8, rfl, HA, HJ8, HB⟩ := hcut; cases kq with
       | zero => exact absurd HA.out (by simp [spec_HasPower.j2])
       | succ kj8 =>
        have H := HA.out; clear HA; simp only [spec_HasPower.j2] at H; by_cases c11 : x27_8 = true
        ·subst c11; have H1 : (spec_HasPower.l1 kj8 l0 a1 a2 x7_2 1) = some r := by rw [if_pos rfl] at H; exact H
         clear H; have H := H1; clear H1; have H' := aM H; clear H; go_wp2; go_loopg [8] kj8 (fun kq v8 w' => ∃ (x8_4 : Int), v8 = .int .i64 x8_4 ∧ Aside0 (spec_HasPower.l1 kq l0 a1 a2 x7_2 x8_4 = some r) ∧ Aside0 (kq ≤ kj8) ∧ Aside0 (Below w.heap.size w w'))
         case atStart => exact ⟨(1), (by first | rfl | (simp; done) | (simp [*]; done)), H', ⟨Nat.le_refl _⟩, ⟨by exact rB HB⟩⟩
         case round =>
          clear H'; (try clear c1); (try clear p2); (try clear c3); (try clear c6); (try clear p6); (try clear c8); (try clear c10); (try clear c10b0); (try clear c11); (try clear p2); (try clear p6)
          obtain ⟨x8_4, rfl, HA, HK4, HB⟩ := hrel; cases gk with
          | zero => exact absurd HA.out (by simp [spec_HasPower.l1])
          | succ k4 =>
           have H := HA.out; clear HA; simp only [spec_HasPower.l1] at H; by_cases c12 : (wrap64 (x7_2 + x8_4)) < (l0.length : Int)
           ·rw [if_pos c12] at H; have c12b0 : decide ((wrap64 (x7_2 + x8_4)) < (l0.length : Int)) = true := decide_eq_true c12; clear c12; replace H := bE H; obtain ⟨t203, A130, H⟩ := H; replace H : (if (wrap64 (t203 * a2)) ≥ (wrap64 (x8_4 * a1)) then (some true) else (spec_HasPower.l1 k4 l0 a1 a2 x7_2 (wrap64 (x8_4 + 1)))) = some r := H; have A13 := aM A130; clear A130; by_cases c14 : (wrap64 (t203 * a2)) ≥ (wrap64 (x8_4 * a1))
            ·rw [if_pos c14] at H; have c14b0 : decide ((wrap64 (x8_4 * a1)) ≤ (wrap64 (t203 * a2))) = true := decide_eq_true c14; clear c14; obtain rfl := Option.some.inj H; go_wp2_with (first | ((with_reducible refine gate_callee (f := 68) rfl ?_); refine goesL_ (some 41) rfl rfl Try.func68 (by kernel_rfl) rfl #[.slice A0 l0.length c0, .int .i64 x7_2, .int .i64 x8_4] rfl (by (try simp only [mT, mC, mN]); first | done | rfl) ?_; (with_reducible refine (spec_l10Match.calls k4 _ _ l0 x7_2 x8_4 t203 _ ?side1 ?side2 A13.out).mono ?_); (case side1 => exact xC ((Kd.C_below HR0.out HB.out))); (case side2 => exact HC0.out); rintro e w15 ⟨rfl, hb⟩; refine ⟨_, rfl, ?_⟩; replace HB := bS HB hb; clear hb)); go_ret; exact ⟨by first | rfl | (simp [errW_none, errW_some] <;> rfl) | (simp [*, errW_none, errW_some] <;> rfl), by exact rB HB⟩
            ·rw [if_neg c14] at H; have c14b0 : decide ((wrap64 (x8_4 * a1)) ≤ (wrap64 (t203 * a2))) = false := decide_eq_false c14; clear c14; have H' := aM H; clear H; go_wp2_with (first | ((with_reducible refine gate_callee (f := 68) rfl ?_); refine goesL_ (some 41) rfl rfl Try.func68 (by kernel_rfl) rfl #[.slice A0 l0.length c0, .int .i64 x7_2, .int .i64 x8_4] rfl (by (try simp only [mT, mC, mN]); first | done | rfl) ?_; (with_reducible refine (spec_l10Match.calls k4 _ _ l0 x7_2 x8_4 t203 _ ?side1 ?side2 A13.out).mono ?_); (case side1 => exact xC ((Kd.C_below HR0.out HB.out))); (case side2 => exact HC0.out); rintro e w16 ⟨rfl, hb⟩; refine ⟨_, rfl, ?_⟩; replace HB := bS HB hb; clear hb)); go_roundg k4
             case measure => have := HJ3.out; have := HK2.out; have := HJ8.out; have := HK4.out; omega
             case rel => exact ⟨(wrap64 (x8_4 + 1)), (by first | rfl | (simp; done) | (simp [*]; done)), H', ⟨by have := HJ3.out; have := HK2.out; have := HJ8.out; have := HK4.out; omega⟩, ⟨by exact rB HB⟩⟩
           ·rw [if_neg c12] at H; have c12b0 : decide ((wrap64 (x7_2 + x8_4)) < (l0.length : Int)) = false := decide_eq_false c12; clear c12; have H' := aM H; clear H; go_wp2; go_roundg k4
            case measure => have := HJ3.out; have := HK2.out; have := HJ8.out; have := HK4.out; omega
            case rel => exact ⟨(wrap64 (x7_2 + 1)), (by first | rfl | (simp; done) | (simp [*]; done)), H', ⟨by have := HJ3.out; have := HK2.out; have := HJ8.out; have := HK4.out; omega⟩, ⟨by exact rB HB⟩⟩
        ·replace c11 := Bool.eq_false_iff.mpr c11; subst c11; have H1 : (some false) = some r := by rw [if_neg (show ¬ (false = true) by decide)] at H; exact H
         clear H; have H := H1; clear H1; obtain rfl := Option.some.inj H; go_wp2; go_ret; exact ⟨by first | rfl | (simp [errW_none, errW_some] <;> rfl) | (simp [*, errW_none, errW_some] <;> rfl), by exact rB HB⟩
mutual
def spec_CompareWords.l0 : Nat → List Int → List Int → Int → Option (Int)
 | 0, _, _, _ => none
 | k + 1, x0, x1, x5 => if x5 < (x0.length : Int) then (spec_CompareWords.j1 k x0 x1 x5 (decide (x5 < (x1.length : Int)))) else (spec_CompareWords.j1 k x0 x1 x5 false)
def spec_CompareWords.j1 : Nat → List Int → List Int → Int → Bool → Option (Int)
 | 0, _, _, _, _ => none
 | k + 1, x0, x1, x5, x15 => if x15 = true then (if 0 ≤ x5 then (if x5 < (x0.length : Int) then (if x5 < (x1.length : Int) then (if (rd x0 x5) < (rd x1 x5) then (some (-1)) else (if (rd x0 x5) > (rd x1 x5) then (some 1) else (spec_CompareWords.l0 k x0 x1 (wrap64 (x5 + 1))))) else (none)) else (none)) else (none)) else (if (x0.length : Int) < (x1.length : Int) then (some (-1)) else (if (x0.length : Int) > (x1.length : Int) then (some 1) else (some 0)))
end
def spec_CompareWords.f (k : Nat) (l0 : List Int) (l1 : List Int) : Option (Int) := spec_CompareWords.l0 k l0 l1 0
set_option maxHeartbeats 8000000 in
set_option maxRecDepth 100000 in
theorem spec_CompareWords.calls (k : Nat) (A0 : Option Addr) (c0 : Nat) (l0 : List Int) (A1 : Option Addr) (c1 : Nat) (l1 : List Int) (r : Int) (w : World) (hr0 : Kd.C (Kd.int .i64) w A0 l0.length l0) (hc0 : l0.length ≤ c0) (hr1 : Kd.C (Kd.int .i64) w A1 l1.length l1) (hc1 : l1.length ≤ c1) (h : spec_CompareWords.f k l0 l1 = some r) :
  Calls Try.prog 106 #[.slice A0 l0.length c0, .slice A1 l1.length c1] w fun e w' => e = .returned (.int .i64 r) ∧ Drawn0 w w' := by
 have HR0 := aM hr0; have HC0 := aM hc0; clear hr0 hc0; have HR1 := aM hr1; have HC1 := aM hc1; clear hr1 hc1; have H : (spec_CompareWords.l0 k l0 l1 0) = some r := h; clear h; have H' := aM H; clear H; go_enter Try.func106, Try.ntmps106; go_wp2
 repeat (go_quiet (fail); try go_wp2)
 go_loopg [5] k (fun kq v5 w' => ∃ (x5_1 : Int), v5 = .int .i64 x5_1 ∧ Aside0 (spec_CompareWords.l0 kq l0 l1 x5_1 = some r) ∧ Aside0 (kq ≤ k) ∧ Drawn0 w w')
 case atStart => exact ⟨(0), (by first | rfl | (simp; done) | (simp [*]; done)), H', ⟨Nat.le_refl _⟩, by repeat (first | exact Drawn0.refl _ | apply Drawn0.step)⟩
 case round =>
  clear H'
  try clear c1
  try clear p2
  obtain ⟨x5_1, rfl, HA, HK1, ⟨m1, rfl⟩⟩ := hrel; cases gk with
  | zero => exact absurd HA.out (by simp [spec_CompareWords.l0])
  | succ k1 =>
   have H := HA.out; clear HA; simp only [spec_CompareWords.l0] at H; have HC3 := aM H; clear H; go_upto_region 2 with (fail)
   repeat (go_quiet (fail); go_upto_region 2 with (fail))
   go_cut [15] (fun v15 wc => ∃ (kq : Nat) (x15_2 : Bool), v15 = .bool x15_2 ∧ Aside0 (spec_CompareWords.j1 kq l0 l1 x5_1 x15_2 = some r) ∧ Aside0 (kq ≤ k1) ∧ Drawn0 w wc)
   case first =>
    have H := HC3.out; clear HC3; by_cases c4 : x5_1 < (l0.length : Int)
    ·rw [if_pos c4] at H; have c4b0 : decide (x5_1 < (l0.length : Int)) = true := decide_eq_true c4; clear c4
     (first | rw [c4b0] | (simp only [i64_w, i32_w]; rw [c4b0]) | skip)
     have H' := aM H; clear H; go_wp2
     repeat (go_quiet (fail); try go_wp2)
     go_meet
     case rel => exact ⟨_, (decide (x5_1 < (l1.length : Int))), (by first | rfl | (simp; done) | (simp [*]; done)), H', ⟨by have := HK1.out; first | omega | exact Nat.le_refl _⟩, by repeat (first | exact Drawn0.refl _ | apply Drawn0.step)⟩
    ·rw [if_neg c4] at H; have c4b0 : decide (x5_1 < (l0.length : Int)) = false := decide_eq_false c4; clear c4
     (first | rw [c4b0] | (simp only [i64_w, i32_w]; rw [c4b0]) | skip)
     have H' := aM H; clear H; go_wp2
     repeat (go_quiet (fail); try go_wp2)
     go_meet
     case rel => exact ⟨_, (false), (by first | rfl | (simp; done) | (simp [*]; done)), H', ⟨by have := HK1.out; first | omega | exact Nat.le_refl _⟩, by repeat (first | exact Drawn0.refl _ | apply Drawn0.step)⟩
   case rest =>
    clear HC3; (try clear c1); (try clear p2); (try clear c4); (try clear c4b0); (try clear p2)
    obtain ⟨kq, x15_2, rfl, HA, HJ2, ⟨mc2, rfl⟩⟩ := hcut; cases kq with
    | zero => exact absurd HA.out (by simp [spec_CompareWords.j1])
    | succ kj2 =>
     have H := HA.out; clear HA; simp only [spec_CompareWords.j1] at H; by_cases c5 : x15_2 = true
     ·subst c5; have H1 : (if 0 ≤ x5_1 then (if x5_1 < (l0.length : Int) then (if x5_1 < (l1.length : Int) then (if (rd l0 x5_1) < (rd l1 x5_1) then (some (-1)) else (if (rd l0 x5_1) > (rd l1 x5_1) then (some 1) else (spec_CompareWords.l0 kj2 l0 l1 (wrap64 (x5_1 + 1))))) else (none)) else (none)) else (none)) = some r := by rw [if_pos rfl] at H; exact H
      clear H; have H := H1; clear H1; by_cases c6 : 0 ≤ x5_1
      ·rw [if_pos c6] at H; have c6b0 : decide (0 ≤ x5_1) = true := decide_eq_true c6; clear c6; by_cases c7 : x5_1 < (l0.length : Int)
       ·rw [if_pos c7] at H; have c7b0 : decide (x5_1 < (l0.length : Int)) = true := decide_eq_true c7; clear c7; by_cases c8 : x5_1 < (l1.length : Int)
        ·rw [if_pos c8] at H; have c8b0 : decide (x5_1 < (l1.length : Int)) = true := decide_eq_true c8; clear c8; by_cases c9 : (rd l0 x5_1) < (rd l1 x5_1)
         ·rw [if_pos c9] at H; have c9b0 : decide ((rd l0 x5_1) < (rd l1 x5_1)) = true := decide_eq_true c9; clear c9; obtain rfl := Option.some.inj H; have p538 : 0 ≤ (x5_1 : Int) := oD; have q538 : x5_1 < (l0.length : Int) := oD; obtain ⟨ad538, e538, hx538_0⟩ := Kd.at_int HR0.out x5_1 p538 q538; cases e538; replace p538 := eq_true p538; replace q538 := eq_true q538; have p539 : 0 ≤ (x5_1 : Int) := oD; have q539 : x5_1 < (l1.length : Int) := oD; obtain ⟨ad539, e539, hx539_0⟩ := Kd.at_int HR1.out x5_1 p539 q539; cases e539; replace p539 := eq_true p539; replace q539 := eq_true q539; go_wp2
          repeat (go_quiet (fail); try go_wp2)
          go_ret; exact ⟨by first | rfl | (simp; done) | (simp [*]; done), by repeat (first | exact Drawn0.refl _ | apply Drawn0.step)⟩
         ·rw [if_neg c9] at H; have c9b0 : decide ((rd l0 x5_1) < (rd l1 x5_1)) = false := decide_eq_false c9; clear c9; by_cases c10 : (rd l0 x5_1) > (rd l1 x5_1)
          ·rw [if_pos c10] at H; have c10b0 : decide ((rd l1 x5_1) < (rd l0 x5_1)) = true := decide_eq_true c10; clear c10; obtain rfl := Option.some.inj H; have p538 : 0 ≤ (x5_1 : Int) := oD; have q538 : x5_1 < (l0.length : Int) := oD; obtain ⟨ad538, e538, hx538_0⟩ := Kd.at_int HR0.out x5_1 p538 q538; cases e538; replace p538 := eq_true p538; replace q538 := eq_true q538; have p539 : 0 ≤ (x5_1 : Int) := oD; have q539 : x5_1 < (l1.length : Int) := oD; obtain ⟨ad539, e539, hx539_0⟩ := Kd.at_int HR1.out x5_1 p539 q539; cases e539; replace p539 := eq_true p539; replace q539 := eq_true q539; have p540 : 0 ≤ (x5_1 : Int) := oD; have q540 : x5_1 < (l0.length : Int) := oD; obtain ⟨ad540, e540, hx540_0⟩ := Kd.at_int HR0.out x5_1 p540 q540; obtain rfl : ad538 = ad540 := (by injection e540); replace p540 := eq_true p540; replace q540 := eq_true q540; have p541 : 0 ≤ (x5_1 : Int) := oD; have q541 : x5_1 < (l1.length : Int) := oD; obtain ⟨ad541, e541, hx541_0⟩ := Kd.at_int HR1.out x5_1 p541 q541; obtain rfl : ad539 = ad541 := (by injection e541); replace p541 := eq_true p541; replace q541 := eq_true q541; go_wp2
           repeat (go_quiet (fail); try go_wp2)
           go_ret; exact ⟨by first | rfl | (simp; done) | (simp [*]; done), by repeat (first | exact Drawn0.refl _ | apply Drawn0.step)⟩
          ·rw [if_neg c10] at H; have c10b0 : decide ((rd l1 x5_1) < (rd l0 x5_1)) = false := decide_eq_false c10; clear c10; have H' := aM H; clear H; have p538 : 0 ≤ (x5_1 : Int) := oD; have q538 : x5_1 < (l0.length : Int) := oD; obtain ⟨ad538, e538, hx538_0⟩ := Kd.at_int HR0.out x5_1 p538 q538; cases e538; replace p538 := eq_true p538; replace q538 := eq_true q538; have p539 : 0 ≤ (x5_1 : Int) := oD; have q539 : x5_1 < (l1.length : Int) := oD; obtain ⟨ad539, e539, hx539_0⟩ := Kd.at_int HR1.out x5_1 p539 q539; cases e539; replace p539 := eq_true p539; replace q539 := eq_true q539; have p540 : 0 ≤ (x5_1 : Int) := oD; have q540 : x5_1 < (l0.length : Int) := oD; obtain ⟨ad540, e540, hx540_0⟩ := Kd.at_int HR0.out x5_1 p540 q540; obtain rfl : ad538 = ad540 := (by injection e540); replace p540 := eq_true p540; replace q540 := eq_true q540; have p541 : 0 ≤ (x5_1 : Int) := oD; have q541 : x5_1 < (l1.length : Int) := oD; obtain ⟨ad541, e541, hx541_0⟩ := Kd.at_int HR1.out x5_1 p541 q541; obtain rfl : ad539 = ad541 := (by injection e541); replace p541 := eq_true p541; replace q541 := eq_true q541; go_wp2
           repeat (go_quiet (fail); try go_wp2)
           go_roundg kj2
           case measure => have := HK1.out; have := HJ2.out; omega
           case rel => exact ⟨(wrap64 (x5_1 + 1)), (by first | rfl | (simp; done) | (simp [*]; done)), H', ⟨by have := HK1.out; have := HJ2.out; omega⟩, by repeat (first | exact Drawn0.refl _ | apply Drawn0.step)⟩
        ·rw [if_neg c8] at H; exact absurd H (by simp)
       ·rw [if_neg c7] at H; exact absurd H (by simp)
      ·rw [if_neg c6] at H; exact absurd H (by simp)
     ·replace c5 := Bool.eq_false_iff.mpr c5; subst c5; have H1 : (if (l0.length : Int) < (l1.length : Int) then (some (-1)) else (if (l0.length : Int) > (l1.length : Int) then (some 1) else (some 0))) = some r := by rw [if_neg (show ¬ (false = true) by decide)] at H; exact H
      clear H; have H := H1; clear H1; by_cases c11 : (l0.length : Int) < (l1.length : Int)
      ·rw [if_pos c11] at H; have c11b0 : decide ((l0.length : Int) < (l1.length : Int)) = true := decide_eq_true c11; have c11n0 : decide (l0.length < l1.length) = true := decide_eq_true (by have h_ := of_decide_eq_true c11b0; omega); have c11b1 : decide (l0.length < l1.length) = true := decide_eq_true (Int.ofNat_lt.mp c11); clear c11; obtain rfl := Option.some.inj H; go_wp2
       repeat (go_quiet (fail); try go_wp2)
       go_ret; exact ⟨by first | rfl | (simp; done) | (simp [*]; done), by repeat (first | exact Drawn0.refl _ | apply Drawn0.step)⟩
      ·rw [if_neg c11] at H; have c11b0 : decide ((l0.length : Int) < (l1.length : Int)) = false := decide_eq_false c11; have c11n0 : decide (l0.length < l1.length) = false := decide_eq_false (by have h_ := of_decide_eq_false c11b0; omega); have c11b1 : decide (l0.length < l1.length) = false := decide_eq_false (fun h => c11 (Int.ofNat_lt.mpr h)); clear c11; by_cases c12 : (l0.length : Int) > (l1.length : Int)
       ·rw [if_pos c12] at H; have c12b0 : decide ((l1.length : Int) < (l0.length : Int)) = true := decide_eq_true c12; have c12n0 : decide (l1.length < l0.length) = true := decide_eq_true (by have h_ := of_decide_eq_true c12b0; omega); have c12b1 : decide (l1.length < l0.length) = true := decide_eq_true (Int.ofNat_lt.mp c12); clear c12; obtain rfl := Option.some.inj H; go_wp2
        repeat (go_quiet (fail); try go_wp2)
        go_ret; exact ⟨by first | rfl | (simp; done) | (simp [*]; done), by repeat (first | exact Drawn0.refl _ | apply Drawn0.step)⟩
       ·rw [if_neg c12] at H; have c12b0 : decide ((l1.length : Int) < (l0.length : Int)) = false := decide_eq_false c12; have c12n0 : decide (l1.length < l0.length) = false := decide_eq_false (by have h_ := of_decide_eq_false c12b0; omega); have c12b1 : decide (l1.length < l0.length) = false := decide_eq_false (fun h => c12 (Int.ofNat_lt.mpr h)); clear c12; obtain rfl := Option.some.inj H; go_wp2
        repeat (go_quiet (fail); try go_wp2)
        go_ret; exact ⟨by first | rfl | (simp; done) | (simp [*]; done), by repeat (first | exact Drawn0.refl _ | apply Drawn0.step)⟩
def spec_l8Put.l0 : Nat → List (List Int) → List Int → List (List Int) → Bool → Int → Option ((List (List Int)))
 | 0, _, _, _, _, _ => none
 | k + 1, x0, x1, x5, x6, x7 => if x7 < (x0.length : Int) then (if 0 ≤ x7 then ((spec_CompareWords.f k x1 (rd_L1 x0 x7)).bind fun t555 => (if t555 = 0 then (if t555 < 0 then (if x5.length < 5864062014805 then (spec_l8Put.l0 k x0 x1 (x5 ++ [rd_L1 x0 x7]) true (wrap64 (x7 + 1))) else (none)) else (if x5.length < 5864062014805 then (spec_l8Put.l0 k x0 x1 (x5 ++ [rd_L1 x0 x7]) true (wrap64 (x7 + 1))) else (none))) else (if t555 < 0 then (if x6 = true then (if x5.length < 5864062014805 then (spec_l8Put.l0 k x0 x1 (x5 ++ [rd_L1 x0 x7]) x6 (wrap64 (x7 + 1))) else (none)) else ((some (([] : List Int) : List Int)).bind fun y568 => (if y568.length + x1.length < 17592186044416 then (if x5.length < 5864062014805 then ((some (x5 ++ [(y568 ++ x1)] : List (List Int))).bind fun y574 => (if y574.length < 5864062014805 then (spec_l8Put.l0 k x0 x1 (y574 ++ [rd_L1 x0 x7]) true (wrap64 (x7 + 1))) else (none))) else (none)) else (none)))) else (if x5.length < 5864062014805 then (spec_l8Put.l0 k x0 x1 (x5 ++ [rd_L1 x0 x7]) x6 (wrap64 (x7 + 1))) else (none))))) else (none)) else (if x6 = true then (some x5) else ((some (([] : List Int) : List Int)).bind fun y545 => (if y545.length + x1.length < 17592186044416 then (if x5.length < 5864062014805 then (some (x5 ++ [(y545 ++ x1)])) else (none)) else (none))))
def spec_l8Put.f (k : Nat) (l0 : List (List Int)) (l1 : List Int) : Option ((List (List Int))) := spec_l8Put.l0 k l0 l1 (([] : List (List Int))) false 0
set_option maxHeartbeats 8000000 in
set_option maxRecDepth 100000 in
theorem spec_l8Put.calls (k : Nat) (P0_ : Nat → Prop) (A0 : Option Addr) (c0 : Nat) (l0 : List (List Int)) (A1 : Option Addr) (c1 : Nat) (l1 : List Int) (r : List (List Int)) (w : World) (hs0 : Kd.V (Kd.slice 3 (Kd.int .i64)) 31 w w.heap.size (fun k_ => P0_ k_) (.slice A0 l0.length c0) l0) (hr1 : Kd.C (Kd.int .i64) w A1 l1.length l1) (hc1 : l1.length ≤ c1) (h : spec_l8Put.f k l0 l1 = some r) :
  Calls Try.prog 98 #[.slice A0 l0.length c0, .slice A1 l1.length c1] w fun e w' => ∃ v0_ : Value, e = .returned (v0_) ∧ Kd.N (Kd.slice 3 (Kd.int .i64)) 31 w' w.heap.size (fun k_ => (P0_ k_ ∨ w.heap.size ≤ k_)) v0_ r ∧ Below w.heap.size w w' := by
 have HO0 := aM (show Kd.V (Kd.slice 3 (Kd.int .i64)) 31 w w.heap.size (fun k_ => (P0_ k_ ∨ w.heap.size ≤ k_)) (.slice A0 l0.length c0) l0 from Kd.V_mono hs0 (fun k_ hk => .inl hk)); have HR1 := aM hr1; have HC1 := aM hc1; clear hr1 hc1; have HB := aM (Below.refl w.heap.size w); have H : (spec_l8Put.l0 k l0 l1 (([] : List (List Int))) false 0) = some r := h; clear h; obtain ⟨y542, hy542⟩ : ∃ y_ : List (List Int), y_ = (([] : List (List Int))) := ⟨_, rfl⟩; replace H : (spec_l8Put.l0 k l0 l1 y542 false 0) = some r := by rw [hy542]; first | exact H | exact (Option.bind_some _ _).symm.trans H
 have Ny542 := aM hy542; clear hy542; have H' := aM H; clear H; go_enter Try.func98, Try.ntmps98; go_wp2_with (first | ((with_reducible refine gate_dst (N := 9) rfl ?_); refine Kd.N_lit (Kd.slice 3 (Kd.int .i64)) _ 31 ?hg (N' := 9) ?hd (xs := ([] : List (List Int))) (inner := []) (ok := (fun k_ => (P0_ k_ ∨ w.heap.size ≤ k_))) (okp := (fun k_ => (P0_ k_ ∨ w.heap.size ≤ k_))) ?hr ?hp (fun _ hk => hk) ((show ∀ k_, w.heap.size ≤ k_ → (fun k_ => (P0_ k_ ∨ w.heap.size ≤ k_)) k_ from fun k_ hk => (.inr (Nat.le_trans (bZ HB) hk))) _ (Nat.le_refl _)) (Below.refl _ _) (Nat.le_refl _) (by simp) ?_; (case hd | hg => rfl); (case hr => go_simp <;> rfl); (case hp => exact (Reps.none _ _)); intro v543 w3 ho4 hb hg_ hnew_; clear hg_ hnew_; (first | rw [← Ny542.out] at ho4 | (simp only [Int.reduceToNat] at ho4; rw [← Ny542.out] at ho4)); replace HO0 := aM (Kd.V_elder' (by exact rV HO0) (Kd.N_base ho4) hb); have HO544 := aM (Kd.N_lower ho4 (bZ HB)); replace HB := bS HB hb; clear hb ho4)); go_loopg [5, 6, 7] k (fun kq v5 v6 v7 w' => ∃ (x5_1 : List (List Int)) (x6_1 : Bool) (x7_1 : Int), v6 = .bool x6_1 ∧ v7 = .int .i64 x7_1 ∧ Aside0 (spec_l8Put.l0 kq l0 l1 x5_1 x6_1 x7_1 = some r) ∧ Aside0 (kq ≤ k) ∧ Aside0 (Kd.V (Kd.slice 3 (Kd.int .i64)) 31 w' w.heap.size (fun k_ => (P0_ k_ ∨ w.heap.size ≤ k_) ∧ some k_ ≠ (v5 : Value).ownBlock) (.slice A0 l0.length c0) l0) ∧ Aside0 (Kd.N (Kd.slice 3 (Kd.int .i64)) 31 w' w.heap.size (fun k_ => (P0_ k_ ∨ w.heap.size ≤ k_)) v5 x5_1) ∧ Aside0 (Below w.heap.size w w'))
 case atStart => exact ⟨(y542), (false), (0), (by first | rfl | (simp; done) | (simp [*]; done)), (by first | rfl | (simp; done) | (simp [*]; done)), H', ⟨Nat.le_refl _⟩, ⟨by exact rV HO0⟩, ⟨by exact rN HO544⟩, ⟨by exact rB HB⟩⟩
 case round =>
  clear H'
  try clear c1
  try clear p2
  obtain ⟨x5_1, x6_1, x7_1, rfl, rfl, HA, HK1, HO_0, HO_5, HB⟩ := hrel; cases gk with
  | zero => exact absurd HA.out (by simp [spec_l8Put.l0])
  | succ k1 =>
   have H := HA.out; clear HA; simp only [spec_l8Put.l0] at H; by_cases c5 : x7_1 < (l0.length : Int)
   ·rw [if_pos c5] at H; have c5b0 : decide (x7_1 < (l0.length : Int)) = true := decide_eq_true c5; clear c5; by_cases c6 : 0 ≤ x7_1
    ·rw [if_pos c6] at H; have c6b0 : decide (0 ≤ x7_1) = true := decide_eq_true c6; clear c6; replace H := bE H; obtain ⟨t555, A70, H⟩ := H; replace H : (if t555 = 0 then (if t555 < 0 then (if x5_1.length < 5864062014805 then (spec_l8Put.l0 k1 l0 l1 (x5_1 ++ [rd_L1 l0 x7_1]) true (wrap64 (x7_1 + 1))) else (none)) else (if x5_1.length < 5864062014805 then (spec_l8Put.l0 k1 l0 l1 (x5_1 ++ [rd_L1 l0 x7_1]) true (wrap64 (x7_1 + 1))) else (none))) else (if t555 < 0 then (if x6_1 = true then (if x5_1.length < 5864062014805 then (spec_l8Put.l0 k1 l0 l1 (x5_1 ++ [rd_L1 l0 x7_1]) x6_1 (wrap64 (x7_1 + 1))) else (none)) else ((some (([] : List Int) : List Int)).bind fun y568 => (if y568.length + l1.length < 17592186044416 then (if x5_1.length < 5864062014805 then ((some (x5_1 ++ [(y568 ++ l1)] : List (List Int))).bind fun y574 => (if y574.length < 5864062014805 then (spec_l8Put.l0 k1 l0 l1 (y574 ++ [rd_L1 l0 x7_1]) true (wrap64 (x7_1 + 1))) else (none))) else (none)) else (none)))) else (if x5_1.length < 5864062014805 then (spec_l8Put.l0 k1 l0 l1 (x5_1 ++ [rd_L1 l0 x7_1]) x6_1 (wrap64 (x7_1 + 1))) else (none)))) = some r := H; have A7 := aM A70; clear A70; by_cases c8 : t555 = 0
     ·rw [if_pos c8] at H; have c8b0 : (t555 == 0) = true := beq_iff_eq.mpr c8; have c8b1 : (t555 != 0) = false := bne_eq_false_iff_eq.mpr c8; clear c8; by_cases c9 : t555 < 0
      ·rw [if_pos c9] at H; have c9b0 : decide (t555 < 0) = true := decide_eq_true c9; clear c9; by_cases c10 : x5_1.length < 5864062014805
       ·rw [if_pos c10] at H; have LMc10 := aM c10; clear c10; obtain ⟨y557, hy557⟩ : ∃ y_ : List (List Int), y_ = (x5_1 ++ [rd_L1 l0 x7_1]) := ⟨_, rfl⟩; replace H : (spec_l8Put.l0 k1 l0 l1 y557 true (wrap64 (x7_1 + 1))) = some r := by rw [hy557]; first | exact H | exact (Option.bind_some _ _).symm.trans H
        have Ny557 := aM hy557; clear hy557; have H' := aM H; clear H; have p554 : 0 ≤ (x7_1 : Int) := oD; have q554 : x7_1 < (l0.length : Int) := oD; obtain ⟨ad554, A554_0, c554_0, e554, hx554_0, hl554_0, hi554_0⟩ := at_L1 (Kd.V_reads' HO_0.out).2.2 x7_1 p554 q554; cases e554; obtain ⟨ce554, hce554, hMe554, hcc554⟩ := Kd.V_get HO_0.out [] x7_1 p554 (by first | exact q554 | exact oD | (have e_ := (Kd.V_reads' HO_0.out).1; omega)); obtain ⟨ua554_0, uc554_0, rfl, ul554_0, ge554_0⟩ := Kd.FK_slice_open hMe554; have hv554_0 := hcc554 0 _ rfl; rw [Nat.add_zero, show ((Kd.slice 3 (Kd.int .i64))).sz = 1 from rfl, Nat.mul_one] at hv554_0; replace hv554_0 := Option.some.inj (hv554_0.symm.trans hx554_0); injection hv554_0 with hva_ hvn_ hvc_; rw [hva_] at ge554_0; rw [hvc_] at ul554_0; have HL554_0 := aM (show Kd.V (Kd.int .i64) 3 _ w.heap.size _ _ (rd_L1 l0 x7_1) from Kd.V_mk ul554_0 ge554_0); clear hva_ hvn_ hvc_ ge554_0 ul554_0; clear hcc554 hce554; have HR554_0 := aM hi554_0; have HC554_0 := aM hl554_0; clear hi554_0 hl554_0; replace p554 := eq_true p554; replace q554 := eq_true q554; go_wp2_with (first | ((with_reducible refine gate_callee (f := 106) rfl ?_); refine goesL_ (some 21) rfl rfl Try.func106 (by kernel_rfl) rfl #[.slice A1 l1.length c1, .slice A554_0 (rd_L1 l0 x7_1).length c554_0] rfl (by (try simp only [mT, mC, mN]); first | done | rfl) ?_; (with_reducible refine (spec_CompareWords.calls k1 _ _ l1 _ _ (rd_L1 l0 x7_1) t555 _ ?side1 ?side2 ?side3 ?side4 A7.out).mono ?_); (case side1 => exact xC ((Kd.C_below HR1.out HB.out))); (case side2 => exact HC1.out); (case side3 => repeat (first | exact (by repeat (first | (with_reducible exact HR554_0.out) | (with_reducible refine Kd.C_alloc ?_ _) | (with_reducible refine Kd.C_drewN ?_ _) | (with_reducible refine Kd.C_drew ?_) | exact HR554_0.out)) | (with_reducible refine Kd.C_alloc ?_ _) | (with_reducible refine Kd.C_drewN ?_ _) | (with_reducible refine Kd.C_drew ?_))); (case side4 => exact HC554_0.out); rintro e w' ⟨rfl, ⟨nd, rfl⟩⟩; refine ⟨_, rfl, ?_⟩; have p556 : 0 ≤ (x7_1 : Int) := oD; have q556 : x7_1 < (l0.length : Int) := oD; obtain ⟨ad556, A556_0, c556_0, e556, hx556_0, hl556_0, hi556_0⟩ := at_L1 (Kd.V_reads' HO_0.out).2.2 x7_1 p556 q556; obtain rfl : ad554 = ad556 := (by injection e556); obtain ⟨ce556, hce556, hMe556, hcc556⟩ := Kd.V_get HO_0.out [] x7_1 p556 (by first | exact q556 | exact oD | (have e_ := (Kd.V_reads' HO_0.out).1; omega)); obtain ⟨ua556_0, uc556_0, rfl, ul556_0, ge556_0⟩ := Kd.FK_slice_open hMe556; have hv556_0 := hcc556 0 _ rfl; rw [Nat.add_zero, show ((Kd.slice 3 (Kd.int .i64))).sz = 1 from rfl, Nat.mul_one] at hv556_0; replace hv556_0 := Option.some.inj (hv556_0.symm.trans hx556_0); injection hv556_0 with hva_ hvn_ hvc_; rw [hva_] at ge556_0; rw [hvc_] at ul556_0; have HL556_0 := aM (show Kd.V (Kd.int .i64) 3 _ w.heap.size _ _ (rd_L1 l0 x7_1) from Kd.V_mk ul556_0 ge556_0); have HP556_0 := aM (Kd.V_drewN HL556_0.out nd); clear hva_ hvn_ hvc_ ge556_0 ul556_0; clear hcc556 hce556; have HR556_0 := aM hi556_0; have HC556_0 := aM hl556_0; clear hi556_0 hl556_0; replace p556 := eq_true p556; replace q556 := eq_true q556; have ea_ := Option.some.inj (hx554_0.symm.trans hx556_0); injection ea_ with ea_ en_ ec_; subst ea_; subst ec_; clear en_) | ((with_reducible refine gate_builtin (b := .append) (xs := #[.tmp 36, .tmp 41]) rfl ?_); at_builtin; refine Kd.N_append (Kd.slice 3 (Kd.int .i64)) (w0 := w) w.heap.size rfl (.tmp 36) (.tmp 41) 22 31 (.slice none 0 0) 24 rfl Try.underlying22 info31 rfl (by decide) (by omega) u5 x5_1 (rd_L1 l0 x7_1) [.slice A554_0 (rd_L1 l0 x7_1).length c554_0] (fun k_ => (P0_ k_ ∨ w.heap.size ≤ k_)) (fun k_ => ((fun k_ => (P0_ k_ ∨ w.heap.size ≤ k_))) k_ ∧ some k_ ≠ (u5 : Value).ownBlock) rfl rfl ?aP (fun _ hk => hk) ?aF ?aO ?aB ?aS ?aL ?_; (case aP => exact (Kd.FK_slice_mk (Kd.V_reads' (Kd.V_mono (ok' := (fun k_ => ((fun k_ => (P0_ k_ ∨ w.heap.size ≤ k_))) k_ ∧ some k_ ≠ (u5 : Value).ownBlock)) (HP556_0.out) (fun k_ hk => ⟨hk.1, hk.2⟩))).2.1 (Kd.V_F (Kd.V_mono (ok' := (fun k_ => ((fun k_ => (P0_ k_ ∨ w.heap.size ≤ k_))) k_ ∧ some k_ ≠ (u5 : Value).ownBlock)) (HP556_0.out) (fun k_ hk => ⟨hk.1, hk.2⟩))))); (case aB => exact (by exact rB HB)); (case aF => exact (fun k_ hk => (.inr (Nat.le_trans (bZ HB) hk)))); (case aO => exact (by exact rN HO_5)); (case aS => exact (bZ HB)); (case aL => have := LMc10.out; omega); intro v558 w11 ho hb hg hat; rw [← Ny557.out] at ho; replace HO_0 := aM (Kd.V_afterv (ok := (fun k_ => (P0_ k_ ∨ w.heap.size ≤ k_))) (by exact rV HO_0) hg hat); replace HL554_0 := aM (Kd.V_afterv (ok := (fun k_ => (P0_ k_ ∨ w.heap.size ≤ k_))) (by exact rV HL554_0) hg hat); replace HL556_0 := aM (Kd.V_afterv (ok := (fun k_ => (P0_ k_ ∨ w.heap.size ≤ k_))) (by exact rV HL556_0) hg hat); replace HB := aM (hb); have HO559 := aM (ho); clear HO_5; clear ho hb hg hat)); go_roundg k1
        case measure => have := HK1.out; omega
        case rel => exact ⟨(y557), (true), (wrap64 (x7_1 + 1)), (by first | rfl | (simp; done) | (simp [*]; done)), (by first | rfl | (simp; done) | (simp [*]; done)), H', ⟨by have := HK1.out; omega⟩, ⟨by exact rV HO_0⟩, ⟨by exact rN HO559⟩, ⟨by exact rB HB⟩⟩
       ·rw [if_neg c10] at H; exact absurd H (by simp)
      ·rw [if_neg c9] at H; have c9b0 : decide (t555 < 0) = false := decide_eq_false c9; clear c9; by_cases c12 : x5_1.length < 5864062014805
       ·rw [if_pos c12] at H; have LMc12 := aM c12; clear c12; obtain ⟨y561, hy561⟩ : ∃ y_ : List (List Int), y_ = (x5_1 ++ [rd_L1 l0 x7_1]) := ⟨_, rfl⟩; replace H : (spec_l8Put.l0 k1 l0 l1 y561 true (wrap64 (x7_1 + 1))) = some r := by rw [hy561]; first | exact H | exact (Option.bind_some _ _).symm.trans H
        have Ny561 := aM hy561; clear hy561; have H' := aM H; clear H; have p554 : 0 ≤ (x7_1 : Int) := oD; have q554 : x7_1 < (l0.length : Int) := oD; obtain ⟨ad554, A554_0, c554_0, e554, hx554_0, hl554_0, hi554_0⟩ := at_L1 (Kd.V_reads' HO_0.out).2.2 x7_1 p554 q554; cases e554; obtain ⟨ce554, hce554, hMe554, hcc554⟩ := Kd.V_get HO_0.out [] x7_1 p554 (by first | exact q554 | exact oD | (have e_ := (Kd.V_reads' HO_0.out).1; omega)); obtain ⟨ua554_0, uc554_0, rfl, ul554_0, ge554_0⟩ := Kd.FK_slice_open hMe554; have hv554_0 := hcc554 0 _ rfl; rw [Nat.add_zero, show ((Kd.slice 3 (Kd.int .i64))).sz = 1 from rfl, Nat.mul_one] at hv554_0; replace hv554_0 := Option.some.inj (hv554_0.symm.trans hx554_0); injection hv554_0 with hva_ hvn_ hvc_; rw [hva_] at ge554_0; rw [hvc_] at ul554_0; have HL554_0 := aM (show Kd.V (Kd.int .i64) 3 _ w.heap.size _ _ (rd_L1 l0 x7_1) from Kd.V_mk ul554_0 ge554_0); clear hva_ hvn_ hvc_ ge554_0 ul554_0; clear hcc554 hce554; have HR554_0 := aM hi554_0; have HC554_0 := aM hl554_0; clear hi554_0 hl554_0; replace p554 := eq_true p554; replace q554 := eq_true q554; go_wp2_with (first | ((with_reducible refine gate_callee (f := 106) rfl ?_); refine goesL_ (some 21) rfl rfl Try.func106 (by kernel_rfl) rfl #[.slice A1 l1.length c1, .slice A554_0 (rd_L1 l0 x7_1).length c554_0] rfl (by (try simp only [mT, mC, mN]); first | done | rfl) ?_; (with_reducible refine (spec_CompareWords.calls k1 _ _ l1 _ _ (rd_L1 l0 x7_1) t555 _ ?side1 ?side2 ?side3 ?side4 A7.out).mono ?_); (case side1 => exact xC ((Kd.C_below HR1.out HB.out))); (case side2 => exact HC1.out); (case side3 => repeat (first | exact (by repeat (first | (with_reducible exact HR554_0.out) | (with_reducible refine Kd.C_alloc ?_ _) | (with_reducible refine Kd.C_drewN ?_ _) | (with_reducible refine Kd.C_drew ?_) | exact HR554_0.out)) | (with_reducible refine Kd.C_alloc ?_ _) | (with_reducible refine Kd.C_drewN ?_ _) | (with_reducible refine Kd.C_drew ?_))); (case side4 => exact HC554_0.out); rintro e w' ⟨rfl, ⟨nd, rfl⟩⟩; refine ⟨_, rfl, ?_⟩; have p560 : 0 ≤ (x7_1 : Int) := oD; have q560 : x7_1 < (l0.length : Int) := oD; obtain ⟨ad560, A560_0, c560_0, e560, hx560_0, hl560_0, hi560_0⟩ := at_L1 (Kd.V_reads' HO_0.out).2.2 x7_1 p560 q560; obtain rfl : ad554 = ad560 := (by injection e560); obtain ⟨ce560, hce560, hMe560, hcc560⟩ := Kd.V_get HO_0.out [] x7_1 p560 (by first | exact q560 | exact oD | (have e_ := (Kd.V_reads' HO_0.out).1; omega)); obtain ⟨ua560_0, uc560_0, rfl, ul560_0, ge560_0⟩ := Kd.FK_slice_open hMe560; have hv560_0 := hcc560 0 _ rfl; rw [Nat.add_zero, show ((Kd.slice 3 (Kd.int .i64))).sz = 1 from rfl, Nat.mul_one] at hv560_0; replace hv560_0 := Option.some.inj (hv560_0.symm.trans hx560_0); injection hv560_0 with hva_ hvn_ hvc_; rw [hva_] at ge560_0; rw [hvc_] at ul560_0; have HL560_0 := aM (show Kd.V (Kd.int .i64) 3 _ w.heap.size _ _ (rd_L1 l0 x7_1) from Kd.V_mk ul560_0 ge560_0); have HP560_0 := aM (Kd.V_drewN HL560_0.out nd); clear hva_ hvn_ hvc_ ge560_0 ul560_0; clear hcc560 hce560; have HR560_0 := aM hi560_0; have HC560_0 := aM hl560_0; clear hi560_0 hl560_0; replace p560 := eq_true p560; replace q560 := eq_true q560; have ea_ := Option.some.inj (hx554_0.symm.trans hx560_0); injection ea_ with ea_ en_ ec_; subst ea_; subst ec_; clear en_) | ((with_reducible refine gate_builtin (b := .append) (xs := #[.tmp 36, .tmp 41]) rfl ?_); at_builtin; refine Kd.N_append (Kd.slice 3 (Kd.int .i64)) (w0 := w) w.heap.size rfl (.tmp 36) (.tmp 41) 22 31 (.slice none 0 0) 24 rfl Try.underlying22 info31 rfl (by decide) (by omega) u5 x5_1 (rd_L1 l0 x7_1) [.slice A554_0 (rd_L1 l0 x7_1).length c554_0] (fun k_ => (P0_ k_ ∨ w.heap.size ≤ k_)) (fun k_ => ((fun k_ => (P0_ k_ ∨ w.heap.size ≤ k_))) k_ ∧ some k_ ≠ (u5 : Value).ownBlock) rfl rfl ?aP (fun _ hk => hk) ?aF ?aO ?aB ?aS ?aL ?_; (case aP => exact (Kd.FK_slice_mk (Kd.V_reads' (Kd.V_mono (ok' := (fun k_ => ((fun k_ => (P0_ k_ ∨ w.heap.size ≤ k_))) k_ ∧ some k_ ≠ (u5 : Value).ownBlock)) (HP560_0.out) (fun k_ hk => ⟨hk.1, hk.2⟩))).2.1 (Kd.V_F (Kd.V_mono (ok' := (fun k_ => ((fun k_ => (P0_ k_ ∨ w.heap.size ≤ k_))) k_ ∧ some k_ ≠ (u5 : Value).ownBlock)) (HP560_0.out) (fun k_ hk => ⟨hk.1, hk.2⟩))))); (case aB => exact (by exact rB HB)); (case aF => exact (fun k_ hk => (.inr (Nat.le_trans (bZ HB) hk)))); (case aO => exact (by exact rN HO_5)); (case aS => exact (bZ HB)); (case aL => have := LMc12.out; omega); intro v562 w13 ho hb hg hat; rw [← Ny561.out] at ho; replace HO_0 := aM (Kd.V_afterv (ok := (fun k_ => (P0_ k_ ∨ w.heap.size ≤ k_))) (by exact rV HO_0) hg hat); replace HL554_0 := aM (Kd.V_afterv (ok := (fun k_ => (P0_ k_ ∨ w.heap.size ≤ k_))) (by exact rV HL554_0) hg hat); replace HL560_0 := aM (Kd.V_afterv (ok := (fun k_ => (P0_ k_ ∨ w.heap.size ≤ k_))) (by exact rV HL560_0) hg hat); replace HB := aM (hb); have HO563 := aM (ho); clear HO_5; clear ho hb hg hat)); go_roundg k1
        case measure => have := HK1.out; omega
        case rel => exact ⟨(y561), (true), (wrap64 (x7_1 + 1)), (by first | rfl | (simp; done) | (simp [*]; done)), (by first | rfl | (simp; done) | (simp [*]; done)), H', ⟨by have := HK1.out; omega⟩, ⟨by exact rV HO_0⟩, ⟨by exact rN HO563⟩, ⟨by exact rB HB⟩⟩
       ·rw [if_neg c12] at H; exact absurd H (by simp)
     ·rw [if_neg c8] at H; have c8b0 : (t555 == 0) = false := beq_eq_false_iff_ne.mpr c8; have c8b1 : (t555 != 0) = true := bne_iff_ne.mpr c8; by_cases c14 : t555 < 0
      ·rw [if_pos c14] at H; have c14b0 : decide (t555 < 0) = true := decide_eq_true c14; clear c14; by_cases c15 : x6_1 = true
       ·subst c15; have H1 : (if x5_1.length < 5864062014805 then (spec_l8Put.l0 k1 l0 l1 (x5_1 ++ [rd_L1 l0 x7_1]) true (wrap64 (x7_1 + 1))) else (none)) = some r := by rw [if_pos rfl] at H; exact H
        clear H; have H := H1; clear H1; by_cases c16 : x5_1.length < 5864062014805
        ·rw [if_pos c16] at H; have LMc16 := aM c16; clear c16; obtain ⟨y565, hy565⟩ : ∃ y_ : List (List Int), y_ = (x5_1 ++ [rd_L1 l0 x7_1]) := ⟨_, rfl⟩; replace H : (spec_l8Put.l0 k1 l0 l1 y565 true (wrap64 (x7_1 + 1))) = some r := by rw [hy565]; first | exact H | exact (Option.bind_some _ _).symm.trans H
         have Ny565 := aM hy565; clear hy565; have H' := aM H; clear H; have p554 : 0 ≤ (x7_1 : Int) := oD; have q554 : x7_1 < (l0.length : Int) := oD; obtain ⟨ad554, A554_0, c554_0, e554, hx554_0, hl554_0, hi554_0⟩ := at_L1 (Kd.V_reads' HO_0.out).2.2 x7_1 p554 q554; cases e554; obtain ⟨ce554, hce554, hMe554, hcc554⟩ := Kd.V_get HO_0.out [] x7_1 p554 (by first | exact q554 | exact oD | (have e_ := (Kd.V_reads' HO_0.out).1; omega)); obtain ⟨ua554_0, uc554_0, rfl, ul554_0, ge554_0⟩ := Kd.FK_slice_open hMe554; have hv554_0 := hcc554 0 _ rfl; rw [Nat.add_zero, show ((Kd.slice 3 (Kd.int .i64))).sz = 1 from rfl, Nat.mul_one] at hv554_0; replace hv554_0 := Option.some.inj (hv554_0.symm.trans hx554_0); injection hv554_0 with hva_ hvn_ hvc_; rw [hva_] at ge554_0; rw [hvc_] at ul554_0; have HL554_0 := aM (show Kd.V (Kd.int .i64) 3 _ w.heap.size _ _ (rd_L1 l0 x7_1) from Kd.V_mk ul554_0 ge554_0); clear hva_ hvn_ hvc_ ge554_0 ul554_0; clear hcc554 hce554; have HR554_0 := aM hi554_0; have HC554_0 := aM hl554_0; clear hi554_0 hl554_0; replace p554 := eq_true p554; replace q554 := eq_true q554; go_wp2_with (first | ((with_reducible refine gate_callee (f := 106) rfl ?_); refine goesL_ (some 21) rfl rfl Try.func106 (by kernel_rfl) rfl #[.slice A1 l1.length c1, .slice A554_0 (rd_L1 l0 x7_1).length c554_0] rfl (by (try simp only [mT, mC, mN]); first | done | rfl) ?_; (with_reducible refine (spec_CompareWords.calls k1 _ _ l1 _ _ (rd_L1 l0 x7_1) t555 _ ?side1 ?side2 ?side3 ?side4 A7.out).mono ?_); (case side1 => exact xC ((Kd.C_below HR1.out HB.out))); (case side2 => exact HC1.out); (case side3 => repeat (first | exact (by repeat (first | (with_reducible exact HR554_0.out) | (with_reducible refine Kd.C_alloc ?_ _) | (with_reducible refine Kd.C_drewN ?_ _) | (with_reducible refine Kd.C_drew ?_) | exact HR554_0.out)) | (with_reducible refine Kd.C_alloc ?_ _) | (with_reducible refine Kd.C_drewN ?_ _) | (with_reducible refine Kd.C_drew ?_))); (case side4 => exact HC554_0.out); rintro e w' ⟨rfl, ⟨nd, rfl⟩⟩; refine ⟨_, rfl, ?_⟩; have p564 : 0 ≤ (x7_1 : Int) := oD; have q564 : x7_1 < (l0.length : Int) := oD; obtain ⟨ad564, A564_0, c564_0, e564, hx564_0, hl564_0, hi564_0⟩ := at_L1 (Kd.V_reads' HO_0.out).2.2 x7_1 p564 q564; obtain rfl : ad554 = ad564 := (by injection e564); obtain ⟨ce564, hce564, hMe564, hcc564⟩ := Kd.V_get HO_0.out [] x7_1 p564 (by first | exact q564 | exact oD | (have e_ := (Kd.V_reads' HO_0.out).1; omega)); obtain ⟨ua564_0, uc564_0, rfl, ul564_0, ge564_0⟩ := Kd.FK_slice_open hMe564; have hv564_0 := hcc564 0 _ rfl; rw [Nat.add_zero, show ((Kd.slice 3 (Kd.int .i64))).sz = 1 from rfl, Nat.mul_one] at hv564_0; replace hv564_0 := Option.some.inj (hv564_0.symm.trans hx564_0); injection hv564_0 with hva_ hvn_ hvc_; rw [hva_] at ge564_0; rw [hvc_] at ul564_0; have HL564_0 := aM (show Kd.V (Kd.int .i64) 3 _ w.heap.size _ _ (rd_L1 l0 x7_1) from Kd.V_mk ul564_0 ge564_0); have HP564_0 := aM (Kd.V_drewN HL564_0.out nd); clear hva_ hvn_ hvc_ ge564_0 ul564_0; clear hcc564 hce564; have HR564_0 := aM hi564_0; have HC564_0 := aM hl564_0; clear hi564_0 hl564_0; replace p564 := eq_true p564; replace q564 := eq_true q564; have ea_ := Option.some.inj (hx554_0.symm.trans hx564_0); injection ea_ with ea_ en_ ec_; subst ea_; subst ec_; clear en_) | ((with_reducible refine gate_builtin (b := .append) (xs := #[.tmp 36, .tmp 41]) rfl ?_); at_builtin; refine Kd.N_append (Kd.slice 3 (Kd.int .i64)) (w0 := w) w.heap.size rfl (.tmp 36) (.tmp 41) 22 31 (.slice none 0 0) 24 rfl Try.underlying22 info31 rfl (by decide) (by omega) u5 x5_1 (rd_L1 l0 x7_1) [.slice A554_0 (rd_L1 l0 x7_1).length c554_0] (fun k_ => (P0_ k_ ∨ w.heap.size ≤ k_)) (fun k_ => ((fun k_ => (P0_ k_ ∨ w.heap.size ≤ k_))) k_ ∧ some k_ ≠ (u5 : Value).ownBlock) rfl rfl ?aP (fun _ hk => hk) ?aF ?aO ?aB ?aS ?aL ?_; (case aP => exact (Kd.FK_slice_mk (Kd.V_reads' (Kd.V_mono (ok' := (fun k_ => ((fun k_ => (P0_ k_ ∨ w.heap.size ≤ k_))) k_ ∧ some k_ ≠ (u5 : Value).ownBlock)) (HP564_0.out) (fun k_ hk => ⟨hk.1, hk.2⟩))).2.1 (Kd.V_F (Kd.V_mono (ok' := (fun k_ => ((fun k_ => (P0_ k_ ∨ w.heap.size ≤ k_))) k_ ∧ some k_ ≠ (u5 : Value).ownBlock)) (HP564_0.out) (fun k_ hk => ⟨hk.1, hk.2⟩))))); (case aB => exact (by exact rB HB)); (case aF => exact (fun k_ hk => (.inr (Nat.le_trans (bZ HB) hk)))); (case aO => exact (by exact rN HO_5)); (case aS => exact (bZ HB)); (case aL => have := LMc16.out; omega); intro v566 w17 ho hb hg hat; rw [← Ny565.out] at ho; replace HO_0 := aM (Kd.V_afterv (ok := (fun k_ => (P0_ k_ ∨ w.heap.size ≤ k_))) (by exact rV HO_0) hg hat); replace HL554_0 := aM (Kd.V_afterv (ok := (fun k_ => (P0_ k_ ∨ w.heap.size ≤ k_))) (by exact rV HL554_0) hg hat); replace HL564_0 := aM (Kd.V_afterv (ok := (fun k_ => (P0_ k_ ∨ w.heap.size ≤ k_))) (by exact rV HL564_0) hg hat); replace HB := aM (hb); have HO567 := aM (ho); clear HO_5; clear ho hb hg hat)); go_roundg k1
         case measure => have := HK1.out; omega
         case rel => exact ⟨(y565), (true), (wrap64 (x7_1 + 1)), (by first | rfl | (simp; done) | (simp [*]; done)), (by first | rfl | (simp; done) | (simp [*]; done)), H', ⟨by have := HK1.out; omega⟩, ⟨by exact rV HO_0⟩, ⟨by exact rN HO567⟩, ⟨by exact rB HB⟩⟩
        ·rw [if_neg c16] at H; exact absurd H (by simp)
       ·replace c15 := Bool.eq_false_iff.mpr c15; subst c15; have H1 : ((some (([] : List Int) : List Int)).bind fun y568 => (if y568.length + l1.length < 17592186044416 then (if x5_1.length < 5864062014805 then ((some (x5_1 ++ [(y568 ++ l1)] : List (List Int))).bind fun y574 => (if y574.length < 5864062014805 then (spec_l8Put.l0 k1 l0 l1 (y574 ++ [rd_L1 l0 x7_1]) true (wrap64 (x7_1 + 1))) else (none))) else (none)) else (none))) = some r := by rw [if_neg (show ¬ (false = true) by decide)] at H; exact H
        clear H; have H := H1; clear H1; obtain ⟨y568, hy568⟩ : ∃ y_ : List Int, y_ = (([] : List Int)) := ⟨_, rfl⟩; replace H : (if y568.length + l1.length < 17592186044416 then (if x5_1.length < 5864062014805 then ((some (x5_1 ++ [(y568 ++ l1)] : List (List Int))).bind fun y574 => (if y574.length < 5864062014805 then (spec_l8Put.l0 k1 l0 l1 (y574 ++ [rd_L1 l0 x7_1]) true (wrap64 (x7_1 + 1))) else (none))) else (none)) else (none)) = some r := by rw [hy568]; first | exact H | exact (Option.bind_some _ _).symm.trans H
        have Ny568 := aM hy568; clear hy568; by_cases c18 : y568.length + l1.length < 17592186044416
        ·rw [if_pos c18] at H; have LMc18 := aM c18; clear c18; obtain ⟨y571, hy571⟩ : ∃ y_ : List Int, y_ = (y568 ++ l1) := ⟨_, rfl⟩; replace H : (if x5_1.length < 5864062014805 then ((some (x5_1 ++ [y571] : List (List Int))).bind fun y574 => (if y574.length < 5864062014805 then (spec_l8Put.l0 k1 l0 l1 (y574 ++ [rd_L1 l0 x7_1]) true (wrap64 (x7_1 + 1))) else (none))) else (none)) = some r := by rw [hy571]; first | exact H | exact (Option.bind_some _ _).symm.trans H
         have Ny571 := aM hy571; clear hy571; by_cases c19 : x5_1.length < 5864062014805
         ·rw [if_pos c19] at H; have LMc19 := aM c19; clear c19; obtain ⟨y574, hy574⟩ : ∃ y_ : List (List Int), y_ = (x5_1 ++ [y571]) := ⟨_, rfl⟩; replace H : (if y574.length < 5864062014805 then (spec_l8Put.l0 k1 l0 l1 (y574 ++ [rd_L1 l0 x7_1]) true (wrap64 (x7_1 + 1))) else (none)) = some r := by rw [hy574]; first | exact H | exact (Option.bind_some _ _).symm.trans H
          have Ny574 := aM hy574; clear hy574; by_cases c20 : y574.length < 5864062014805
          ·rw [if_pos c20] at H; have LMc20 := aM c20; clear c20; obtain ⟨y578, hy578⟩ : ∃ y_ : List (List Int), y_ = (y574 ++ [rd_L1 l0 x7_1]) := ⟨_, rfl⟩; replace H : (spec_l8Put.l0 k1 l0 l1 y578 true (wrap64 (x7_1 + 1))) = some r := by rw [hy578]; first | exact H | exact (Option.bind_some _ _).symm.trans H
           have Ny578 := aM hy578; clear hy578; have H' := aM H; clear H; have p554 : 0 ≤ (x7_1 : Int) := oD; have q554 : x7_1 < (l0.length : Int) := oD; obtain ⟨ad554, A554_0, c554_0, e554, hx554_0, hl554_0, hi554_0⟩ := at_L1 (Kd.V_reads' HO_0.out).2.2 x7_1 p554 q554; cases e554; obtain ⟨ce554, hce554, hMe554, hcc554⟩ := Kd.V_get HO_0.out [] x7_1 p554 (by first | exact q554 | exact oD | (have e_ := (Kd.V_reads' HO_0.out).1; omega)); obtain ⟨ua554_0, uc554_0, rfl, ul554_0, ge554_0⟩ := Kd.FK_slice_open hMe554; have hv554_0 := hcc554 0 _ rfl; rw [Nat.add_zero, show ((Kd.slice 3 (Kd.int .i64))).sz = 1 from rfl, Nat.mul_one] at hv554_0; replace hv554_0 := Option.some.inj (hv554_0.symm.trans hx554_0); injection hv554_0 with hva_ hvn_ hvc_; rw [hva_] at ge554_0; rw [hvc_] at ul554_0; have HL554_0 := aM (show Kd.V (Kd.int .i64) 3 _ w.heap.size _ _ (rd_L1 l0 x7_1) from Kd.V_mk ul554_0 ge554_0); clear hva_ hvn_ hvc_ ge554_0 ul554_0; clear hcc554 hce554; have HR554_0 := aM hi554_0; have HC554_0 := aM hl554_0; clear hi554_0 hl554_0; replace p554 := eq_true p554; replace q554 := eq_true q554; go_wp2_with (first | ((with_reducible refine gate_callee (f := 106) rfl ?_); refine goesL_ (some 21) rfl rfl Try.func106 (by kernel_rfl) rfl #[.slice A1 l1.length c1, .slice A554_0 (rd_L1 l0 x7_1).length c554_0] rfl (by (try simp only [mT, mC, mN]); first | done | rfl) ?_; (with_reducible refine (spec_CompareWords.calls k1 _ _ l1 _ _ (rd_L1 l0 x7_1) t555 _ ?side1 ?side2 ?side3 ?side4 A7.out).mono ?_); (case side1 => exact xC ((Kd.C_below HR1.out HB.out))); (case side2 => exact HC1.out); (case side3 => repeat (first | exact (by repeat (first | (with_reducible exact HR554_0.out) | (with_reducible refine Kd.C_alloc ?_ _) | (with_reducible refine Kd.C_drewN ?_ _) | (with_reducible refine Kd.C_drew ?_) | exact HR554_0.out)) | (with_reducible refine Kd.C_alloc ?_ _) | (with_reducible refine Kd.C_drewN ?_ _) | (with_reducible refine Kd.C_drew ?_))); (case side4 => exact HC554_0.out); rintro e w' ⟨rfl, ⟨nd, rfl⟩⟩; refine ⟨_, rfl, ?_⟩) | ((with_reducible refine gate_dst (N := 31) rfl ?_); refine Kd.R_lit (Kd.int .i64) _ 3 ?hg (N := 31) ?hd (xs := ([] : List Int)) (inner := []) (ok := fun _ => True) (okp := fun _ => True) ?hr ?hp (fun _ hk => hk) trivial (Below.refl _ _) (Nat.le_refl _) (by simp) ?_; (case hd | hg => rfl); (case hr => go_simp <;> rfl); (case hp => exact (Reps.none _ _)); intro v569 w21 ho22 hb hg_ hnew_; clear hg_ hnew_; (first | rw [← Ny568.out] at ho22 | (simp only [Int.reduceToNat] at ho22; rw [← Ny568.out] at ho22)); replace HO_0 := aM (Kd.V_elder' (by exact rV HO_0) (Kd.R_base ho22) hb); replace HO_5 := aM (Kd.N_elder' (by exact rN HO_5) (Kd.R_base ho22) hb); replace HL554_0 := aM (Kd.V_elder' (by exact rV HL554_0) (Kd.R_base ho22) hb); have HO570 := aM (Kd.R_lower (Kd.R_newM (M := fun k_ => (w.heap.size ≤ k_)) ho22 (bZ HB) (fun k_ h_ => h_)) (bZ HB)); replace HR554_0 := aM (Kd.C_below (by repeat (first | (with_reducible exact HR554_0.out) | (with_reducible refine Kd.C_alloc ?_ _) | (with_reducible refine Kd.C_drewN ?_ _) | (with_reducible refine Kd.C_drew ?_) | exact HR554_0.out)) hb); replace HB := bS HB hb; clear hb ho22) | ((with_reducible refine gate_builtin (b := .append) (xs := #[.tmp 31, .tmp 32]) rfl ?_); at_builtin; refine Kd.R_append_rows (Kd.int .i64) (w0 := w) w.heap.size rfl (.tmp 31) (.tmp 32) 31 3 (.int .i64 0) 8 rfl Try.underlying31 info3 rfl (by decide) (by omega) v569 y568 l1 _ _ _ (fun k_ => (w.heap.size ≤ k_)) (fun _ => False) rfl rfl ?aO ?aR (fun _ _ h => h) (fun _ h => h.elim) ?aF ?aB ?aS ?aL ?_; (case aR => exact xC ((Kd.C_below HR1.out HB.out))); (case aB => exact (by exact rB HB)); (case aF => exact (fun k_ hk => (Nat.le_trans (bZ HB) hk))); (case aO => exact (by exact xR (Kd.R_mono HO570.out (fun _ hk => hk.1)))); (case aS => exact (bZ HB)); (case aL => have := LMc18.out; omega); intro v572 w23 ho hb hg hat; rw [← Ny571.out] at ho; replace HO_0 := aM (Kd.V_afterv (ok := (fun k_ => (P0_ k_ ∨ w.heap.size ≤ k_) ∧ some k_ ≠ (u5 : Value).ownBlock)) (by exact rV HO_0) hg hat); replace HO_5 := aM (Kd.N_afterv (ok := (fun k_ => (P0_ k_ ∨ w.heap.size ≤ k_))) (by exact rN HO_5) hg hat); replace HL554_0 := aM (Kd.V_afterv (ok := (fun k_ => (P0_ k_ ∨ w.heap.size ≤ k_) ∧ some k_ ≠ (u5 : Value).ownBlock)) (by exact rV HL554_0) hg hat); replace HB := aM (hb); have HO573 := aM (ho); clear HO570; clear ho hb hg hat; obtain ⟨Ao25, co25, eo25⟩ := Kd.R_slice HO573.out; subst eo25) | ((with_reducible refine gate_builtin (b := .append) (xs := #[.tmp 30, .tmp 34]) rfl ?_); at_builtin; refine Kd.N_append (Kd.slice 3 (Kd.int .i64)) (w0 := w) w.heap.size rfl (.tmp 30) (.tmp 34) 22 31 (.slice none 0 0) 24 rfl Try.underlying22 info31 rfl (by decide) (by omega) u5 x5_1 y571 [.slice Ao25 y571.length co25] (fun k_ => (P0_ k_ ∨ w.heap.size ≤ k_)) (fun k_ => ((fun k_ => (P0_ k_ ∨ w.heap.size ≤ k_))) k_ ∧ some k_ ≠ (u5 : Value).ownBlock) rfl rfl ?aP (fun _ hk => hk) ?aF ?aO ?aB ?aS ?aL ?_; (case aP => exact (Kd.FK_slice_mk (Kd.R_reads' (Kd.R_mono (ok' := (fun k_ => ((fun k_ => (P0_ k_ ∨ w.heap.size ≤ k_))) k_ ∧ some k_ ≠ (u5 : Value).ownBlock)) (Kd.R_apart' (HO573.out) (Kd.N_typed HO_5.out) (by decide)) (fun k_ hk => ⟨(.inr (hk.1)), hk.2⟩))).2.1 (Kd.R_F (Kd.R_mono (ok' := (fun k_ => ((fun k_ => (P0_ k_ ∨ w.heap.size ≤ k_))) k_ ∧ some k_ ≠ (u5 : Value).ownBlock)) (Kd.R_apart' (HO573.out) (Kd.N_typed HO_5.out) (by decide)) (fun k_ hk => ⟨(.inr (hk.1)), hk.2⟩))))); (case aB => exact (by exact rB HB)); (case aF => exact (fun k_ hk => (.inr (Nat.le_trans (bZ HB) hk)))); (case aO => exact (by exact xN (Kd.N_mono HO_5.out (fun _ hk => hk.1)))); (case aS => exact (bZ HB)); (case aL => have := LMc19.out; omega); intro v575 w24 ho hb hg hat; rw [← Ny574.out] at ho; replace HO_0 := aM (Kd.V_afterv (ok := (fun k_ => (P0_ k_ ∨ w.heap.size ≤ k_) ∧ some k_ ≠ (.slice Ao25 y571.length co25 : Value).ownBlock)) (by exact xV (Kd.V_mono HO_0.out (fun _ hk => ⟨⟨hk.1.1, hk.2⟩, hk.1.2⟩))) hg hat); replace HL554_0 := aM (Kd.V_afterv (ok := (fun k_ => (P0_ k_ ∨ w.heap.size ≤ k_) ∧ some k_ ≠ (.slice Ao25 y571.length co25 : Value).ownBlock)) (by exact xV (Kd.V_mono HL554_0.out (fun _ hk => ⟨⟨hk.1.1, hk.2⟩, hk.1.2⟩))) hg hat); replace HB := aM (hb); have HO576 := aM (ho); clear HO_5 HO573; clear ho hb hg hat; have p577 : 0 ≤ (x7_1 : Int) := oD; have q577 : x7_1 < (l0.length : Int) := oD; obtain ⟨ad577, A577_0, c577_0, e577, hx577_0, hl577_0, hi577_0⟩ := at_L1 (Kd.V_reads' HO_0.out).2.2 x7_1 p577 q577; obtain rfl : ad554 = ad577 := (by injection e577); obtain ⟨ce577, hce577, hMe577, hcc577⟩ := Kd.V_get HO_0.out [] x7_1 p577 (by first | exact q577 | exact oD | (have e_ := (Kd.V_reads' HO_0.out).1; omega)); obtain ⟨ua577_0, uc577_0, rfl, ul577_0, ge577_0⟩ := Kd.FK_slice_open hMe577; have hv577_0 := hcc577 0 _ rfl; rw [Nat.add_zero, show ((Kd.slice 3 (Kd.int .i64))).sz = 1 from rfl, Nat.mul_one] at hv577_0; replace hv577_0 := Option.some.inj (hv577_0.symm.trans hx577_0); injection hv577_0 with hva_ hvn_ hvc_; rw [hva_] at ge577_0; rw [hvc_] at ul577_0; have HL577_0 := aM (show Kd.V (Kd.int .i64) 3 _ w.heap.size _ _ (rd_L1 l0 x7_1) from Kd.V_mk ul577_0 ge577_0); clear hva_ hvn_ hvc_ ge577_0 ul577_0; clear hcc577 hce577; have HR577_0 := aM hi577_0; have HC577_0 := aM hl577_0; clear hi577_0 hl577_0; replace p577 := eq_true p577; replace q577 := eq_true q577) | ((with_reducible refine gate_builtin (b := .append) (xs := #[.tmp 36, .tmp 41]) rfl ?_); at_builtin; refine Kd.N_append (Kd.slice 3 (Kd.int .i64)) (w0 := w) w.heap.size rfl (.tmp 36) (.tmp 41) 22 31 (.slice none 0 0) 24 rfl Try.underlying22 info31 rfl (by decide) (by omega) v575 y574 (rd_L1 l0 x7_1) [.slice A577_0 (rd_L1 l0 x7_1).length c577_0] (fun k_ => (P0_ k_ ∨ w.heap.size ≤ k_)) (fun k_ => ((fun k_ => (P0_ k_ ∨ w.heap.size ≤ k_))) k_ ∧ some k_ ≠ (v575 : Value).ownBlock) rfl rfl ?aP (fun _ hk => hk) ?aF ?aO ?aB ?aS ?aL ?_; (case aP => exact (Kd.FK_slice_mk (Kd.V_reads' (Kd.V_mono (ok' := (fun k_ => ((fun k_ => (P0_ k_ ∨ w.heap.size ≤ k_))) k_ ∧ some k_ ≠ (v575 : Value).ownBlock)) (HL577_0.out) (fun k_ hk => ⟨hk.1.1, hk.2⟩))).2.1 (Kd.V_F (Kd.V_mono (ok' := (fun k_ => ((fun k_ => (P0_ k_ ∨ w.heap.size ≤ k_))) k_ ∧ some k_ ≠ (v575 : Value).ownBlock)) (HL577_0.out) (fun k_ hk => ⟨hk.1.1, hk.2⟩))))); (case aB => exact (by exact rB HB)); (case aF => exact (fun k_ hk => (.inr (Nat.le_trans (bZ HB) hk)))); (case aO => exact (by exact rN HO576)); (case aS => exact (bZ HB)); (case aL => have := LMc20.out; omega); intro v579 w26 ho hb hg hat; rw [← Ny578.out] at ho; replace HO_0 := aM (Kd.V_afterv (ok := (fun k_ => (P0_ k_ ∨ w.heap.size ≤ k_))) (by exact xV (Kd.V_mono HO_0.out (fun _ hk => ⟨hk.1.1, hk.2⟩))) hg hat); replace HL554_0 := aM (Kd.V_afterv (ok := (fun k_ => (P0_ k_ ∨ w.heap.size ≤ k_))) (by exact xV (Kd.V_mono HL554_0.out (fun _ hk => ⟨hk.1.1, hk.2⟩))) hg hat); replace HL577_0 := aM (Kd.V_afterv (ok := (fun k_ => (P0_ k_ ∨ w.heap.size ≤ k_))) (by exact xV (Kd.V_mono HL577_0.out (fun _ hk => ⟨hk.1.1, hk.2⟩))) hg hat); replace HB := aM (hb); have HO580 := aM (ho); clear HO576; clear ho hb hg hat)); go_roundg k1
           case measure => have := HK1.out; omega
           case rel => exact ⟨(y578), (true), (wrap64 (x7_1 + 1)), (by first | rfl | (simp; done) | (simp [*]; done)), (by first | rfl | (simp; done) | (simp [*]; done)), H', ⟨by have := HK1.out; omega⟩, ⟨by exact rV HO_0⟩, ⟨by exact rN HO580⟩, ⟨by exact rB HB⟩⟩
          ·rw [if_neg c20] at H; exact absurd H (by simp)
         ·rw [if_neg c19] at H; exact absurd H (by simp)
        ·rw [if_neg c18] at H; exact absurd H (by simp)
      ·rw [if_neg c14] at H; have c14b0 : decide (t555 < 0) = false := decide_eq_false c14; clear c14; by_cases c27 : x5_1.length < 5864062014805
       ·rw [if_pos c27] at H; have LMc27 := aM c27; clear c27; obtain ⟨y582, hy582⟩ : ∃ y_ : List (List Int), y_ = (x5_1 ++ [rd_L1 l0 x7_1]) := ⟨_, rfl⟩; replace H : (spec_l8Put.l0 k1 l0 l1 y582 x6_1 (wrap64 (x7_1 + 1))) = some r := by rw [hy582]; first | exact H | exact (Option.bind_some _ _).symm.trans H
        have Ny582 := aM hy582; clear hy582; have H' := aM H; clear H; have p554 : 0 ≤ (x7_1 : Int) := oD; have q554 : x7_1 < (l0.length : Int) := oD; obtain ⟨ad554, A554_0, c554_0, e554, hx554_0, hl554_0, hi554_0⟩ := at_L1 (Kd.V_reads' HO_0.out).2.2 x7_1 p554 q554; cases e554; obtain ⟨ce554, hce554, hMe554, hcc554⟩ := Kd.V_get HO_0.out [] x7_1 p554 (by first | exact q554 | exact oD | (have e_ := (Kd.V_reads' HO_0.out).1; omega)); obtain ⟨ua554_0, uc554_0, rfl, ul554_0, ge554_0⟩ := Kd.FK_slice_open hMe554; have hv554_0 := hcc554 0 _ rfl; rw [Nat.add_zero, show ((Kd.slice 3 (Kd.int .i64))).sz = 1 from rfl, Nat.mul_one] at hv554_0; replace hv554_0 := Option.some.inj (hv554_0.symm.trans hx554_0); injection hv554_0 with hva_ hvn_ hvc_; rw [hva_] at ge554_0; rw [hvc_] at ul554_0; have HL554_0 := aM (show Kd.V (Kd.int .i64) 3 _ w.heap.size _ _ (rd_L1 l0 x7_1) from Kd.V_mk ul554_0 ge554_0); clear hva_ hvn_ hvc_ ge554_0 ul554_0; clear hcc554 hce554; have HR554_0 := aM hi554_0; have HC554_0 := aM hl554_0; clear hi554_0 hl554_0; replace p554 := eq_true p554; replace q554 := eq_true q554; go_wp2_with (first | ((with_reducible refine gate_callee (f := 106) rfl ?_); refine goesL_ (some 21) rfl rfl Try.func106 (by kernel_rfl) rfl #[.slice A1 l1.length c1, .slice A554_0 (rd_L1 l0 x7_1).length c554_0] rfl (by (try simp only [mT, mC, mN]); first | done | rfl) ?_; (with_reducible refine (spec_CompareWords.calls k1 _ _ l1 _ _ (rd_L1 l0 x7_1) t555 _ ?side1 ?side2 ?side3 ?side4 A7.out).mono ?_); (case side1 => exact xC ((Kd.C_below HR1.out HB.out))); (case side2 => exact HC1.out); (case side3 => repeat (first | exact (by repeat (first | (with_reducible exact HR554_0.out) | (with_reducible refine Kd.C_alloc ?_ _) | (with_reducible refine Kd.C_drewN ?_ _) | (with_reducible refine Kd.C_drew ?_) | exact HR554_0.out)) | (with_reducible refine Kd.C_alloc ?_ _) | (with_reducible refine Kd.C_drewN ?_ _) | (with_reducible refine Kd.C_drew ?_))); (case side4 => exact HC554_0.out); rintro e w' ⟨rfl, ⟨nd, rfl⟩⟩; refine ⟨_, rfl, ?_⟩; have p581 : 0 ≤ (x7_1 : Int) := oD; have q581 : x7_1 < (l0.length : Int) := oD; obtain ⟨ad581, A581_0, c581_0, e581, hx581_0, hl581_0, hi581_0⟩ := at_L1 (Kd.V_reads' HO_0.out).2.2 x7_1 p581 q581; obtain rfl : ad554 = ad581 := (by injection e581); obtain ⟨ce581, hce581, hMe581, hcc581⟩ := Kd.V_get HO_0.out [] x7_1 p581 (by first | exact q581 | exact oD | (have e_ := (Kd.V_reads' HO_0.out).1; omega)); obtain ⟨ua581_0, uc581_0, rfl, ul581_0, ge581_0⟩ := Kd.FK_slice_open hMe581; have hv581_0 := hcc581 0 _ rfl; rw [Nat.add_zero, show ((Kd.slice 3 (Kd.int .i64))).sz = 1 from rfl, Nat.mul_one] at hv581_0; replace hv581_0 := Option.some.inj (hv581_0.symm.trans hx581_0); injection hv581_0 with hva_ hvn_ hvc_; rw [hva_] at ge581_0; rw [hvc_] at ul581_0; have HL581_0 := aM (show Kd.V (Kd.int .i64) 3 _ w.heap.size _ _ (rd_L1 l0 x7_1) from Kd.V_mk ul581_0 ge581_0); have HP581_0 := aM (Kd.V_drewN HL581_0.out nd); clear hva_ hvn_ hvc_ ge581_0 ul581_0; clear hcc581 hce581; have HR581_0 := aM hi581_0; have HC581_0 := aM hl581_0; clear hi581_0 hl581_0; replace p581 := eq_true p581; replace q581 := eq_true q581; have ea_ := Option.some.inj (hx554_0.symm.trans hx581_0); injection ea_ with ea_ en_ ec_; subst ea_; subst ec_; clear en_) | ((with_reducible refine gate_builtin (b := .append) (xs := #[.tmp 36, .tmp 41]) rfl ?_); at_builtin; refine Kd.N_append (Kd.slice 3 (Kd.int .i64)) (w0 := w) w.heap.size rfl (.tmp 36) (.tmp 41) 22 31 (.slice none 0 0) 24 rfl Try.underlying22 info31 rfl (by decide) (by omega) u5 x5_1 (rd_L1 l0 x7_1) [.slice A554_0 (rd_L1 l0 x7_1).length c554_0] (fun k_ => (P0_ k_ ∨ w.heap.size ≤ k_)) (fun k_ => ((fun k_ => (P0_ k_ ∨ w.heap.size ≤ k_))) k_ ∧ some k_ ≠ (u5 : Value).ownBlock) rfl rfl ?aP (fun _ hk => hk) ?aF ?aO ?aB ?aS ?aL ?_; (case aP => exact (Kd.FK_slice_mk (Kd.V_reads' (Kd.V_mono (ok' := (fun k_ => ((fun k_ => (P0_ k_ ∨ w.heap.size ≤ k_))) k_ ∧ some k_ ≠ (u5 : Value).ownBlock)) (HP581_0.out) (fun k_ hk => ⟨hk.1, hk.2⟩))).2.1 (Kd.V_F (Kd.V_mono (ok' := (fun k_ => ((fun k_ => (P0_ k_ ∨ w.heap.size ≤ k_))) k_ ∧ some k_ ≠ (u5 : Value).ownBlock)) (HP581_0.out) (fun k_ hk => ⟨hk.1, hk.2⟩))))); (case aB => exact (by exact rB HB)); (case aF => exact (fun k_ hk => (.inr (Nat.le_trans (bZ HB) hk)))); (case aO => exact (by exact rN HO_5)); (case aS => exact (bZ HB)); (case aL => have := LMc27.out; omega); intro v583 w28 ho hb hg hat; rw [← Ny582.out] at ho; replace HO_0 := aM (Kd.V_afterv (ok := (fun k_ => (P0_ k_ ∨ w.heap.size ≤ k_))) (by exact rV HO_0) hg hat); replace HL554_0 := aM (Kd.V_afterv (ok := (fun k_ => (P0_ k_ ∨ w.heap.size ≤ k_))) (by exact rV HL554_0) hg hat); replace HL581_0 := aM (Kd.V_afterv (ok := (fun k_ => (P0_ k_ ∨ w.heap.size ≤ k_))) (by exact rV HL581_0) hg hat); replace HB := aM (hb); have HO584 := aM (ho); clear HO_5; clear ho hb hg hat)); go_roundg k1
        case measure => have := HK1.out; omega
        case rel => exact ⟨(y582), (x6_1), (wrap64 (x7_1 + 1)), (by first | rfl | (simp; done) | (simp [*]; done)), (by first | rfl | (simp; done) | (simp [*]; done)), H', ⟨by have := HK1.out; omega⟩, ⟨by exact rV HO_0⟩, ⟨by exact rN HO584⟩, ⟨by exact rB HB⟩⟩
       ·rw [if_neg c27] at H; exact absurd H (by simp)
    ·rw [if_neg c6] at H; exact absurd H (by simp)
   ·rw [if_neg c5] at H; have c5b0 : decide (x7_1 < (l0.length : Int)) = false := decide_eq_false c5; clear c5; by_cases c29 : x6_1 = true
    ·subst c29; have H1 : (some x5_1) = some r := by rw [if_pos rfl] at H; exact H
     clear H; have H := H1; clear H1; obtain rfl := Option.some.inj H; go_wp2; go_ret; exact ⟨_, by first | rfl | (simp [errW_none, errW_some] <;> rfl) | (simp [*, errW_none, errW_some] <;> rfl), by exact rN HO_5, by exact rB HB⟩
    ·replace c29 := Bool.eq_false_iff.mpr c29; subst c29; have H1 : ((some (([] : List Int) : List Int)).bind fun y545 => (if y545.length + l1.length < 17592186044416 then (if x5_1.length < 5864062014805 then (some (x5_1 ++ [(y545 ++ l1)])) else (none)) else (none))) = some r := by rw [if_neg (show ¬ (false = true) by decide)] at H; exact H
     clear H; have H := H1; clear H1; obtain ⟨y545, hy545⟩ : ∃ y_ : List Int, y_ = (([] : List Int)) := ⟨_, rfl⟩; replace H : (if y545.length + l1.length < 17592186044416 then (if x5_1.length < 5864062014805 then (some (x5_1 ++ [(y545 ++ l1)])) else (none)) else (none)) = some r := by rw [hy545]; first | exact H | exact (Option.bind_some _ _).symm.trans H
     have Ny545 := aM hy545; clear hy545; by_cases c30 : y545.length + l1.length < 17592186044416
     ·rw [if_pos c30] at H; have LMc30 := aM c30; clear c30; obtain ⟨y548, hy548⟩ : ∃ y_ : List Int, y_ = (y545 ++ l1) := ⟨_, rfl⟩; replace H : (if x5_1.length < 5864062014805 then (some (x5_1 ++ [y548])) else (none)) = some r := by rw [hy548]; first | exact H | exact (Option.bind_some _ _).symm.trans H
      have Ny548 := aM hy548; clear hy548; by_cases c31 : x5_1.length < 5864062014805
      ·rw [if_pos c31] at H; have LMc31 := aM c31; clear c31; obtain ⟨y551, hy551⟩ : ∃ y_ : List (List Int), y_ = (x5_1 ++ [y548]) := ⟨_, rfl⟩; replace H : (some y551) = some r := by rw [hy551]; first | exact H | exact (Option.bind_some _ _).symm.trans H
       have Ny551 := aM hy551; clear hy551; obtain rfl := Option.some.inj H; go_wp2_with (first | ((with_reducible refine gate_dst (N := 46) rfl ?_); refine Kd.R_lit (Kd.int .i64) _ 3 ?hg (N := 46) ?hd (xs := ([] : List Int)) (inner := []) (ok := fun _ => True) (okp := fun _ => True) ?hr ?hp (fun _ hk => hk) trivial (Below.refl _ _) (Nat.le_refl _) (by simp) ?_; (case hd | hg => rfl); (case hr => go_simp <;> rfl); (case hp => exact (Reps.none _ _)); intro v546 w32 ho33 hb hg_ hnew_; clear hg_ hnew_; (first | rw [← Ny545.out] at ho33 | (simp only [Int.reduceToNat] at ho33; rw [← Ny545.out] at ho33)); replace HO_0 := aM (Kd.V_elder' (by exact rV HO_0) (Kd.R_base ho33) hb); replace HO_5 := aM (Kd.N_elder' (by exact rN HO_5) (Kd.R_base ho33) hb); have HO547 := aM (Kd.R_lower (Kd.R_newM (M := fun k_ => (w.heap.size ≤ k_)) ho33 (bZ HB) (fun k_ h_ => h_)) (bZ HB)); replace HB := bS HB hb; clear hb ho33) | ((with_reducible refine gate_builtin (b := .append) (xs := #[.tmp 46, .tmp 47]) rfl ?_); at_builtin; refine Kd.R_append_rows (Kd.int .i64) (w0 := w) w.heap.size rfl (.tmp 46) (.tmp 47) 31 3 (.int .i64 0) 8 rfl Try.underlying31 info3 rfl (by decide) (by omega) v546 y545 l1 _ _ _ (fun k_ => (w.heap.size ≤ k_)) (fun _ => False) rfl rfl ?aO ?aR (fun _ _ h => h) (fun _ h => h.elim) ?aF ?aB ?aS ?aL ?_; (case aR => exact xC ((Kd.C_below HR1.out HB.out))); (case aB => exact (by exact rB HB)); (case aF => exact (fun k_ hk => (Nat.le_trans (bZ HB) hk))); (case aO => exact (by exact xR (Kd.R_mono HO547.out (fun _ hk => hk.1)))); (case aS => exact (bZ HB)); (case aL => have := LMc30.out; omega); intro v549 w34 ho hb hg hat; rw [← Ny548.out] at ho; replace HO_0 := aM (Kd.V_afterv (ok := (fun k_ => (P0_ k_ ∨ w.heap.size ≤ k_) ∧ some k_ ≠ (u5 : Value).ownBlock)) (by exact rV HO_0) hg hat); replace HO_5 := aM (Kd.N_afterv (ok := (fun k_ => (P0_ k_ ∨ w.heap.size ≤ k_))) (by exact rN HO_5) hg hat); replace HB := aM (hb); have HO550 := aM (ho); clear HO547; clear ho hb hg hat; obtain ⟨Ao36, co36, eo36⟩ := Kd.R_slice HO550.out; subst eo36) | ((with_reducible refine gate_builtin (b := .append) (xs := #[.tmp 45, .tmp 49]) rfl ?_); at_builtin; refine Kd.N_append (Kd.slice 3 (Kd.int .i64)) (w0 := w) w.heap.size rfl (.tmp 45) (.tmp 49) 22 31 (.slice none 0 0) 24 rfl Try.underlying22 info31 rfl (by decide) (by omega) u5 x5_1 y548 [.slice Ao36 y548.length co36] (fun k_ => (P0_ k_ ∨ w.heap.size ≤ k_)) (fun k_ => ((fun k_ => (P0_ k_ ∨ w.heap.size ≤ k_))) k_ ∧ some k_ ≠ (u5 : Value).ownBlock) rfl rfl ?aP (fun _ hk => hk) ?aF ?aO ?aB ?aS ?aL ?_; (case aP => exact (Kd.FK_slice_mk (Kd.R_reads' (Kd.R_mono (ok' := (fun k_ => ((fun k_ => (P0_ k_ ∨ w.heap.size ≤ k_))) k_ ∧ some k_ ≠ (u5 : Value).ownBlock)) (Kd.R_apart' (HO550.out) (Kd.N_typed HO_5.out) (by decide)) (fun k_ hk => ⟨(.inr (hk.1)), hk.2⟩))).2.1 (Kd.R_F (Kd.R_mono (ok' := (fun k_ => ((fun k_ => (P0_ k_ ∨ w.heap.size ≤ k_))) k_ ∧ some k_ ≠ (u5 : Value).ownBlock)) (Kd.R_apart' (HO550.out) (Kd.N_typed HO_5.out) (by decide)) (fun k_ hk => ⟨(.inr (hk.1)), hk.2⟩))))); (case aB => exact (by exact rB HB)); (case aF => exact (fun k_ hk => (.inr (Nat.le_trans (bZ HB) hk)))); (case aO => exact (by exact xN (Kd.N_mono HO_5.out (fun _ hk => hk.1)))); (case aS => exact (bZ HB)); (case aL => have := LMc31.out; omega); intro v552 w35 ho hb hg hat; rw [← Ny551.out] at ho; replace HO_0 := aM (Kd.V_afterv (ok := (fun k_ => (P0_ k_ ∨ w.heap.size ≤ k_) ∧ some k_ ≠ (.slice Ao36 y548.length co36 : Value).ownBlock)) (by exact xV (Kd.V_mono HO_0.out (fun _ hk => ⟨⟨hk.1.1, hk.2⟩, hk.1.2⟩))) hg hat); replace HB := aM (hb); have HO553 := aM (ho); clear HO_5 HO550; clear ho hb hg hat)); go_ret; exact ⟨_, by first | rfl | (simp [errW_none, errW_some] <;> rfl) | (simp [*, errW_none, errW_some] <;> rfl), by exact rN HO553, by exact rB HB⟩
      ·rw [if_neg c31] at H; exact absurd H (by simp)
     ·rw [if_neg c30] at H; exact absurd H (by simp)
mutual
def spec_FactorsOf.j0 : Nat → List Int → Int → List (List Int) → Bool → Option ((List (List Int)) × Bool)
 | 0, _, _, _, _ => none
 | k + 1, x0, x1, x6, x21 => if x21 = true then (some (x6, false)) else (spec_FactorsOf.l0 k x0 x1 x6 0)
def spec_FactorsOf.l0 : Nat → List Int → Int → List (List Int) → Int → Option ((List (List Int)) × Bool)
 | 0, _, _, _, _ => none
 | k + 1, x0, x1, x6, x7 => if (wrap64 (x7 + x1)) ≤ (x0.length : Int) then (if 0 ≤ x7 then (if x7 ≤ (wrap64 (x7 + x1)) then ((spec_l8Put.f k x6 ((x0.take ((wrap64 (x7 + x1)) : Int).toNat).drop (x7 : Int).toNat)).bind fun t591 => (spec_FactorsOf.l0 k x0 x1 t591 (wrap64 (x7 + 1)))) else (none)) else (none)) else (some (x6, true))
end
def spec_FactorsOf.f (k : Nat) (l0 : List Int) (a1 : Int) : Option ((List (List Int)) × Bool) := (some (([] : List (List Int)) : List (List Int))).bind fun y585 => ((spec_IsWord.f k l0 16).bind fun t588 => (if t588 = true then (if (l0.length : Int) > 128 then (spec_FactorsOf.j0 k l0 a1 y585 true) else ((spec_l1In.f a1 0 40).bind fun t589 => (spec_FactorsOf.j0 k l0 a1 y585 (!t589)))) else (spec_FactorsOf.j0 k l0 a1 y585 true)))
set_option maxHeartbeats 8000000 in
set_option maxRecDepth 100000 in
theorem spec_FactorsOf.calls (k : Nat) (A0 : Option Addr) (c0 : Nat) (l0 : List Int) (a1 : Int) (r1 : List (List Int)) (r2 : Bool) (w : World) (hr0 : Kd.C (Kd.int .i64) w A0 l0.length l0) (hc0 : l0.length ≤ c0) (h : spec_FactorsOf.f k l0 a1 = some (r1, r2)) :
  Calls Try.prog 85 #[.slice A0 l0.length c0, .int .i64 a1] w fun e w' => ∃ v0_ : Value, e = .returned (.tuple #[v0_, .bool r2]) ∧ Kd.N (Kd.slice 3 (Kd.int .i64)) 31 w' w.heap.size (fun k_ => (w.heap.size ≤ k_)) v0_ r1 ∧ Below w.heap.size w w' := by
 have HR0 := aM hr0; have HC0 := aM hc0; clear hr0 hc0; have HB := aM (Below.refl w.heap.size w); have H : ((some (([] : List (List Int)) : List (List Int))).bind fun y585 => ((spec_IsWord.f k l0 16).bind fun t588 => (if t588 = true then (if (l0.length : Int) > 128 then (spec_FactorsOf.j0 k l0 a1 y585 true) else ((spec_l1In.f a1 0 40).bind fun t589 => (spec_FactorsOf.j0 k l0 a1 y585 (!t589)))) else (spec_FactorsOf.j0 k l0 a1 y585 true)))) = some (r1, r2) := h; clear h; obtain ⟨y585, hy585⟩ : ∃ y_ : List (List Int), y_ = (([] : List (List Int))) := ⟨_, rfl⟩; replace H : ((spec_IsWord.f k l0 16).bind fun t588 => (if t588 = true then (if (l0.length : Int) > 128 then (spec_FactorsOf.j0 k l0 a1 y585 true) else ((spec_l1In.f a1 0 40).bind fun t589 => (spec_FactorsOf.j0 k l0 a1 y585 (!t589)))) else (spec_FactorsOf.j0 k l0 a1 y585 true))) = some (r1, r2) := by rw [hy585]; first | exact H | exact (Option.bind_some _ _).symm.trans H
 have Ny585 := aM hy585; clear hy585; have HC3 := aM H; clear H; go_enter Try.func85, Try.ntmps85; go_upto_region 2 with (first | ((with_reducible refine gate_dst (N := 8) rfl ?_); (try (refine gate_guard (by rfl) ?_; dsimp only)); refine Kd.N_lit (Kd.slice 3 (Kd.int .i64)) _ 31 ?hg (N' := 8) ?hd (xs := ([] : List (List Int))) (inner := []) (ok := (fun k_ => (w.heap.size ≤ k_))) (okp := (fun k_ => (w.heap.size ≤ k_))) ?hr ?hp (fun _ hk => hk) ((show ∀ k_, w.heap.size ≤ k_ → (fun k_ => (w.heap.size ≤ k_)) k_ from fun k_ hk => (Nat.le_trans (bZ HB) hk)) _ (Nat.le_refl _)) (Below.refl _ _) (Nat.le_refl _) (by simp) ?_; (case hd | hg => rfl); (case hr => go_simp <;> rfl); (case hp => exact (Reps.none _ _)); intro v586 w4 ho5 hb hg_ hnew_; clear hg_ hnew_; (first | rw [← Ny585.out] at ho5 | (simp only [Int.reduceToNat] at ho5; rw [← Ny585.out] at ho5)); have HO587 := aM (Kd.N_lower ho5 (bZ HB)); replace HB := bS HB hb; clear hb ho5)); (try simp only [Act.put, qa, qz, qs]); go_cut [21] (fun v21 wc => ∃ (kq : Nat) (x21_2 : Bool), v21 = .bool x21_2 ∧ Aside0 (spec_FactorsOf.j0 kq l0 a1 y585 x21_2 = some (r1, r2)) ∧ Aside0 (kq ≤ k) ∧ Aside0 (Kd.N (Kd.slice 3 (Kd.int .i64)) 31 wc w.heap.size (fun k_ => (w.heap.size ≤ k_)) v586 y585) ∧ Aside0 (Below w.heap.size w wc))
 case first =>
  have H := HC3.out; clear HC3; replace H := bE H; obtain ⟨t588, A60, H⟩ := H; replace H : (if t588 = true then (if (l0.length : Int) > 128 then (spec_FactorsOf.j0 k l0 a1 y585 true) else ((spec_l1In.f a1 0 40).bind fun t589 => (spec_FactorsOf.j0 k l0 a1 y585 (!t589)))) else (spec_FactorsOf.j0 k l0 a1 y585 true)) = some (r1, r2) := H; have A6 := aM A60; clear A60; by_cases c7 : t588 = true
  ·subst c7; have H1 : (if (l0.length : Int) > 128 then (spec_FactorsOf.j0 k l0 a1 y585 true) else ((spec_l1In.f a1 0 40).bind fun t589 => (spec_FactorsOf.j0 k l0 a1 y585 (!t589)))) = some (r1, r2) := by rw [if_pos rfl] at H; exact H
   clear H; have H := H1; clear H1; by_cases c8 : (l0.length : Int) > 128
   ·rw [if_pos c8] at H; have c8b0 : decide (128 < (l0.length : Int)) = true := decide_eq_true c8; have c8b1 : decide (128 < l0.length) = true := decide_eq_true (by omega); clear c8
    (first | rw [c8b0] | (simp only [i64_w, i32_w]; rw [c8b0]) | skip)
    have H' := aM H; clear H; go_wp2_with (first | ((with_reducible refine gate_callee (f := 35) rfl ?_); refine goesL_ (some 10) rfl rfl Try.func35 (by kernel_rfl) rfl #[.slice A0 l0.length c0, .int .i64 16] rfl (by (try simp only [mT, mC, mN]); first | done | rfl) ?_; (with_reducible refine (spec_IsWord.calls k _ _ l0 16 true _ ?side1 ?side2 A6.out).mono ?_); (case side1 => exact xC ((Kd.C_below HR0.out HB.out))); (case side2 => exact HC0.out); rintro e w' ⟨rfl, ⟨nd, rfl⟩⟩; refine ⟨_, rfl, ?_⟩)); go_meet
    case rel => exact ⟨_, (true), (by first | rfl | (simp; done) | (simp [*]; done)), H', ⟨by first | omega | exact Nat.le_refl _⟩, ⟨by exact rN HO587⟩, ⟨by exact rB HB⟩⟩
   ·rw [if_neg c8] at H; have c8b0 : decide (128 < (l0.length : Int)) = false := decide_eq_false c8; have c8b1 : decide (128 < l0.length) = false := decide_eq_false (by omega); clear c8
    (first | rw [c8b0] | (simp only [i64_w, i32_w]; rw [c8b0]) | skip)
    replace H := bE H; obtain ⟨t589, A90, H⟩ := H; replace H : (spec_FactorsOf.j0 k l0 a1 y585 (!t589)) = some (r1, r2) := H; have A9 := aM A90; clear A90; have H' := aM H; clear H; go_wp2_with (first | ((with_reducible refine gate_callee (f := 35) rfl ?_); refine goesL_ (some 10) rfl rfl Try.func35 (by kernel_rfl) rfl #[.slice A0 l0.length c0, .int .i64 16] rfl (by (try simp only [mT, mC, mN]); first | done | rfl) ?_; (with_reducible refine (spec_IsWord.calls k _ _ l0 16 true _ ?side1 ?side2 A6.out).mono ?_); (case side1 => exact xC ((Kd.C_below HR0.out HB.out))); (case side2 => exact HC0.out); rintro e w' ⟨rfl, ⟨nd, rfl⟩⟩; refine ⟨_, rfl, ?_⟩) | (go_at_call 36; (with_reducible refine (spec_l1In.calls a1 0 40 t589 _ A9.out).mono ?_); rintro e w' ⟨rfl, ⟨nd, rfl⟩⟩)); go_meet
    case rel => exact ⟨_, (!t589), (by first | rfl | (simp; done) | (simp [*]; done)), H', ⟨by first | omega | exact Nat.le_refl _⟩, ⟨by exact rN HO587⟩, ⟨by exact rB HB⟩⟩
  ·replace c7 := Bool.eq_false_iff.mpr c7; subst c7; have H1 : (spec_FactorsOf.j0 k l0 a1 y585 true) = some (r1, r2) := by rw [if_neg (show ¬ (false = true) by decide)] at H; exact H
   clear H; have H := H1; clear H1; have H' := aM H; clear H; go_wp2_with (first | ((with_reducible refine gate_callee (f := 35) rfl ?_); refine goesL_ (some 10) rfl rfl Try.func35 (by kernel_rfl) rfl #[.slice A0 l0.length c0, .int .i64 16] rfl (by (try simp only [mT, mC, mN]); first | done | rfl) ?_; (with_reducible refine (spec_IsWord.calls k _ _ l0 16 false _ ?side1 ?side2 A6.out).mono ?_); (case side1 => exact xC ((Kd.C_below HR0.out HB.out))); (case side2 => exact HC0.out); rintro e w' ⟨rfl, ⟨nd, rfl⟩⟩; refine ⟨_, rfl, ?_⟩)); go_meet
   case rel => exact ⟨_, (true), (by first | rfl | (simp; done) | (simp [*]; done)), H', ⟨by first | omega | exact Nat.le_refl _⟩, ⟨by exact rN HO587⟩, ⟨by exact rB HB⟩⟩
 case rest =>
  clear HC3; (try clear p2); (try clear c3); (try clear c7); (try clear c8); (try clear c8b0); (try clear c8b1)
  obtain ⟨kq, x21_2, rfl, HA, HJ2, HO_6, HB⟩ := hcut; cases kq with
  | zero => exact absurd HA.out (by simp [spec_FactorsOf.j0])
  | succ kj2 =>
   have H := HA.out; clear HA; simp only [spec_FactorsOf.j0] at H; by_cases c10 : x21_2 = true
   ·subst c10; have H1 : (some (y585, false)) = some (r1, r2) := by rw [if_pos rfl] at H; exact H
    clear H; have H := H1; clear H1; simp only [Option.some.injEq, Prod.mk.injEq] at H; obtain ⟨rfl, rfl⟩ := H; go_wp2; go_ret2; exact ⟨_, by first | rfl | (simp [errW_none, errW_some] <;> rfl) | (simp [*, errW_none, errW_some] <;> rfl), by exact rN HO_6, by exact rB HB⟩
   ·replace c10 := Bool.eq_false_iff.mpr c10; subst c10; have H1 : (spec_FactorsOf.l0 kj2 l0 a1 y585 0) = some (r1, r2) := by rw [if_neg (show ¬ (false = true) by decide)] at H; exact H
    clear H; have H := H1; clear H1; have H' := aM H; clear H; go_wp2; go_loopg [6, 7] kj2 (fun kq v6 v7 w' => ∃ (x6_2 : List (List Int)) (x7_2 : Int), v7 = .int .i64 x7_2 ∧ Aside0 (spec_FactorsOf.l0 kq l0 a1 x6_2 x7_2 = some (r1, r2)) ∧ Aside0 (kq ≤ kj2) ∧ Aside0 (Kd.N (Kd.slice 3 (Kd.int .i64)) 31 w' w.heap.size (fun k_ => (w.heap.size ≤ k_)) v6 x6_2) ∧ Aside0 (Below w.heap.size w w'))
    case atStart => exact ⟨(y585), (0), (by first | rfl | (simp; done) | (simp [*]; done)), H', ⟨Nat.le_refl _⟩, ⟨by exact rN HO_6⟩, ⟨by exact rB HB⟩⟩
    case round =>
     clear H'; (try clear c1); (try clear p2); (try clear c3); (try clear c7); (try clear c8); (try clear c8b0); (try clear c8b1); (try clear c10); (try clear p2)
     obtain ⟨x6_2, x7_2, rfl, HA, HK2, HO_6, HB⟩ := hrel; cases gk with
     | zero => exact absurd HA.out (by simp [spec_FactorsOf.l0])
     | succ k2 =>
      have H := HA.out; clear HA; simp only [spec_FactorsOf.l0] at H; by_cases c11 : (wrap64 (x7_2 + a1)) ≤ (l0.length : Int)
      ·rw [if_pos c11] at H; have c11b0 : decide ((wrap64 (x7_2 + a1)) ≤ (l0.length : Int)) = true := decide_eq_true c11; clear c11; by_cases c12 : 0 ≤ x7_2
       ·rw [if_pos c12] at H; have c12b0 := eq_true c12; have c12b1 : decide (0 ≤ x7_2) = true := decide_eq_true c12; clear c12; by_cases c13 : x7_2 ≤ (wrap64 (x7_2 + a1))
        ·rw [if_pos c13] at H; have c13b0 := eq_true c13; have c13b1 : decide (x7_2 ≤ (wrap64 (x7_2 + a1))) = true := decide_eq_true c13; have c14b0 := eq_true (oD : (wrap64 (x7_2 + a1)) ≤ (l0.length : Int)); replace H := bE H; obtain ⟨t591, A150, H⟩ := H; replace H : (spec_FactorsOf.l0 k2 l0 a1 t591 (wrap64 (x7_2 + 1))) = some (r1, r2) := H; have A15 := aM A150; clear A150; have H' := aM H; clear H; obtain ⟨i016, hi016, _, hsz16, _⟩ := info_parts info3; obtain ⟨A16, hcut16, hA16, hC16⟩ := print_mid_of (P := Try.prog) (Value.int .i64) 0 31 3 .i64 .i64 Try.underlying31 hi016 hsz16 A0 c0 l0 x7_2 (wrap64 (x7_2 + a1)) (oD) (by first | omega | exact oD) (oD) HC0.out; have HR590 := aM (Kd.C_of_reads (h1 := fun _ => rfl) (hA16 _ (Kd.reads_of_C HR0.out))); have HC590 := aM hC16; clear hA16 hC16 hi016 hsz16; obtain ⟨Ao17, co17, eo17⟩ := Kd.N_slice HO_6.out; subst eo17; go_wp2_with (first | ((with_reducible refine gate_callee (f := 98) rfl ?_); refine goesL_ (some 38) rfl rfl Try.func98 (by kernel_rfl) rfl #[.slice Ao17 x6_2.length co17, .slice A16 ((l0.take ((wrap64 (x7_2 + a1)) : Int).toNat).drop (x7_2 : Int).toNat).length (c0 - x7_2.toNat)] rfl (by (try simp only [List.map_toArray, List.map_cons, List.map_nil]); first | done | (rw [show ((l0.take ((wrap64 (x7_2 + a1)) : Int).toNat).drop (x7_2 : Int).toNat).length = ((wrap64 (x7_2 + a1)).toNat - x7_2.toNat) from (by rw [List.length_drop, List.length_take]; have h_ : ((wrap64 (x7_2 + a1)) : Int) ≤ (l0.length : Int) := oD; omega)] <;> rfl) | rfl | (simp only [List.length_drop, List.length_take]; rfl)) ?_; (with_reducible refine (spec_l8Put.calls k2 (fun k_ => (w.heap.size ≤ k_)) _ _ x6_2 _ _ ((l0.take ((wrap64 (x7_2 + a1)) : Int).toNat).drop (x7_2 : Int).toNat) t591 _ ?side1 ?side2 ?side3 A15.out).mono ?_); (case side1 => exact Kd.N_V (HO_6.out)); (case side2 => exact xC ((Kd.C_below HR590.out HB.out))); (case side3 => exact HC590.out); rintro e w18 ⟨v592, rfl, ho0, hb⟩; refine ⟨_, rfl, ?_⟩; replace HO_6 := aM (Kd.N_elder' (by exact rN HO_6) (by first | exact Kd.N_base ho0 | exact Kd.S_base ho0) hb); have HO593 := aM (Kd.N_lower (Kd.N_mono (ok' := fun k_ => (w.heap.size ≤ k_)) ho0 (fun k_ hk_ => Or.elim hk_ (fun hs_ => hs_) (fun hn_ => (Nat.le_trans (bZ HB) hn_)))) (bZ HB)); replace HB := bS HB hb; clear hb ho0)); go_roundg k2
         case measure => have := HJ2.out; have := HK2.out; omega
         case rel => exact ⟨(t591), (wrap64 (x7_2 + 1)), (by first | rfl | (simp; done) | (simp [*]; done)), H', ⟨by have := HJ2.out; have := HK2.out; omega⟩, ⟨by exact rN HO593⟩, ⟨by exact rB HB⟩⟩
        ·rw [if_neg c13] at H; exact absurd H (by simp)
       ·rw [if_neg c12] at H; exact absurd H (by simp)
      ·rw [if_neg c11] at H; have c11b0 : decide ((wrap64 (x7_2 + a1)) ≤ (l0.length : Int)) = false := decide_eq_false c11; clear c11; simp only [Option.some.injEq, Prod.mk.injEq] at H; obtain ⟨rfl, rfl⟩ := H; go_wp2; go_ret2; exact ⟨_, by first | rfl | (simp [errW_none, errW_some] <;> rfl) | (simp [*, errW_none, errW_some] <;> rfl), by exact rN HO_6, by exact rB HB⟩
def spec_CountFactors.f (k : Nat) (l0 : List Int) (a1 : Int) : Option (Int) := (spec_FactorsOf.f k l0 a1).bind fun bt594 => (if bt594.2 = true then (some (bt594.1.length : Int)) else (some (-1)))
set_option maxHeartbeats 8000000 in
set_option maxRecDepth 100000 in
theorem spec_CountFactors.calls (k : Nat) (A0 : Option Addr) (c0 : Nat) (l0 : List Int) (a1 : Int) (r : Int) (w : World) (hr0 : Kd.C (Kd.int .i64) w A0 l0.length l0) (hc0 : l0.length ≤ c0) (h : spec_CountFactors.f k l0 a1 = some r) :
  Calls Try.prog 67 #[.slice A0 l0.length c0, .int .i64 a1] w fun e w' => e = .returned (.int .i64 r) ∧ Below w.heap.size w w' := by
 have HR0 := aM hr0; have HC0 := aM hc0; clear hr0 hc0; have HB := aM (Below.refl w.heap.size w); have H : ((spec_FactorsOf.f k l0 a1).bind fun bt594 => (if bt594.2 = true then (some (bt594.1.length : Int)) else (some (-1)))) = some r := h; clear h; replace H := bE H; obtain ⟨⟨t594, t597⟩, A30, H⟩ := H; replace H : (if t597 = true then (some (t594.length : Int)) else (some (-1))) = some r := H; have A3 := aM A30; clear A30; by_cases c4 : t597 = true
 ·subst c4; have H1 : (some (t594.length : Int)) = some r := by rw [if_pos rfl] at H; exact H
  clear H; have H := H1; clear H1; obtain rfl := Option.some.inj H; go_enter Try.func67, Try.ntmps67; go_wp2_with (first | ((with_reducible refine gate_callee (f := 85) rfl ?_); refine goesL_ (some 10) rfl rfl Try.func85 (by kernel_rfl) rfl #[.slice A0 l0.length c0, .int .i64 a1] rfl (by (try simp only [mT, mC, mN]); first | done | rfl) ?_; (with_reducible refine (spec_FactorsOf.calls k _ _ l0 a1 t594 true _ ?side1 ?side2 A3.out).mono ?_); (case side1 => exact xC (HR0.out)); (case side2 => exact HC0.out); rintro e w5 ⟨v595, rfl, ho0, hb⟩; refine ⟨_, rfl, ?_⟩; have HO596 := aM (Kd.N_lower (Kd.N_mono (ok' := fun k_ => True) ho0 (fun k_ hk_ => trivial)) (bZ HB)); replace HB := bS HB hb; clear hb ho0; obtain ⟨Ao6, co6, eo6⟩ := Kd.N_slice HO596.out; subst eo6)); go_ret; exact ⟨by first | rfl | (simp [errW_none, errW_some] <;> rfl) | (simp [*, errW_none, errW_some] <;> rfl), by exact rB HB⟩
 ·replace c4 := Bool.eq_false_iff.mpr c4; subst c4; have H1 : (some (-1)) = some r := by rw [if_neg (show ¬ (false = true) by decide)] at H; exact H
  clear H; have H := H1; clear H1; obtain rfl := Option.some.inj H; go_enter Try.func67, Try.ntmps67; go_wp2_with (first | ((with_reducible refine gate_callee (f := 85) rfl ?_); refine goesL_ (some 10) rfl rfl Try.func85 (by kernel_rfl) rfl #[.slice A0 l0.length c0, .int .i64 a1] rfl (by (try simp only [mT, mC, mN]); first | done | rfl) ?_; (with_reducible refine (spec_FactorsOf.calls k _ _ l0 a1 t594 false _ ?side1 ?side2 A3.out).mono ?_); (case side1 => exact xC (HR0.out)); (case side2 => exact HC0.out); rintro e w7 ⟨v595, rfl, ho0, hb⟩; refine ⟨_, rfl, ?_⟩; have HO596 := aM (Kd.N_lower (Kd.N_mono (ok' := fun k_ => True) ho0 (fun k_ hk_ => trivial)) (bZ HB)); replace HB := bS HB hb; clear hb ho0)); go_ret; exact ⟨by first | rfl | (simp [errW_none, errW_some] <;> rfl) | (simp [*, errW_none, errW_some] <;> rfl), by exact rB HB⟩
mutual
def spec_ComplexityOf.l0 : Nat → List Int → Int → List Int → Int → Option (List Int)
 | 0, _, _, _, _ => none
 | k + 1, x0, x1, x5, x6 => if x6 ≤ x1 then (spec_ComplexityOf.j1 k x0 x1 x5 x6 (decide (x1 ≤ 40))) else (spec_ComplexityOf.j1 k x0 x1 x5 x6 false)
def spec_ComplexityOf.j1 : Nat → List Int → Int → List Int → Int → Bool → Option (List Int)
 | 0, _, _, _, _, _ => none
 | k + 1, x0, x1, x5, x6, x15 => if x15 = true then ((spec_CountFactors.f k x0 x6).bind fun t601 => (if t601 < 0 then (some (([] : List Int))) else (if x5.length < 17592186044416 then (spec_ComplexityOf.l0 k x0 x1 (x5 ++ [t601]) (wrap64 (x6 + 1))) else (none)))) else (some x5)
end
def spec_ComplexityOf.f (k : Nat) (l0 : List Int) (a1 : Int) : Option (List Int) := spec_ComplexityOf.l0 k l0 a1 (([] : List Int)) 0
set_option maxHeartbeats 8000000 in
set_option maxRecDepth 100000 in
theorem spec_ComplexityOf.calls (k : Nat) (A0 : Option Addr) (c0 : Nat) (l0 : List Int) (a1 : Int) (r : List Int) (w : World) (hr0 : Kd.C (Kd.int .i64) w A0 l0.length l0) (hc0 : l0.length ≤ c0) (h : spec_ComplexityOf.f k l0 a1 = some r) :
  Calls Try.prog 34 #[.slice A0 l0.length c0, .int .i64 a1] w fun e w' => ∃ v0_ : Value, e = .returned (v0_) ∧ Kd.R (Kd.int .i64) 3 w' w.heap.size (fun _ => True) v0_ r ∧ Below w.heap.size w w' := by
 have HR0 := aM hr0; have HC0 := aM hc0; clear hr0 hc0; have HB := aM (Below.refl w.heap.size w); have H : (spec_ComplexityOf.l0 k l0 a1 (([] : List Int)) 0) = some r := h; clear h; obtain ⟨y598, hy598⟩ : ∃ y_ : List Int, y_ = (([] : List Int)) := ⟨_, rfl⟩; replace H : (spec_ComplexityOf.l0 k l0 a1 y598 0) = some r := by rw [hy598]; first | exact H | exact (Option.bind_some _ _).symm.trans H
 have Ny598 := aM hy598; clear hy598; have H' := aM H; clear H; go_enter Try.func34, Try.ntmps34; go_wp2_with (first | ((with_reducible refine gate_dst (N := 8) rfl ?_); refine Kd.R_lit (Kd.int .i64) _ 3 ?hg (N := 8) ?hd (xs := ([] : List Int)) (inner := []) (ok := fun _ => True) (okp := fun _ => True) ?hr ?hp (fun _ hk => hk) trivial (Below.refl _ _) (Nat.le_refl _) (by simp) ?_; (case hd | hg => rfl); (case hr => go_simp <;> rfl); (case hp => exact (Reps.none _ _)); intro v599 w3 ho4 hb hg_ hnew_; clear hg_ hnew_; (first | rw [← Ny598.out] at ho4 | (simp only [Int.reduceToNat] at ho4; rw [← Ny598.out] at ho4)); have HO600 := aM (Kd.R_lower ho4 (bZ HB)); replace HB := bS HB hb; clear hb ho4)); go_loopg [5, 6] k (fun kq v5 v6 w' => ∃ (x5_1 : List Int) (x6_1 : Int), v6 = .int .i64 x6_1 ∧ Aside0 (spec_ComplexityOf.l0 kq l0 a1 x5_1 x6_1 = some r) ∧ Aside0 (kq ≤ k) ∧ Aside0 (Kd.R (Kd.int .i64) 3 w' w.heap.size (fun _ => True) v5 x5_1) ∧ Aside0 (Below w.heap.size w w'))
 case atStart => exact ⟨(y598), (0), (by first | rfl | (simp; done) | (simp [*]; done)), H', ⟨Nat.le_refl _⟩, ⟨by exact rR HO600⟩, ⟨by exact rB HB⟩⟩
 case round =>
  clear H'
  try clear p2
  try clear c3
  obtain ⟨x5_1, x6_1, rfl, HA, HK1, HO_5, HB⟩ := hrel; cases gk with
  | zero => exact absurd HA.out (by simp [spec_ComplexityOf.l0])
  | succ k1 =>
   have H := HA.out; clear HA; simp only [spec_ComplexityOf.l0] at H; have HC5 := aM H; clear H; go_upto_region 3 with (fail); go_cut [15] (fun v15 wc => ∃ (kq : Nat) (x15_4 : Bool), v15 = .bool x15_4 ∧ Aside0 (spec_ComplexityOf.j1 kq l0 a1 x5_1 x6_1 x15_4 = some r) ∧ Aside0 (kq ≤ k1) ∧ Aside0 (Kd.R (Kd.int .i64) 3 wc w.heap.size (fun _ => True) u5 x5_1) ∧ Aside0 (Below w.heap.size w wc))
   case first =>
    have H := HC5.out; clear HC5; by_cases c6 : x6_1 ≤ a1
    ·rw [if_pos c6] at H; have c6b0 : decide (x6_1 ≤ a1) = true := decide_eq_true c6; clear c6
     (first | rw [c6b0] | (simp only [i64_w, i32_w]; rw [c6b0]) | skip)
     have H' := aM H; clear H; go_wp2; go_meet
     case rel => exact ⟨_, (decide (a1 ≤ 40)), (by first | rfl | (simp; done) | (simp [*]; done)), H', ⟨by have := HK1.out; first | omega | exact Nat.le_refl _⟩, ⟨by exact rR HO_5⟩, ⟨by exact rB HB⟩⟩
    ·rw [if_neg c6] at H; have c6b0 : decide (x6_1 ≤ a1) = false := decide_eq_false c6; clear c6
     (first | rw [c6b0] | (simp only [i64_w, i32_w]; rw [c6b0]) | skip)
     have H' := aM H; clear H; go_wp2; go_meet
     case rel => exact ⟨_, (false), (by first | rfl | (simp; done) | (simp [*]; done)), H', ⟨by have := HK1.out; first | omega | exact Nat.le_refl _⟩, ⟨by exact rR HO_5⟩, ⟨by exact rB HB⟩⟩
   case rest =>
    clear HC5; (try clear p2); (try clear c3); (try clear c6); (try clear c6b0); (try clear p2)
    obtain ⟨kq, x15_4, rfl, HA, HJ4, HO_5, HB⟩ := hcut; cases kq with
    | zero => exact absurd HA.out (by simp [spec_ComplexityOf.j1])
    | succ kj4 =>
     have H := HA.out; clear HA; simp only [spec_ComplexityOf.j1] at H; by_cases c7 : x15_4 = true
     ·subst c7; have H1 : ((spec_CountFactors.f kj4 l0 x6_1).bind fun t601 => (if t601 < 0 then (some (([] : List Int))) else (if x5_1.length < 17592186044416 then (spec_ComplexityOf.l0 kj4 l0 a1 (x5_1 ++ [t601]) (wrap64 (x6_1 + 1))) else (none)))) = some r := by rw [if_pos rfl] at H; exact H
      clear H; have H := H1; clear H1; replace H := bE H; obtain ⟨t601, A80, H⟩ := H; replace H : (if t601 < 0 then (some (([] : List Int))) else (if x5_1.length < 17592186044416 then (spec_ComplexityOf.l0 kj4 l0 a1 (x5_1 ++ [t601]) (wrap64 (x6_1 + 1))) else (none))) = some r := H; have A8 := aM A80; clear A80; by_cases c9 : t601 < 0
      ·rw [if_pos c9] at H; have c9b0 : decide (t601 < 0) = true := decide_eq_true c9; clear c9; obtain ⟨y602, hy602⟩ : ∃ y_ : List Int, y_ = (([] : List Int)) := ⟨_, rfl⟩; replace H : (some y602) = some r := by rw [hy602]; first | exact H | exact (Option.bind_some _ _).symm.trans H
       have Ny602 := aM hy602; clear hy602; obtain rfl := Option.some.inj H; go_wp2_with (first | ((with_reducible refine gate_callee (f := 67) rfl ?_); refine goesL_ (some 20) rfl rfl Try.func67 (by kernel_rfl) rfl #[.slice A0 l0.length c0, .int .i64 x6_1] rfl (by (try simp only [mT, mC, mN]); first | done | rfl) ?_; (with_reducible refine (spec_CountFactors.calls kj4 _ _ l0 x6_1 t601 _ ?side1 ?side2 A8.out).mono ?_); (case side1 => exact xC ((Kd.C_below HR0.out HB.out))); (case side2 => exact HC0.out); rintro e w10 ⟨rfl, hb⟩; refine ⟨_, rfl, ?_⟩; replace HO_5 := aM (Kd.R_below (by exact rR HO_5) hb); replace HB := bS HB hb; clear hb) | ((with_reducible refine gate_dst (N := 23) rfl ?_); refine Kd.R_lit (Kd.int .i64) _ 3 ?hg (N := 23) ?hd (xs := ([] : List Int)) (inner := []) (ok := fun _ => True) (okp := fun _ => True) ?hr ?hp (fun _ hk => hk) trivial (Below.refl _ _) (Nat.le_refl _) (by simp) ?_; (case hd | hg => rfl); (case hr => go_simp <;> rfl); (case hp => exact (Reps.none _ _)); intro v603 w11 ho12 hb hg_ hnew_; clear hg_ hnew_; (first | rw [← Ny602.out] at ho12 | (simp only [Int.reduceToNat] at ho12; rw [← Ny602.out] at ho12)); have HO604 := aM (Kd.R_lower (Kd.R_new' ho12 (Kd.R_lt (by exact rR HO_5))) (bZ HB)); replace HO_5 := aM (Kd.R_elder' (by exact rR HO_5) (Kd.R_base ho12) hb); replace HB := bS HB hb; clear hb ho12)); go_ret; exact ⟨_, by first | rfl | (simp [errW_none, errW_some] <;> rfl) | (simp [*, errW_none, errW_some] <;> rfl), by exact xR (Kd.R_mono HO604.out (fun _ hk => trivial)), by exact rB HB⟩
      ·rw [if_neg c9] at H; have c9b0 : decide (t601 < 0) = false := decide_eq_false c9; clear c9; by_cases c13 : x5_1.length < 17592186044416
       ·rw [if_pos c13] at H; have LMc13 := aM c13; clear c13; obtain ⟨y605, hy605⟩ : ∃ y_ : List Int, y_ = (x5_1 ++ [t601]) := ⟨_, rfl⟩; replace H : (spec_ComplexityOf.l0 kj4 l0 a1 y605 (wrap64 (x6_1 + 1))) = some r := by rw [hy605]; first | exact H | exact (Option.bind_some _ _).symm.trans H
        have Ny605 := aM hy605; clear hy605; have H' := aM H; clear H; go_wp2_with (first | ((with_reducible refine gate_callee (f := 67) rfl ?_); refine goesL_ (some 20) rfl rfl Try.func67 (by kernel_rfl) rfl #[.slice A0 l0.length c0, .int .i64 x6_1] rfl (by (try simp only [mT, mC, mN]); first | done | rfl) ?_; (with_reducible refine (spec_CountFactors.calls kj4 _ _ l0 x6_1 t601 _ ?side1 ?side2 A8.out).mono ?_); (case side1 => exact xC ((Kd.C_below HR0.out HB.out))); (case side2 => exact HC0.out); rintro e w14 ⟨rfl, hb⟩; refine ⟨_, rfl, ?_⟩; replace HO_5 := aM (Kd.R_below (by exact rR HO_5) hb); replace HB := bS HB hb; clear hb) | ((with_reducible refine gate_builtin (b := .append) (xs := #[.tmp 24, .tmp 26]) rfl ?_); at_builtin; refine Kd.R_append (Kd.int .i64) (w0 := w) w.heap.size rfl (.tmp 24) (.tmp 26) 31 3 (.int .i64 0) 8 rfl Try.underlying31 info3 rfl (by decide) (by omega) u5 x5_1 t601 [.int .i64 t601] (fun _ => True) (fun _ => False) rfl rfl ?aP (fun _ hk => hk.elim) ?aF ?aO ?aB ?aS ?aL ?_; (case aP => exact rfl); (case aB => exact (by exact rB HB)); (case aF => exact (fun _ _ => trivial)); (case aO => exact (by exact rR HO_5)); (case aS => exact (bZ HB)); (case aL => have := LMc13.out; omega); intro v606 w15 ho hb hg hat; rw [← Ny605.out] at ho; replace HB := aM (hb); have HO607 := aM (ho); clear HO_5; clear ho hb hg hat)); go_roundg kj4
        case measure => have := HK1.out; have := HJ4.out; omega
        case rel => exact ⟨(y605), (wrap64 (x6_1 + 1)), (by first | rfl | (simp; done) | (simp [*]; done)), H', ⟨by have := HK1.out; have := HJ4.out; omega⟩, ⟨by exact rR HO607⟩, ⟨by exact rB HB⟩⟩
       ·rw [if_neg c13] at H; exact absurd H (by simp)
     ·replace c7 := Bool.eq_false_iff.mpr c7; subst c7; have H1 : (some x5_1) = some r := by rw [if_neg (show ¬ (false = true) by decide)] at H; exact H
      clear H; have H := H1; clear H1; obtain rfl := Option.some.inj H; go_wp2; go_ret; exact ⟨_, by first | rfl | (simp [errW_none, errW_some] <;> rfl) | (simp [*, errW_none, errW_some] <;> rfl), by exact rR HO_5, by exact rB HB⟩
def spec_CountLetters.l0 : Nat → List Int → Int → Int → Int → Option (Int)
 | 0, _, _, _, _ => none
 | k + 1, x0, x1, x5, x6 => if x6 < (x0.length : Int) then (if 0 ≤ x6 then (if (rd x0 x6) = x1 then (spec_CountLetters.l0 k x0 x1 (wrap64 (x5 + 1)) (wrap64 (x6 + 1))) else (spec_CountLetters.l0 k x0 x1 x5 (wrap64 (x6 + 1)))) else (none)) else (some x5)
def spec_CountLetters.f (k : Nat) (l0 : List Int) (a1 : Int) : Option (Int) := spec_CountLetters.l0 k l0 a1 0 0
set_option maxHeartbeats 8000000 in
set_option maxRecDepth 100000 in
theorem spec_CountLetters.calls (k : Nat) (A0 : Option Addr) (c0 : Nat) (l0 : List Int) (a1 : Int) (r : Int) (w : World) (hr0 : Kd.C (Kd.int .i64) w A0 l0.length l0) (hc0 : l0.length ≤ c0) (h : spec_CountLetters.f k l0 a1 = some r) :
  Calls Try.prog 38 #[.slice A0 l0.length c0, .int .i64 a1] w fun e w' => e = .returned (.int .i64 r) ∧ Drawn0 w w' := by
 have HR0 := aM hr0; have HC0 := aM hc0; clear hr0 hc0; have H : (spec_CountLetters.l0 k l0 a1 0 0) = some r := h; clear h; have H' := aM H; clear H; go_enter Try.func38, Try.ntmps38; go_wp2; go_loopg [5, 6] k (fun kq v5 v6 w' => ∃ (x5_1 : Int) (x6_1 : Int), v5 = .int .i64 x5_1 ∧ v6 = .int .i64 x6_1 ∧ Aside0 (spec_CountLetters.l0 kq l0 a1 x5_1 x6_1 = some r) ∧ Aside0 (kq ≤ k) ∧ Drawn0 w w')
 case atStart => exact ⟨(0), (0), (by first | rfl | (simp; done) | (simp [*]; done)), (by first | rfl | (simp; done) | (simp [*]; done)), H', ⟨Nat.le_refl _⟩, by repeat (first | exact Drawn0.refl _ | apply Drawn0.step)⟩
 case round =>
  clear H'
  try clear p2
  obtain ⟨x5_1, x6_1, rfl, rfl, HA, HK1, ⟨m1, rfl⟩⟩ := hrel; cases gk with
  | zero => exact absurd HA.out (by simp [spec_CountLetters.l0])
  | succ k1 =>
   have H := HA.out; clear HA; simp only [spec_CountLetters.l0] at H; by_cases c3 : x6_1 < (l0.length : Int)
   ·rw [if_pos c3] at H; have c3b0 : decide (x6_1 < (l0.length : Int)) = true := decide_eq_true c3; clear c3; by_cases c4 : 0 ≤ x6_1
    ·rw [if_pos c4] at H; have c4b0 : decide (0 ≤ x6_1) = true := decide_eq_true c4; clear c4; by_cases c5 : (rd l0 x6_1) = a1
     ·rw [if_pos c5] at H; have c5b0 : ((rd l0 x6_1) == a1) = true := beq_iff_eq.mpr c5; have c5b1 : ((rd l0 x6_1) != a1) = false := bne_eq_false_iff_eq.mpr c5; clear c5; have H' := aM H; clear H; have p608 : 0 ≤ (x6_1 : Int) := oD; have q608 : x6_1 < (l0.length : Int) := oD; obtain ⟨ad608, e608, hx608_0⟩ := Kd.at_int HR0.out x6_1 p608 q608; cases e608; replace p608 := eq_true p608; replace q608 := eq_true q608; go_wp2; go_roundg k1
      case measure => have := HK1.out; omega
      case rel => exact ⟨(wrap64 (x5_1 + 1)), (wrap64 (x6_1 + 1)), (by first | rfl | (simp; done) | (simp [*]; done)), (by first | rfl | (simp; done) | (simp [*]; done)), H', ⟨by have := HK1.out; omega⟩, by repeat (first | exact Drawn0.refl _ | apply Drawn0.step)⟩
     ·rw [if_neg c5] at H; have c5b0 : ((rd l0 x6_1) == a1) = false := beq_eq_false_iff_ne.mpr c5; have c5b1 : ((rd l0 x6_1) != a1) = true := bne_iff_ne.mpr c5; have H' := aM H; clear H; have p608 : 0 ≤ (x6_1 : Int) := oD; have q608 : x6_1 < (l0.length : Int) := oD; obtain ⟨ad608, e608, hx608_0⟩ := Kd.at_int HR0.out x6_1 p608 q608; cases e608; replace p608 := eq_true p608; replace q608 := eq_true q608; go_wp2; go_roundg k1
      case measure => have := HK1.out; omega
      case rel => exact ⟨(x5_1), (wrap64 (x6_1 + 1)), (by first | rfl | (simp; done) | (simp [*]; done)), (by first | rfl | (simp; done) | (simp [*]; done)), H', ⟨by have := HK1.out; omega⟩, by repeat (first | exact Drawn0.refl _ | apply Drawn0.step)⟩
    ·rw [if_neg c4] at H; exact absurd H (by simp)
   ·rw [if_neg c3] at H; have c3b0 : decide (x6_1 < (l0.length : Int)) = false := decide_eq_false c3; clear c3; obtain rfl := Option.some.inj H; go_wp2; go_ret; exact ⟨by first | rfl | (simp; done) | (simp [*]; done), by repeat (first | exact Drawn0.refl _ | apply Drawn0.step)⟩
end Go.Proofs.Ytdekenijnbhpfaa.M
