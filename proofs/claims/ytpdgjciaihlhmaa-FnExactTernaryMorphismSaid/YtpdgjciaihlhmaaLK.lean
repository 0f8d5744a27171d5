/- Blocks of memory that were made between two moments. No condition. -/
import Derived.Test.YtpdgjciaihlhmaaWMore
import Derived.Test.YtpdgjciaihlhmaaWApart
import Derived.Below
import Derived.Test.YtpdgjciaihlhmaaWKept
namespace Go.Proofs.Ytpdgjciaihlhmaa.LK
/-- A block made between two moments. -/
abbrev Blk (a b j : Nat) : Prop := a ≤ j ∧ j < b
open Go.RowKit Go.Proofs.YtpdgjciaihlhmaaW.PrintWords
theorem S_at {α : Type} {d : Kd α} {e base : Nat} {ok : Nat → Prop} {w w' : World} {v : Value} {xs : List α} (h : Kd.S d e w base ok v xs) (q : w = w') : Kd.S d e w' base ok v xs := q ▸ h
theorem R_at {α : Type} {d : Kd α} {e base : Nat} {ok : Nat → Prop} {w w' : World} {v : Value} {xs : List α} (h : Kd.R d e w base ok v xs) (q : w = w') : Kd.R d e w' base ok v xs := q ▸ h
theorem below_at {b : Nat} {w0 w w' : World} (h : Below b w0 w) (q : w = w') : Below b w0 w' := q ▸ h
theorem cell_alloc {w : World} {p : Addr} {v : Value} (h : w.cell? p = some v) (o : Obj) : (w.alloc o).cell? p = some v := pw_cell_below (below_alloc (Below.refl _ _) o) h
theorem cell_drewN {w : World} {p : Addr} {v : Value} (h : w.cell? p = some v) (n : Nat) : (w.drewN n).cell? p = some v := h
theorem cell_kept {w w1 : World} {p : Addr} {v : Value} {S : Nat → Prop} (h : w.cell? p = some v) (hk : Kept w w1 S) (hn : ¬ S p.block) : w1.cell? p = some v := by
  have := hk.2 p.block (World.block_lt_of_cell? w p h) hn
  simpa [World.cell?, this] using h
end Go.Proofs.Ytpdgjciaihlhmaa.LK
