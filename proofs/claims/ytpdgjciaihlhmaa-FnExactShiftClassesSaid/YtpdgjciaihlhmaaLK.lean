/- Blocks of memory that were made between two moments. No condition. -/
import Derived.Test.YtpdgjciaihlhmaaWMore
import Derived.Test.YtpdgjciaihlhmaaWApart
import Derived.Below
namespace Go.Proofs.Ytpdgjciaihlhmaa.LK
/-- A block made between two moments. -/
abbrev Blk (a b j : Nat) : Prop := a ≤ j ∧ j < b
open Go.RowKit Go.Proofs.YtpdgjciaihlhmaaW.PrintWords
theorem S_at {α : Type} {d : Kd α} {e base : Nat} {ok : Nat → Prop} {w w' : World} {v : Value} {xs : List α} (h : Kd.S d e w base ok v xs) (q : w = w') : Kd.S d e w' base ok v xs := q ▸ h
theorem R_at {α : Type} {d : Kd α} {e base : Nat} {ok : Nat → Prop} {w w' : World} {v : Value} {xs : List α} (h : Kd.R d e w base ok v xs) (q : w = w') : Kd.R d e w' base ok v xs := q ▸ h
theorem below_at {b : Nat} {w0 w w' : World} (h : Below b w0 w) (q : w = w') : Below b w0 w' := q ▸ h
end Go.Proofs.Ytpdgjciaihlhmaa.LK
