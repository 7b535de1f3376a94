/- What the laid package-level variables hold, as one fact on the world that no growth turns. -/
import Derived.Test.YtiooajpbpffcnaaGreatDoorProg
import Derived.Below
import Derived.Lib.LaidTab
import Derived.Lib.SmallJoins
import Derived.WalkKit
namespace Go.Proofs.YtiooajpbpffcnaaGreatDoor.Base
open Go Go.RowKit

/-- The cells of the units of spans. -/
def unitRow : List Value := [.string ⟨#[119]⟩, .int .i64 604800000000000, .string ⟨#[100]⟩, .int .i64 86400000000000, .string ⟨#[104]⟩, .int .i64 3600000000000, .string ⟨#[109]⟩, .int .i64 60000000000, .string ⟨#[115]⟩, .int .i64 1000000000, .string ⟨#[109, 115]⟩, .int .i64 1000000, .string ⟨#[117, 115]⟩, .int .i64 1000, .string ⟨#[110, 115]⟩, .int .i64 1]
/-- The variables' cells. -/
structure Globs (w : World) : Prop where
  size : 7 ≤ w.heap.size
  units : ∀ i v, unitRow[i]? = some v → w.cell? ⟨0, i, none⟩ = some v

theorem cell_lt {w : World} {a : Addr} {v : Value} (h : w.cell? a = some v) : a.block < w.heap.size := by
  rcases Nat.lt_or_ge a.block w.heap.size with h0 | h0
  · exact h0
  · simp [World.cell?, Array.getElem?_eq_none h0] at h
theorem Globs.below {w w' : World} (h : Globs w) (hb : Below w.heap.size w w') : Globs w' := {
  size := Nat.le_trans h.size hb.size
  units := fun i v hv => (hb.cell (cell_lt (h.units i v hv))).trans (h.units i v hv) }
theorem isE (l : List UInt8) : (l == []) = l.isEmpty := by cases l <;> rfl
/-! Short names, for long printed proofs. -/
theorem q1 {α : Type} (l : List α) (i : Nat) (a : α) : l.toArray.setIfInBounds i a = (l.set i a).toArray := List.setIfInBounds_toArray l i a
theorem q2 {α : Type} (a : α) (l : List α) (b : α) : (a :: l).set 0 b = b :: l := List.set_cons_zero
theorem q3 {α : Type} (a : α) (l : List α) (n : Nat) (b : α) : (a :: l).set (n + 1) b = a :: l.set n b := List.set_cons_succ
theorem q4 {α β : Type} (f : α → β) (l : List α) : l.toArray.map f = (l.map f).toArray := List.map_toArray
theorem q5 {α β : Type} (f : α → β) (a : α) (l : List α) : (a :: l).map f = f a :: l.map f := List.map_cons
theorem q6 {α β : Type} (f : α → β) : ([] : List α).map f = [] := List.map_nil
end Go.Proofs.YtiooajpbpffcnaaGreatDoor.Base
