/- What the laid package-level variables hold, as one fact on the world that no growth turns. -/
import Derived.Test.YtabhhfpfdndidaaGreatDoorProg
import Derived.Below
import Derived.Lib.LaidTab
import Derived.Lib.SmallJoins
import Derived.Shelf.Unicode.DecodeSlow
import Derived.Lib.ItoaNum
import Derived.Lib.ItoaMem
import Derived.Lib.AppendIntMem
import Derived.Shelf.Strconv.Itoa4
namespace Go.Proofs.YtabhhfpfdndidaaGreatDoor.Base
open Go Go.RowKit Go.Joins

/-- The variables' cells. -/
structure Globs (w : World) : Prop where
  err : w.cell? ⟨0, 0, none⟩ = some (.iface 246 (.agg #[.pointer (some ⟨8, 84, none⟩)]))
  pow : Lib.TabIs Tryz.prog w "internal/strconv.uint64pow10" .u64 Lib.pow10Tab
  utf : Lib.Utf8Tabs 2 3 w

theorem cell_lt {w : World} {a : Addr} {v : Value} (h : w.cell? a = some v) : a.block < w.heap.size := by
  rcases Nat.lt_or_ge a.block w.heap.size with h0 | h0
  · exact h0
  · simp [World.cell?, Array.getElem?_eq_none h0] at h
theorem Globs.below {w w' : World} (h : Globs w) (hb : Below w.heap.size w w') : Globs w' := {
  err := (hb.cell (cell_lt h.err)).trans h.err
  pow := tab_stays (g := 4) (by kernel_rfl) h.pow hb (Nat.le_refl _)
  utf := Utf8Tabs_below h.utf hb }
theorem isE (l : List UInt8) : (l == []) = l.isEmpty := by cases l <;> rfl
/-! Short names, for long printed proofs. -/
theorem q1 {α : Type} (l : List α) (i : Nat) (a : α) : l.toArray.setIfInBounds i a = (l.set i a).toArray := List.setIfInBounds_toArray l i a
theorem q2 {α : Type} (a : α) (l : List α) (b : α) : (a :: l).set 0 b = b :: l := List.set_cons_zero
theorem q3 {α : Type} (a : α) (l : List α) (n : Nat) (b : α) : (a :: l).set (n + 1) b = a :: l.set n b := List.set_cons_succ
theorem q4 {α β : Type} (f : α → β) (l : List α) : l.toArray.map f = (l.map f).toArray := List.map_toArray
theorem q5 {α β : Type} (f : α → β) (a : α) (l : List α) : (a :: l).map f = f a :: l.map f := List.map_cons
theorem q6 {α β : Type} (f : α → β) : ([] : List α).map f = [] := List.map_nil
end Go.Proofs.YtabhhfpfdndidaaGreatDoor.Base
