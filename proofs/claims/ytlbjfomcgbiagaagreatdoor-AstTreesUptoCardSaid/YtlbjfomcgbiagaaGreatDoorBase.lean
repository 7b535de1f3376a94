/- What the laid package-level variables hold, as one fact on the world that no growth turns. -/
import Derived.Test.YtlbjfomcgbiagaaGreatDoorProg
import Derived.Below
import Derived.Lib.LaidTab
import Derived.Lib.SmallJoins
import Derived.Shelf.Unicode.DecodeSlow
import Derived.Lib.ItoaNum
import Derived.Lib.ItoaMem
import Derived.Lib.AppendIntMem
import Derived.Shelf.Strconv.Itoa4
set_option linter.unusedSimpArgs false
set_option linter.unusedVariables false
namespace Go.Proofs.YtlbjfomcgbiagaaGreatDoor.Base
open Go Go.RowKit Go.Joins

/-- The variables' cells. -/
structure Globs (w : World) : Prop where
  err : w.cell? ⟨0, 0, none⟩ = some (.iface 132 (.agg #[.pointer (some ⟨8, 25, none⟩)]))
  pow : Lib.TabIs Tryz.prog w "internal/strconv.uint64pow10" .u64 Lib.pow10Tab
  utf : Lib.Utf8Tabs 2 3 w

theorem cell_lt {w : World} {a : Addr} {v : Value} (h : w.cell? a = some v) : a.block < w.heap.size := by
  rcases Nat.lt_or_ge a.block w.heap.size with h0 | h0
  · exact h0
  · simp [World.cell?, Array.getElem?_eq_none h0] at h
theorem Globs.below {w w' : World} (h : Globs w) (hb : Below w.heap.size w w') : Globs w' := {
  err := (hb.cell (cell_lt h.err)).trans h.err
  pow := tab_stays (g := 4) (by kernel_rfl) h.pow hb (Nat.le_refl _)
  utf := Utf8Tabs_below h.utf hb }
theorem isE (l : List UInt8) : (l == []) = l.isEmpty := by cases l <;> rfl
/-! Texts: the order that '>' asks. -/
theorem text_irrefl : ∀ a : List UInt8, Op.bytesLess a a = false
  | [] => rfl
  | x :: a => by unfold Op.bytesLess; rw [text_irrefl a]; simp
theorem text_asymm : ∀ a b : List UInt8, Op.bytesLess a b = true → Op.bytesLess b a = false
  | a, [], h => by cases a <;> cases h
  | [], y :: b, _ => rfl
  | x :: a, y :: b, h => by
    unfold Op.bytesLess at h ⊢
    simp only [Bool.or_eq_true, decide_eq_true_eq, Bool.and_eq_true, beq_iff_eq, UInt8.lt_iff_toNat_lt, Bool.or_eq_false_iff, decide_eq_false_iff_not, Bool.and_eq_false_imp] at h ⊢
    rcases h with h | ⟨h, h2⟩
    · exact ⟨by omega, fun e => by subst e; omega⟩
    · subst h; exact ⟨by omega, fun _ => text_asymm a b h2⟩
theorem text_eq : ∀ {a b : List UInt8}, Op.bytesLess a b = false → Op.bytesLess b a = false → a = b
  | [], [], _, _ => rfl
  | [], y :: b, h, _ => by cases h
  | x :: a, [], _, h => by cases h
  | x :: a, y :: b, h1, h2 => by
    unfold Op.bytesLess at h1 h2
    simp only [Bool.or_eq_false_iff, decide_eq_false_iff_not, Bool.and_eq_false_imp, beq_iff_eq, UInt8.lt_iff_toNat_lt] at h1 h2
    have e : x = y := by rw [← UInt8.toNat_inj]; omega
    subst e
    rw [text_eq (h1.2 rfl) (h2.2 rfl)]
theorem gtr_text (t : TypeId) (a b : ByteArray) : binOp .gtr t (.string a) (.string b) = pure (.bool (Op.bytesLess b.toList a.toList)) := by
  have h : binOp .gtr t (.string a) (.string b) = pure (.bool !(Op.bytesLess a.toList b.toList || a.toList == b.toList)) := by simp [binOp, Op.stringOp]
  rw [h]
  congr 2
  cases h1 : Op.bytesLess a.toList b.toList with
  | true => rw [text_asymm _ _ h1]; rfl
  | false =>
    cases h2 : Op.bytesLess b.toList a.toList with
    | true =>
      have : (a.toList == b.toList) = false := by rw [beq_eq_false_iff_ne]; intro e; rw [e, text_irrefl] at h2; cases h2
      rw [this]; rfl
    | false => rw [text_eq h1 h2]; simp
/-! Short names, for long printed proofs. -/
theorem q1 {α : Type} (l : List α) (i : Nat) (a : α) : l.toArray.setIfInBounds i a = (l.set i a).toArray := List.setIfInBounds_toArray l i a
theorem q2 {α : Type} (a : α) (l : List α) (b : α) : (a :: l).set 0 b = b :: l := List.set_cons_zero
theorem q3 {α : Type} (a : α) (l : List α) (n : Nat) (b : α) : (a :: l).set (n + 1) b = a :: l.set n b := List.set_cons_succ
theorem q4 {α β : Type} (f : α → β) (l : List α) : l.toArray.map f = (l.map f).toArray := List.map_toArray
theorem q5 {α β : Type} (f : α → β) (a : α) (l : List α) : (a :: l).map f = f a :: l.map f := List.map_cons
theorem q6 {α β : Type} (f : α → β) : ([] : List α).map f = [] := List.map_nil
end Go.Proofs.YtlbjfomcgbiagaaGreatDoor.Base
