/- The window of a time and the groups of a cell, in plain Lean. -/
import Derived.Test.YthfkednlgehchaaGreatDoorName2
set_option linter.unusedVariables false
set_option linter.unusedSimpArgs false
namespace Go.Proofs.YthfkednlgehchaaGreatDoor.Of
open Go Go.RowKit Go.Proofs Go.Am Go.Proofs.YthfkednlgehchaaGreatDoor.Name

/-- An int64. -/
abbrev I64 (n : Int) : Prop := -9223372036854775808 ≤ n ∧ n ≤ 9223372036854775807
/-- How far a window's start lies behind a time. -/
def back (t e o : Int) : Int := if t % e - o < 0 then t % e - o + e else t % e - o
theorem mod_bounds (t : Int) {e : Int} (he : 1 ≤ e) : 0 ≤ t % e ∧ t % e < e := ⟨Int.emod_nonneg _ (by omega), Int.emod_lt_of_pos _ (by omega)⟩
theorem back_bounds (t : Int) {e o : Int} (he : 1 ≤ e) (h0 : 0 ≤ o) (h1 : o < e) : 0 ≤ back t e o ∧ back t e o < e := by
  obtain ⟨h2, h3⟩ := mod_bounds t he
  unfold back
  split <;> omega
/-- The remainder that is cut towards zero, and the one that is not. -/
theorem tmod_mod (t : Int) {e : Int} (he : 1 ≤ e) : t % e = if t.tmod e < 0 then t.tmod e + e else t.tmod e := by
  obtain ⟨h2, h3⟩ := mod_bounds t he
  have e1 : (e.natAbs : Int) = e := by omega
  have h4 := Int.tmod_eq_emod (a := t) (b := e)
  by_cases h : 0 ≤ t ∨ e ∣ t
  · rw [if_pos h] at h4
    rw [if_neg (by omega)]
    omega
  · rw [if_neg h] at h4
    rw [if_pos (by omega)]
    omega
theorem tmod_bounds (t : Int) {e : Int} (he : 1 ≤ e) : -e ≤ t.tmod e ∧ t.tmod e < e := by
  obtain ⟨h2, h3⟩ := mod_bounds t he
  have h5 := tmod_mod t he
  by_cases h : t.tmod e < 0
  · rw [if_pos h] at h5
    omega
  · rw [if_neg h] at h5
    omega
/-- A window's start; none: it lies ahead of all times. -/
def win (t e o : Int) : Option Int := if t - back t e o < -9223372036854775808 then none else some (t - back t e o)
/-- What Of tells: an error's number, or a start. -/
def ofP (e o t : Int) : Except Int Int := if e < 1 ∨ 288230376151711744 < e ∨ o < 0 ∨ e ≤ o then .error 155 else match win t e o with
  | none => .error 2
  | some s => .ok s
/-- A tag's value. -/
def valOf : List (ByteArray × ByteArray) → ByteArray → ByteArray
  | [], _ => ⟨#[]⟩
  | t :: ts, n => if t.1 = n then t.2 else valOf ts n
/-- The values of some tags. -/
def grp (ts : List (ByteArray × ByteArray)) (gs : List ByteArray) : List ByteArray := gs.map (valOf ts)

/-- A slice of tags, in a world. -/
def Tags (w : World) (sl : Value) (ts : List (ByteArray × ByteArray)) : Prop :=
  ∃ b o c, ts.length ≤ c ∧ (ts = [] ∧ (∃ A, sl = .slice A 0 c) ∨ (sl = .slice (some ⟨b, o, none⟩) ts.length c ∧ b < w.heap.size ∧ ∀ (i : Nat) (t : ByteArray × ByteArray), ts[i]? = some t → w.cell? ⟨b, o + i * 2, none⟩ = some (.string t.1) ∧ w.cell? ⟨b, o + i * 2 + 1, none⟩ = some (.string t.2)))
theorem Tags.below {w w' : World} {sl : Value} {ts : List (ByteArray × ByteArray)} (h : Tags w sl ts) (hb : Below w.heap.size w w') : Tags w' sl ts := by
  obtain ⟨b, o, c, h1, h3⟩ := h
  refine ⟨b, o, c, h1, ?_⟩
  rcases h3 with h3 | ⟨h3, h4, h5⟩
  · exact .inl h3
  · exact .inr ⟨h3, Nat.lt_of_lt_of_le h4 hb.size, fun i g hi => ⟨(hb.cell (p := ⟨b, o + i * 2, none⟩) h4).trans (h5 i g hi).1, (hb.cell (p := ⟨b, o + i * 2 + 1, none⟩) h4).trans (h5 i g hi).2⟩⟩
/-- The two shapes of a slice. -/
theorem Tags.shape {w : World} {sl : Value} {ts : List (ByteArray × ByteArray)} (h : Tags w sl ts) : (ts = [] ∧ ∃ A c, sl = .slice A 0 c) ∨ (ts ≠ [] ∧ ∃ b o c, sl = .slice (some ⟨b, o, none⟩) ts.length c ∧ b < w.heap.size ∧ ∀ (i : Nat) (t : ByteArray × ByteArray), ts[i]? = some t → w.cell? ⟨b, o + i * 2, none⟩ = some (.string t.1) ∧ w.cell? ⟨b, o + i * 2 + 1, none⟩ = some (.string t.2)) := by
  obtain ⟨b, o, c, h1, h3⟩ := h
  by_cases he : ts = []
  · refine .inl ⟨he, ?_⟩
    rcases h3 with ⟨_, A, h3⟩ | ⟨h3, _⟩
    · exact ⟨A, c, h3⟩
    · exact ⟨_, c, by rw [h3, he]; rfl⟩
  · refine .inr ⟨he, ?_⟩
    rcases h3 with ⟨h3, _⟩ | h3
    · exact (he h3).elim
    · exact ⟨b, o, c, h3⟩
theorem strs_shape {w : World} {sl : Value} {gs : List ByteArray} (h : Strs w sl gs) : (gs = [] ∧ ∃ A c, sl = .slice A 0 c) ∨ (gs ≠ [] ∧ ∃ b o c, sl = .slice (some ⟨b, o, none⟩) gs.length c ∧ b < w.heap.size ∧ ∀ (i : Nat) (g : ByteArray), gs[i]? = some g → w.cell? ⟨b, o + i, none⟩ = some (.string g)) := by
  obtain ⟨b, o, c, h1, h3⟩ := h
  by_cases he : gs = []
  · refine .inl ⟨he, ?_⟩
    rcases h3 with ⟨_, A, h3, _⟩ | ⟨h3, _⟩
    · exact ⟨A, c, h3⟩
    · exact ⟨_, c, by rw [h3, he]; rfl⟩
  · refine .inr ⟨he, ?_⟩
    rcases h3 with ⟨h3, _⟩ | h3
    · exact (he h3).elim
    · exact ⟨b, o, c, h3⟩
theorem valOf_drop_yes {ts : List (ByteArray × ByteArray)} {k : Nat} {t : ByteArray × ByteArray} {n : ByteArray} (h : ts[k]? = some t) (he : t.1 = n) : valOf (ts.drop k) n = t.2 := by
  obtain ⟨hl, rfl⟩ := List.getElem?_eq_some_iff.1 h
  rw [List.drop_eq_getElem_cons hl, valOf, if_pos he]
theorem valOf_drop_no {ts : List (ByteArray × ByteArray)} {k : Nat} {t : ByteArray × ByteArray} {n : ByteArray} (h : ts[k]? = some t) (he : t.1 ≠ n) : valOf (ts.drop k) n = valOf (ts.drop (k + 1)) n := by
  obtain ⟨hl, rfl⟩ := List.getElem?_eq_some_iff.1 h
  rw [List.drop_eq_getElem_cons hl, valOf, if_neg he]
theorem text_ne {a b : ByteArray} (h : a ≠ b) : (a.toList == b.toList) = false := by
  rw [ByteArray.toList_eq, ByteArray.toList_eq, beq_eq_false_iff_ne]
  exact fun e => h (ByteArray.ext (Array.ext' e))
end Go.Proofs.YthfkednlgehchaaGreatDoor.Of
