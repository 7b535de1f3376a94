/- How the document's answer reads a cell's name, in plain Lean: the same as cell.Parse. -/
import Derived.Test.YthfkednlgehchaaGreatDoorBackPure
set_option linter.unusedSimpArgs false
namespace Go.Am
open Go

/-- The groups, read as the document's answer does: what is left, too. -/
def readR : Nat → List UInt8 → Option (List (List UInt8) × List UInt8)
  | 0, _ => none
  | f + 1, l => match l with
    | [] => some ([], [])
    | c :: r => if c == 44 then match unesc r with
        | none => none
        | some (g, k) => (readR f (r.drop k)).map fun x => (g :: x.1, x.2)
      else some ([], c :: r)
theorem readR_nil (f : Nat) : readR (f + 1) [] = some ([], []) := rfl
theorem readR_other (f : Nat) {c : UInt8} (r : List UInt8) (h : c ≠ 44) : readR (f + 1) (c :: r) = some ([], c :: r) := by
  rw [readR]
  have : (c == 44) = false := by simpa using h
  simp [this]
theorem readR_none (f : Nat) {r : List UInt8} (h : unesc r = none) : readR (f + 1) (44 :: r) = none := by
  rw [readR]
  simp [h]
theorem readR_some (f : Nat) {r : List UInt8} {g : List UInt8} {k : Nat} (h : unesc r = some (g, k)) : readR (f + 1) (44 :: r) = (readR f (r.drop k)).map fun x => (g :: x.1, x.2) := by
  rw [readR]
  simp [h]
theorem readR_tail : ∀ (gs : List (List UInt8)) (f : Nat), gs.length < f → readR f (tailB gs) = some (gs, [])
  | [], f + 1, _ => rfl
  | g :: gs, f + 1, h => by
    simp only [List.length_cons] at h
    rw [tail_cons, readR_some f (unesc_esc _ (tail_head gs) g), List.drop_left, readR_tail gs f (by omega)]
    rfl

theorem take_none {l : List UInt8} (h : ∀ c ∈ l, c ≠ 44) (X : List UInt8) (hX : X = [] ∨ ∃ r, X = 44 :: r) : (l ++ X).takeWhile (· != 44) = l ∧ (l ++ X).dropWhile (· != 44) = X := by
  induction l with
  | nil =>
    rcases hX with rfl | ⟨r, rfl⟩
    · exact ⟨rfl, rfl⟩
    · simp
  | cons c l ih =>
    have hc : (c != 44) = true := by simpa using h c (by simp)
    obtain ⟨h1, h2⟩ := ih fun d hd => h d (by simp [hd])
    rw [List.cons_append, List.takeWhile_cons, List.dropWhile_cons, hc]
    simp only [if_true, h1, h2, and_self]

/-- The document's Parse, behind its ParseInt (m: what that gives, an error or not). -/
def finR (s : List UInt8) (m : Int) : Option (List (List UInt8) × List UInt8) → Option (Int × List (List UInt8))
  | some (gs, []) => if nameB m gs = s then some (m, gs) else none
  | _ => none
theorem ref_parse (s : List UInt8) (m : Int) (hm : -9223372036854775808 ≤ m ∧ m ≤ 9223372036854775807) (hp : ∀ n, Lib.parseIntB 64 (s.takeWhile (· != 44)) = .ok n → m = n) (f : Nat) (hf : s.length < f) :
    finR s m (readR f (s.dropWhile (· != 44))) = parseB s := by
  cases hs : parseB s with
  | some x =>
    obtain ⟨n, gs⟩ := x
    have hn := parse_said hs
    obtain ⟨h1, h2⟩ := take_none (itoa_byte n) (tailB gs) (tail_head gs)
    have hb : -9223372036854775808 ≤ n ∧ n ≤ 9223372036854775807 := by
      unfold parseB at hs
      split at hs
      · rename_i k hk
        have hb := Lib.parseIntB_bounds hk
        have e : (2 : Nat) ^ (64 - 1) = 9223372036854775808 := by decide
        rw [e] at hb
        split at hs
        · split at hs
          · cases hs; omega
          · cases hs
        · cases hs
      · cases hs
    unfold nameB at hn
    rw [← hn] at hp ⊢
    rw [h1] at hp
    rw [h2]
    obtain rfl := hp n (int_back n hb.1 hb.2)
    have hl : gs.length < f := by
      have := tail_len gs
      rw [← hn, List.length_append] at hf
      omega
    rw [readR_tail gs f hl]
    exact if_pos rfl
  | none =>
    unfold finR
    split
    · rename_i gs hr
      split
      · rename_i hn
        have := parse_name m hm.1 hm.2 gs
        rw [hn, hs] at this
        cases this
      · rfl
    · rfl
end Go.Am
