/- A cell's name, there and back, in plain Lean. -/
import Derived.Lib.IndexMore
import Derived.Lib.ParseIntBTie
import Derived.Lib.ItoaNum
set_option linter.unusedSimpArgs false
namespace Go.Am
open Go

/-- Is a byte escaped? -/
def sp (c : UInt8) : Bool := c == 44 || c == 32 || c == 61 || c == 92
/-- key.Escape -/
def esc : List UInt8 → List UInt8
  | [] => []
  | c :: r => if sp c then 92 :: c :: esc r else c :: esc r
/-- key.Unescape: what is read, how many bytes; none: an error. -/
def unesc : List UInt8 → Option (List UInt8 × Nat)
  | [] => some ([], 0)
  | [c] => if c == 92 then none else if sp c then some ([], 0) else some ([c], 1)
  | c :: d :: r => if c == 92 then (if sp d then (unesc r).map fun x => (d :: x.1, x.2 + 2) else none) else if sp c then some ([], 0) else (unesc (d :: r)).map fun x => (c :: x.1, x.2 + 1)

theorem unesc_nil : unesc [] = some ([], 0) := by rw [unesc]
theorem unesc_bs_nil : unesc [92] = none := by rw [unesc]; rfl
theorem unesc_bs (d : UInt8) (r : List UInt8) : unesc (92 :: d :: r) = if sp d then (unesc r).map fun x => (d :: x.1, x.2 + 2) else none := by rw [unesc]; rfl
theorem unesc_stop {c : UInt8} (r : List UInt8) (h : sp c = true) (h2 : c ≠ 92) : unesc (c :: r) = some ([], 0) := by
  cases r <;> rw [unesc] <;> simp [h, h2]
theorem unesc_step {c : UInt8} (r : List UInt8) (h : sp c = false) : unesc (c :: r) = (unesc r).map fun x => (c :: x.1, x.2 + 1) := by
  have h2 : c ≠ 92 := by rintro rfl; cases h
  cases r with
  | nil => rw [unesc_nil, unesc]; simp [h, h2]
  | cons d r => rw [unesc]; simp [h, h2]

theorem unesc_le : ∀ (n : Nat) (l : List UInt8), l.length ≤ n → ∀ g k, unesc l = some (g, k) → k ≤ l.length
  | _, [], _, g, k, h => by rw [unesc_nil] at h; cases h; exact Nat.le_refl _
  | n + 1, c :: r, hn, g, k, h => by
    simp only [List.length_cons] at hn ⊢
    by_cases h92 : c = 92
    · subst h92
      cases r with
      | nil => rw [unesc_bs_nil] at h; cases h
      | cons d r =>
        rw [unesc_bs] at h
        split at h
        · cases hu : unesc r with
          | none => rw [hu] at h; cases h
          | some x =>
            rw [hu] at h
            simp only [Option.map_some, Option.some.injEq, Prod.mk.injEq] at h
            simp only [List.length_cons] at hn ⊢
            have := unesc_le n r (by omega) x.1 x.2 hu
            omega
        · cases h
    · cases hs : sp c with
      | true => rw [unesc_stop r hs h92] at h; cases h; exact Nat.zero_le _
      | false =>
        rw [unesc_step r hs] at h
        cases hu : unesc r with
        | none => rw [hu] at h; cases h
        | some x =>
          rw [hu] at h
          simp only [Option.map_some, Option.some.injEq, Prod.mk.injEq] at h
          have := unesc_le n r (by omega) x.1 x.2 hu
          omega

theorem unesc_esc (X : List UInt8) (hX : X = [] ∨ ∃ r, X = 44 :: r) : ∀ g : List UInt8, unesc (esc g ++ X) = some (g, (esc g).length)
  | [] => by
    rcases hX with rfl | ⟨r, rfl⟩
    · rw [esc, List.append_nil, unesc_nil]; rfl
    · rw [esc, List.nil_append, unesc_stop r (by decide) (by decide)]; rfl
  | c :: r => by
    rw [esc]
    cases hs : sp c with
    | true =>
      simp only [if_true, List.cons_append]
      rw [unesc_bs, hs, unesc_esc X hX r]
      simp
    | false =>
      simp only [Bool.false_eq_true, if_false, List.cons_append]
      rw [unesc_step _ hs, unesc_esc X hX r]
      simp
theorem esc_len (g : List UInt8) : (esc g).length ≤ 2 * g.length := by
  induction g with
  | nil => exact Nat.le_refl _
  | cons c r ih =>
    rw [esc]
    split <;> simp only [List.length_cons] <;> omega

/-- The groups' part of a name. -/
def tailB (gs : List (List UInt8)) : List UInt8 := (gs.map fun g => 44 :: esc g).flatten
theorem tail_cons (g : List UInt8) (gs : List (List UInt8)) : tailB (g :: gs) = 44 :: (esc g ++ tailB gs) := by simp [tailB]
/-- A cell's name. -/
def nameB (n : Int) (gs : List (List UInt8)) : List UInt8 := Lib.itoa n ++ tailB gs
/-- The groups, read. -/
def groups : Nat → List UInt8 → Option (List (List UInt8))
  | 0, _ => none
  | f + 1, rest => match unesc rest with
    | none => none
    | some (g, k) => match rest.drop k with
      | [] => some [g]
      | c :: r => if c == 44 then (groups f r).map (g :: ·) else some [g]
theorem tail_head (gs : List (List UInt8)) : tailB gs = [] ∨ ∃ r, tailB gs = 44 :: r := by
  cases gs with
  | nil => exact .inl rfl
  | cons g gs => exact .inr ⟨_, tail_cons g gs⟩
theorem groups_tail : ∀ (gs : List (List UInt8)) (g : List UInt8) (f : Nat), gs.length < f → groups f (esc g ++ tailB gs) = some (g :: gs)
  | [], g, f + 1, _ => by
    rw [groups, unesc_esc _ (tail_head [])]
    simp [tailB]
  | g' :: gs, g, f + 1, h => by
    simp only [List.length_cons] at h
    rw [groups, unesc_esc _ (tail_head _)]
    simp only [List.drop_left]
    rw [tail_cons]
    simp only [beq_self_eq_true, if_true]
    rw [groups_tail gs g' f (by omega)]
    rfl

/-! numbers -/
theorem digits_byte (u : Nat) : ∀ c ∈ Lib.decDigits u, 48 ≤ c.toNat ∧ c.toNat ≤ 57 := by
  induction u using Nat.strongRecOn with
  | _ u ih =>
    intro c hc
    rw [Lib.decDigits] at hc
    split at hc
    · cases List.mem_singleton.1 hc
      rw [UInt8.toNat_ofNat']
      omega
    · rcases List.mem_append.1 hc with h | h
      · exact ih (u / 10) (by omega) c h
      · cases List.mem_singleton.1 h
        rw [UInt8.toNat_ofNat']
        omega
theorem digits_ne (u : Nat) : Lib.decDigits u ≠ [] := by
  rw [Lib.decDigits]
  split <;> simp
theorem uint_append : ∀ (l r : List UInt8) (acc : Nat), Lib.parseUint10 acc (l ++ r) = match Lib.parseUint10 acc l with
    | .ok a => Lib.parseUint10 a r
    | Lib.NumEnd.syntax => Lib.NumEnd.syntax
    | .range => .range
  | [], r, acc => by simp [Lib.parseUint10]
  | c :: l, r, acc => by
    simp only [List.cons_append, Lib.parseUint10]
    split
    · split
      · rfl
      · split
        · rfl
        · exact uint_append l r _
    · rfl
theorem uint_digits (u : Nat) (h : u < 18446744073709551616) : Lib.parseUint10 0 (Lib.decDigits u) = .ok u := by
  induction u using Nat.strongRecOn with
  | _ u ih =>
    rw [Lib.decDigits]
    split
    · rename_i hu
      have e : (UInt8.ofNat (48 + u)).toNat = 48 + u := by rw [UInt8.toNat_ofNat']; omega
      simp only [Lib.parseUint10, e]
      rw [if_pos (by omega), if_neg (by omega), if_neg (by omega)]
      congr 1; omega
    · rename_i hu
      have e : (UInt8.ofNat (48 + u % 10)).toNat = 48 + u % 10 := by rw [UInt8.toNat_ofNat']; omega
      rw [uint_append, ih (u / 10) (by omega) (by omega)]
      simp only [Lib.parseUint10, e]
      rw [if_pos (by omega), if_neg (by omega), if_neg (by omega)]
      congr 1; omega
theorem mag_digits (u : Nat) (h : u < 18446744073709551616) : Lib.parseMag (Lib.decDigits u) = .ok u := by
  unfold Lib.parseMag
  rw [if_neg (digits_ne u), uint_digits u h]
theorem int_back (n : Int) (h0 : -9223372036854775808 ≤ n) (h1 : n ≤ 9223372036854775807) : Lib.parseIntB 64 (Lib.itoa n) = .ok n := by
  rw [Lib.parseIntB_64]
  unfold Lib.itoa
  split
  · rename_i hn
    unfold Lib.atoiAll
    simp only
    rw [if_pos (by decide), mag_digits _ (by omega)]
    simp only
    rw [if_neg (by simp), if_neg (by omega), if_pos (by decide)]
    congr 1; omega
  · rename_i hn
    cases hd : Lib.decDigits n.toNat with
    | nil => exact (digits_ne _ hd).elim
    | cons c r =>
      have hc := digits_byte n.toNat c (by rw [hd]; simp)
      unfold Lib.atoiAll
      simp only
      rw [if_neg (by omega), ← hd, mag_digits _ (by omega)]
      simp only
      have h45 : ¬ c.toNat = 45 := by omega
      rw [if_neg (by omega), if_neg (by omega), if_neg h45]
      congr 1; omega
theorem itoa_byte (n : Int) : ∀ c ∈ Lib.itoa n, c ≠ 44 := by
  intro c hc
  unfold Lib.itoa at hc
  have hd : ∀ u, c ∈ Lib.decDigits u → c ≠ 44 := by
    rintro u h rfl
    have := digits_byte u _ h
    simp at this
  split at hc
  · rcases List.mem_cons.1 hc with rfl | h
    · decide
    · exact hd _ h
  · exact hd _ hc

/-! the first comma -/
theorem index_none : ∀ (l : List UInt8), (∀ c ∈ l, c ≠ 44) → Lib.index l [44] = -1
  | [], _ => rfl
  | c :: l, h => by
    have hc := h c (by simp)
    rw [Lib.index]
    have : ([44] : List UInt8).isPrefixOf (c :: l) = false := by simp [List.isPrefixOf]; exact fun e => hc e.symm
    rw [this, index_none l fun d hd => h d (by simp [hd])]
    rfl
theorem index_at (X : List UInt8) : ∀ (l : List UInt8), (∀ c ∈ l, c ≠ 44) → Lib.index (l ++ 44 :: X) [44] = l.length
  | [], _ => by rw [List.nil_append, Lib.index]; simp [List.isPrefixOf]
  | c :: l, h => by
    have hc := h c (by simp)
    rw [List.cons_append, Lib.index]
    have : ([44] : List UInt8).isPrefixOf (c :: (l ++ 44 :: X)) = false := by simp [List.isPrefixOf]; exact fun e => hc e.symm
    rw [this, index_at X l fun d hd => h d (by simp [hd])]
    have : ((l.length : Int) == -1) = false := by simp
    rw [this]
    simp
theorem cut_none {l : List UInt8} (h : ∀ c ∈ l, c ≠ 44) : Lib.cut l [44] = (l, [], false) := by
  unfold Lib.cut
  rw [index_none l h]
  rfl
theorem cut_at {l : List UInt8} (X : List UInt8) (h : ∀ c ∈ l, c ≠ 44) : Lib.cut (l ++ 44 :: X) [44] = (l, X, true) := by
  unfold Lib.cut
  rw [index_at X l h, if_pos (by omega)]
  simp

/-- cell.Parse -/
def parseB (s : List UInt8) : Option (Int × List (List UInt8)) :=
  match Lib.parseIntB 64 (Lib.cut s [44]).1 with
  | .ok n => match (if (Lib.cut s [44]).2.2 then groups ((Lib.cut s [44]).2.1.length + 1) (Lib.cut s [44]).2.1 else some []) with
    | some gs => if nameB n gs = s then some (n, gs) else none
    | none => none
  | _ => none
theorem tail_len (gs : List (List UInt8)) : gs.length ≤ (tailB gs).length := by
  induction gs with
  | nil => exact Nat.le_refl _
  | cons g gs ih =>
    rw [tail_cons]
    simp only [List.length_cons, List.length_append]
    omega
/-- THE WAY BACK. -/
theorem parse_name (n : Int) (h0 : -9223372036854775808 ≤ n) (h1 : n ≤ 9223372036854775807) (gs : List (List UInt8)) : parseB (nameB n gs) = some (n, gs) := by
  unfold parseB nameB
  cases gs with
  | nil =>
    rw [show tailB [] = [] from rfl, List.append_nil, cut_none (itoa_byte n)]
    simp only
    rw [int_back n h0 h1]
    simp [tailB, nameB]
  | cons g gs =>
    rw [tail_cons, cut_at _ (itoa_byte n)]
    simp only
    rw [int_back n h0 h1, groups_tail gs g _ (by have := tail_len gs; simp only [List.length_append]; omega)]
    simp [tail_cons, nameB]
theorem parse_said {s : List UInt8} {n : Int} {gs : List (List UInt8)} (h : parseB s = some (n, gs)) : nameB n gs = s := by
  unfold parseB at h
  split at h
  · split at h
    · split at h
      · rename_i he; cases h; exact he
      · cases h
    · cases h
  · cases h
end Go.Am
