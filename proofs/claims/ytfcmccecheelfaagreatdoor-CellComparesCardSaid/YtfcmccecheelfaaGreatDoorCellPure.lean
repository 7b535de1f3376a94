/- Plain law of CellCompares: cells stand in an order, and the document's is the same. -/
import Derived.Test.YtfcmccecheelfaaGreatDoorPrint3
set_option linter.unusedSimpArgs false
namespace Go.Proofs.YtfcmccecheelfaaGreatDoor.CellOrder
open Go.RowKit Go.Proofs.YtfcmccecheelfaaGreatDoorW.PrintWords Go.Proofs.YtfcmccecheelfaaGreatDoor.Print
set_option linter.unusedVariables false
theorem w64 {x : Int} (h0 : -9223372036854775808 ≤ x) (h1 : x ≤ 9223372036854775807) : wrap64 x = x := by
  unfold wrap64; omega

/-- An order, told by a number. -/
structure Ordr {α : Type} (c : α → α → Int) : Prop where
  rng : ∀ a b, -1 ≤ c a b ∧ c a b ≤ 1
  sym : ∀ a b, c b a = -c a b
  trans : ∀ a b d, c a b ≤ 0 → c b d ≤ 0 → c a d ≤ 0

theorem Ordr.flat {α : Type} {c : α → α → Int} (h : Ordr c) {a b d : α} (h1 : c a b ≤ 0) (h2 : c b d ≤ 0) (h3 : c a d = 0) : c a b = 0 ∧ c b d = 0 := by
  have h4 : c d a ≤ 0 := by rw [h.sym a d, h3]; decide
  have h5 := h.trans d a b h4 h1
  have h6 := h.trans b d a h2 h4
  have h7 := h.sym b d
  have h8 := h.sym a b
  omega

/-- of two things the first one, unless it does not decide -/
theorem lex {α β : Type} {c : α → α → Int} {e : β → β → Int} (h : Ordr c) (g : Ordr e) : Ordr fun (x y : α × β) => if c x.1 y.1 = 0 then e x.2 y.2 else c x.1 y.1 := by
  refine ⟨fun a b => ?_, fun a b => ?_, fun a b d h1 h2 => ?_⟩
  · split
    · exact g.rng _ _
    · exact h.rng _ _
  · rw [h.sym a.1 b.1, g.sym a.2 b.2]
    by_cases h0 : c a.1 b.1 = 0
    · rw [if_pos h0, if_pos (by omega)]
    · rw [if_neg h0, if_neg (by omega)]
  · have k1 : c a.1 b.1 ≤ 0 := by split at h1 <;> omega
    have k2 : c b.1 d.1 ≤ 0 := by split at h2 <;> omega
    by_cases h0 : c a.1 d.1 = 0
    · obtain ⟨f1, f2⟩ := h.flat k1 k2 h0
      rw [if_pos f1] at h1
      rw [if_pos f2] at h2
      rw [if_pos h0]
      exact g.trans _ _ _ h1 h2
    · rw [if_neg h0]
      exact h.trans _ _ _ k1 k2

def cmpI (a b : Int) : Int := if a < b then -1 else if a > b then 1 else 0
theorem ordI : Ordr cmpI := by
  refine ⟨fun a b => ?_, fun a b => ?_, fun a b d h1 h2 => ?_⟩
  · unfold cmpI
    split
    · omega
    · split <;> omega
  · unfold cmpI
    split <;> split <;> (try split) <;> (try split) <;> omega
  · unfold cmpI at *
    split at h1 <;> split at h2 <;> (try split at h1) <;> (try split at h2) <;> (try split) <;> (try split) <;> omega

theorem less_nil (a : List UInt8) : Op.bytesLess a [] = false := by cases a <;> rfl
theorem less_cons (x y : UInt8) (a b : List UInt8) : Op.bytesLess (x :: a) (y :: b) = true ↔ x.toNat < y.toNat ∨ (x.toNat = y.toNat ∧ Op.bytesLess a b = true) := by
  rw [Op.bytesLess]
  simp only [Bool.or_eq_true, decide_eq_true_eq, Bool.and_eq_true, beq_iff_eq, UInt8.lt_iff_toNat_lt, UInt8.toNat_inj]
theorem less_asymm : ∀ a b : List UInt8, Op.bytesLess a b = true → Op.bytesLess b a = false
  | a, [], h => by rw [less_nil] at h; cases h
  | [], y :: b, _ => rfl
  | x :: a, y :: b, h => by
    rw [less_cons] at h
    rw [← Bool.not_eq_true, less_cons]
    intro h2
    rcases h with h | ⟨h, h3⟩ <;> rcases h2 with h2 | ⟨h2, h4⟩
    · omega
    · omega
    · omega
    · rw [less_asymm a b h3] at h4; cases h4
theorem less_trans : ∀ a b d : List UInt8, Op.bytesLess b a = false → Op.bytesLess d b = false → Op.bytesLess d a = false
  | [], b, d, _, _ => less_nil d
  | x :: a, [], d, h, _ => by cases h
  | x :: a, y :: b, [], _, h => by cases h
  | x :: a, y :: b, z :: d, h1, h2 => by
    rw [← Bool.not_eq_true, less_cons] at h1 h2 ⊢
    intro h3
    have ih := less_trans a b d
    rcases h3 with h3 | ⟨h3, h4⟩
    · omega
    · rcases Nat.lt_trichotomy y.toNat x.toNat with h5 | h5 | h5
      · exact h1 (.inl h5)
      · have e1 : Op.bytesLess b a = false := by rw [← Bool.not_eq_true]; exact fun e => h1 (.inr ⟨h5, e⟩)
        have e2 : Op.bytesLess d b = false := by rw [← Bool.not_eq_true]; exact fun e => h2 (.inr ⟨by omega, e⟩)
        rw [ih e1 e2] at h4; cases h4
      · exact h2 (.inl (by omega))

def cmpB (a b : ByteArray) : Int := if Op.bytesLess a.toList b.toList = true then -1 else if Op.bytesLess b.toList a.toList = true then 1 else 0
theorem cmpB_le {a b : ByteArray} : cmpB a b ≤ 0 ↔ Op.bytesLess b.toList a.toList = false := by
  unfold cmpB
  cases h : Op.bytesLess a.toList b.toList with
  | true => rw [if_pos rfl, less_asymm _ _ h]; simp
  | false =>
    cases h2 : Op.bytesLess b.toList a.toList <;> simp
theorem ordB : Ordr cmpB := by
  refine ⟨fun a b => ?_, fun a b => ?_, fun a b d h1 h2 => ?_⟩
  · unfold cmpB
    split
    · omega
    · split <;> omega
  · unfold cmpB
    cases h : Op.bytesLess a.toList b.toList with
    | true => rw [less_asymm _ _ h]; simp
    | false => cases h2 : Op.bytesLess b.toList a.toList <;> simp
  · rw [cmpB_le] at *
    exact less_trans _ _ _ h1 h2

def cmpL : List ByteArray → List ByteArray → Int
  | [], [] => 0
  | [], _ :: _ => -1
  | _ :: _, [] => 1
  | x :: a, y :: b => if cmpB x y = 0 then cmpL a b else cmpB x y
theorem cmpL_rng : ∀ a b, -1 ≤ cmpL a b ∧ cmpL a b ≤ 1
  | [], [] => by decide
  | [], _ :: _ => by simp [cmpL]
  | _ :: _, [] => by simp [cmpL]
  | x :: a, y :: b => by
    rw [cmpL]; split
    · exact cmpL_rng a b
    · exact ordB.rng x y
theorem cmpL_sym : ∀ a b, cmpL b a = -cmpL a b
  | [], [] => rfl
  | [], _ :: _ => rfl
  | _ :: _, [] => rfl
  | x :: a, y :: b => by
    rw [cmpL, cmpL, ordB.sym x y, cmpL_sym a b]
    by_cases h : cmpB x y = 0
    · rw [if_pos h, if_pos (by omega)]
    · rw [if_neg h, if_neg (by omega)]
theorem cmpL_trans : ∀ a b d, cmpL a b ≤ 0 → cmpL b d ≤ 0 → cmpL a d ≤ 0
  | [], _, [], _, _ => by simp [cmpL]
  | [], _, _ :: _, _, _ => by simp [cmpL]
  | _ :: _, [], _, h, _ => by simp [cmpL] at h
  | _ :: _, _ :: _, [], _, h => by simp [cmpL] at h
  | x :: a, y :: b, z :: d, h1, h2 => by
    rw [cmpL] at h1 h2 ⊢
    have k1 : cmpB x y ≤ 0 := by split at h1 <;> omega
    have k2 : cmpB y z ≤ 0 := by split at h2 <;> omega
    by_cases h0 : cmpB x z = 0
    · obtain ⟨f1, f2⟩ := ordB.flat k1 k2 h0
      rw [if_pos f1] at h1
      rw [if_pos f2] at h2
      rw [if_pos h0]
      exact cmpL_trans a b d h1 h2
    · rw [if_neg h0]
      exact ordB.trans _ _ _ k1 k2
theorem ordL : Ordr cmpL := ⟨cmpL_rng, cmpL_sym, cmpL_trans⟩

def cc (a : Int) (l : List ByteArray) (b : Int) (m : List ByteArray) : Int := if cmpI a b = 0 then cmpL l m else cmpI a b
theorem ordC : Ordr fun (x y : Int × List ByteArray) => cc x.1 x.2 y.1 y.2 := lex ordI ordL

/-! ### what the functions compute -/

theorem int_f (a b : Int) : cmp_Compare_int64.f a b = some (cmpI a b) := by
  unfold cmp_Compare_int64.f cmp_isNaN_int64.f cmpI
  simp only [bne_self_eq_false, Option.bind_some, Bool.false_eq_true, if_false]
  split
  · rfl
  · split <;> rfl
theorem str_f (a b : ByteArray) : cmp_Compare_string.f a b = some (cmpB a b) := by
  unfold cmp_Compare_string.f cmp_isNaN_string.f cmpB
  simp only [bne_self_eq_false, Option.bind_some, Bool.false_eq_true, if_false]
  split
  · rfl
  · split <;> rfl
theorem or_f (k : Nat) (x y : Int) : cmp_Or_int.f (k + 3) [x, y] = some (if x = 0 then y else x) := by
  have w1 : wrap64 (0 + 1) = 1 := by unfold wrap64; omega
  have w2 : wrap64 (1 + 1) = 2 := by unfold wrap64; omega
  unfold cmp_Or_int.f
  simp only [cmp_Or_int.l0, List.length_cons, List.length_nil, w1, w2, rd]
  by_cases hx : x = 0
  · by_cases hy : y = 0
    · subst hx; subst hy; simp
    · subst hx; simp [hy]
  · simp [hx]
theorem drop_cons (a : List ByteArray) (j : Nat) (h : j < a.length) : a.drop j = a.getD j ByteArray.empty :: a.drop (j + 1) := by
  rw [List.drop_eq_getElem_cons h]
  simp [List.getElem?_eq_getElem h]
theorem slices_l0 (a b : List ByteArray) (hm : a.length ≤ 9223372036854775807) : ∀ (n j k : Nat), n + j = a.length → j ≤ b.length → n < k → slices_Compare_string_string.l0 k a b a (a.length : Int) (j : Int) = some (cmpL (a.drop j) (b.drop j))
  | n, j, 0, _, _, hk => absurd hk (Nat.not_lt_zero _)
  | 0, j, k + 1, hj, hb, _ => by
    rw [slices_Compare_string_string.l0, if_neg (by omega), show a.drop j = [] from List.drop_eq_nil_of_le (by omega)]
    by_cases h : a.length < b.length
    · rw [if_pos (by omega), drop_cons b j (by omega)]; rfl
    · rw [if_neg (by omega), List.drop_eq_nil_of_le (by omega)]; rfl
  | n + 1, j, k + 1, hj, hb, hk => by
    rw [slices_Compare_string_string.l0, if_pos (by omega), if_pos (by omega), if_pos (by omega), drop_cons a j (by omega)]
    by_cases h : j < b.length
    · rw [if_neg (by omega), if_pos (by omega), drop_cons b j h, str_f, Option.bind_some, cmpL, w64 (by omega) (by omega)]
      have ih := slices_l0 a b hm n (j + 1) k (by omega) (by omega) (by omega)
      rw [show ((j : Int) + 1) = ((j + 1 : Nat) : Int) from rfl, ih]
      show (if cmpB (a.getD j ByteArray.empty) (b.getD j ByteArray.empty) = 0 then _ else _) = _
      split <;> rfl
    · rw [if_pos (by omega), show b.drop j = [] from List.drop_eq_nil_of_le (by omega)]; rfl
theorem groups_l0 (a b : List ByteArray) (hm : a.length ≤ 9223372036854775807) (hn : b.length ≤ 9223372036854775807) : ∀ (n j k : Nat), n + j = a.length → j ≤ b.length → 2 * n + 1 < k → weirref23_groups.l0 k a b (j : Int) = some (cmpL (a.drop j) (b.drop j))
  | n, j, 0, _, _, hk => absurd hk (Nat.not_lt_zero _)
  | n, j, 1, _, _, hk => absurd hk (by omega)
  | 0, j, k + 2, hj, hb, _ => by
    rw [weirref23_groups.l0, if_neg (by omega), weirref23_groups.j1, if_neg (by simp), show a.drop j = [] from List.drop_eq_nil_of_le (by omega)]
    by_cases h : a.length < b.length
    · rw [if_pos (by omega), drop_cons b j (by omega)]; rfl
    · rw [if_neg (by omega), if_neg (by omega), List.drop_eq_nil_of_le (by omega)]; rfl
  | n + 1, j, k + 2, hj, hb, hk => by
    rw [weirref23_groups.l0, if_pos (by omega), weirref23_groups.j1, drop_cons a j (by omega)]
    by_cases h : j < b.length
    · rw [if_pos (by simp; omega), if_pos (by omega), if_pos (by omega), if_pos (by omega), drop_cons b j h, cmpL, w64 (by omega) (by omega)]
      have ih := groups_l0 a b hm hn n (j + 1) k (by omega) (by omega) (by omega)
      rw [show ((j : Int) + 1) = ((j + 1 : Nat) : Int) from rfl, ih]
      show (if Op.bytesLess (a.getD j ByteArray.empty).toList (b.getD j ByteArray.empty).toList = true then _ else (if Op.bytesLess (b.getD j ByteArray.empty).toList (a.getD j ByteArray.empty).toList = true then _ else _)) = _
      unfold cmpB
      by_cases h1 : Op.bytesLess (a.getD j ByteArray.empty).toList (b.getD j ByteArray.empty).toList = true
      · rw [if_pos h1, if_pos h1, if_neg (by decide)]
      · rw [if_neg h1, if_neg h1]
        by_cases h2 : Op.bytesLess (b.getD j ByteArray.empty).toList (a.getD j ByteArray.empty).toList = true
        · rw [if_pos h2, if_pos h2, if_neg (by decide)]
        · rw [if_neg h2, if_neg h2, if_pos rfl]
    · rw [if_neg (by simp; omega), if_neg (by omega), if_pos (by omega), show b.drop j = [] from List.drop_eq_nil_of_le (by omega)]; rfl
theorem cell_f (a : Int) (l : List ByteArray) (b : Int) (m : List ByteArray) (hl : l.length ≤ 9223372036854775807) (k : Nat) (hk : l.length + 3 ≤ k) : cell_Compare.f k a l b m = some (cc a l b m) := by
  have h1 := slices_l0 l m hl l.length 0 k (by omega) (by omega) (by omega)
  obtain ⟨j, rfl⟩ : ∃ j, k = j + 3 := ⟨k - 3, by omega⟩
  unfold cell_Compare.f slices_Compare_string_string.f
  rw [int_f]
  simp only [Option.bind_some]
  rw [show (0 : Int) = ((0 : Nat) : Int) from rfl, h1]
  simp only [Option.bind_some, List.drop_zero, or_f]
  rfl
theorem ref_f (a : Int) (l : List ByteArray) (b : Int) (m : List ByteArray) (hl : l.length ≤ 9223372036854775807) (hm : m.length ≤ 9223372036854775807) (k : Nat) (hk : 2 * l.length + 2 ≤ k) : weirref23_Compare.f k a l b m = some (cc a l b m) := by
  have h1 := groups_l0 l m hl hm l.length 0 k (by omega) (by omega) (by omega)
  unfold weirref23_Compare.f weirref23_groups.f
  rw [show (0 : Int) = ((0 : Nat) : Int) from rfl, h1]
  unfold cc cmpI
  by_cases h2 : a < b
  · rw [if_pos h2, if_pos h2, if_neg (by decide)]
  · rw [if_neg h2, if_neg h2]
    by_cases h3 : a > b
    · rw [if_pos h3, if_pos h3, if_neg (by decide)]
    · rw [if_neg h3, if_neg h3, if_pos rfl]; rfl

theorem law (a0_0 : Int) (l0_1 : List ByteArray) (a1_0 : Int) (l1_1 : List ByteArray) (a2_0 : Int) (l2_1 : List ByteArray) (h0 : l0_1.length ≤ 9223372036854775807) (h1 : l1_1.length ≤ 9223372036854775807) :
    ∃ k, weirlaw23_CellCompares.f k a0_0 l0_1 a1_0 l1_1 a2_0 l2_1 = some true := by
  refine ⟨2 * (l0_1.length + l1_1.length) + 5, ?_⟩
  unfold weirlaw23_CellCompares.f weirlaw23_live.f
  rw [cell_f a0_0 l0_1 a1_0 l1_1 h0 _ (by omega), cell_f a1_0 l1_1 a2_0 l2_1 h1 _ (by omega), cell_f a0_0 l0_1 a2_0 l2_1 h0 _ (by omega), ref_f a0_0 l0_1 a1_0 l1_1 h0 h1 _ (by omega), cell_f a1_0 l1_1 a0_0 l0_1 h1 _ (by omega)]
  simp only [Option.bind_some, if_true]
  have hs := ordC.sym (a1_0, l1_1) (a0_0, l0_1)
  have hr := ordC.rng (a1_0, l1_1) (a0_0, l0_1)
  have ht := ordC.trans (a0_0, l0_1) (a1_0, l1_1) (a2_0, l2_1)
  dsimp only at hs hr ht
  rw [w64 (by omega) (by omega), if_pos hs]
  by_cases h2 : cc a0_0 l0_1 a1_0 l1_1 ≤ 0
  · rw [if_pos h2]
    by_cases h3 : cc a1_0 l1_1 a2_0 l2_1 ≤ 0
    · rw [if_pos h3]
      have := ht h2 h3
      simp; omega
    · rw [if_neg h3]; rfl
  · rw [if_neg h2]; rfl
end Go.Proofs.YtfcmccecheelfaaGreatDoor.CellOrder
