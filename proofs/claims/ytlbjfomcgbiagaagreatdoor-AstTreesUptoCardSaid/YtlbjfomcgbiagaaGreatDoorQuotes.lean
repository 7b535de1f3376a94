/- lex.Quote tells what weirref12.Quote does; lex.Text what weirref12.Text does. -/
import Derived.Test.YtlbjfomcgbiagaaGreatDoorCondR
import Derived.Laws.Strings
set_option linter.unusedVariables false
set_option linter.unusedSimpArgs false
namespace Go.Proofs.YtlbjfomcgbiagaaGreatDoor.Quotes
open Go Go.RowKit Go.Proofs.YtlbjfomcgbiagaaGreatDoorW.PrintWords Go.Proofs Go.Proofs.YtlbjfomcgbiagaaGreatDoor Go.Proofs.YtlbjfomcgbiagaaGreatDoor.Base Go.Proofs.YtlbjfomcgbiagaaGreatDoor.Print

theorem letter_eq (x : Int) : weirref12_letter.f x = lex_isLetter.f x := rfl
theorem digit_eq (x : Int) : weirref12_digit.f x = lex_isDigit.f x := rfl
theorem letter_some (x : Int) : ∃ b, lex_isLetter.f x = some b := by
  unfold lex_isLetter.f
  repeat' split
  all_goals exact ⟨_, rfl⟩
theorem digit_some (x : Int) : ∃ b, lex_isDigit.f x = some b := by
  unfold lex_isDigit.f
  repeat' split
  all_goals exact ⟨_, rfl⟩
theorem row_eq (s : ByteArray) : ∀ (k : Nat) (i : Int), weirref12_row.l0 k s i = lex_row.l0 k s i
  | 0, _ => rfl
  | k + 1, i => by
    rw [weirref12_row.l0, lex_row.l0, letter_eq, digit_eq]
    simp only [row_eq s k]
theorem wr {i : Int} (h0 : 0 ≤ i) (h1 : i ≤ 9223372036854775806) : wrap64 (i + 1) = i + 1 := by unfold wrap64; omega
theorem row_some (s : ByteArray) (hs : s.size ≤ 140737488355328) : ∀ (k : Nat) (i : Int), 0 ≤ i → i ≤ s.size → (s.size : Int) - i < k → ∃ r, lex_row.l0 k s i = some r
  | 0, i, h0, h2, h1 => by omega
  | k + 1, i, h0, h2, h1 => by
    rw [lex_row.l0]
    by_cases hi : i < (s.size : Int)
    · rw [if_pos hi, if_pos h0]
      obtain ⟨b, hb⟩ := letter_some (bt s i)
      rw [hb, Option.bind_some, wr h0 (by omega)]
      have ih := row_some s hs k (i + 1) (by omega) (by omega) (by omega)
      cases b with
      | true => rw [if_pos rfl]; exact ih
      | false =>
        rw [if_neg (by decide)]
        obtain ⟨d, hd⟩ := digit_some (bt s i)
        rw [hd, Option.bind_some]
        cases d with
        | true => rw [if_pos rfl]; exact ih
        | false => rw [if_neg (by decide)]; exact ⟨_, rfl⟩
    · rw [if_neg hi]
      exact ⟨_, rfl⟩
/-- The byte behind what has been read. -/
theorem byte_at {s : ByteArray} {pre rest : List UInt8} {b : UInt8} (h : s.data.toList = pre ++ b :: rest) : pre.length < s.size ∧ bt s (pre.length : Int) = (b.toNat : Int) ∧ s.extract pre.length (pre.length + 1) = ⟨#[b]⟩ := by
  have hl : pre.length < s.size := by
    have h2 := congrArg List.length h
    rw [List.length_append, List.length_cons, Array.length_toList] at h2
    show pre.length < s.data.size
    omega
  have hg : s.data.toList[pre.length]? = some b := by rw [h]; simp
  refine ⟨hl, ?_, ?_⟩
  · unfold bt
    rw [dif_pos (by simpa using hl)]
    have h3 : s[pre.length]'hl = b := by
      have h4 : s.data.toList[pre.length]? = some (s.data[pre.length]'hl) := by rw [Array.getElem?_toList]; exact Array.getElem?_eq_getElem hl
      rw [h4] at hg
      exact Option.some.inj hg
    simp only [Int.toNat_natCast]
    rw [h3]
  · apply ByteArray.ext
    apply Array.ext'
    rw [ByteArray.data_extract, Array.toList_extract, h]
    simp [List.extract]
theorem within_at (s : ByteArray) (q : UInt8) : ∀ (rest pre : List UInt8) (acc : ByteArray) (k : Nat), s.data.toList = pre ++ rest → s.size ≤ 140737488355328 → acc.size + 2 * rest.length + 1 ≤ 4611686018427387904 → rest.length < k →
    weirref12_within.l0 k s ⟨#[q]⟩ acc (pre.length : Int) = some (acc ++ ⟨(Rep.esc q rest ++ [q]).toArray⟩)
  | [], pre, acc, k + 1, h, hs, ha, _ => by
    have hl : s.size = pre.length := by
      have h2 := congrArg List.length h
      rw [List.append_nil, Array.length_toList] at h2
      exact h2
    rw [weirref12_within.l0, if_neg (by omega), if_pos (by show acc.size + 1 ≤ _; omega)]
    rfl
  | b :: rest, pre, acc, k + 1, h, hs, ha, hk => by
    obtain ⟨hl, hb, he⟩ := byte_at h
    rw [List.length_cons] at ha hk
    have ih := fun acc2 ha2 => within_at s q rest (pre ++ [b]) acc2 k (by rw [h]; simp) hs ha2 (by omega)
    rw [List.length_append, List.length_singleton, Int.natCast_add, Int.natCast_one] at ih
    rw [weirref12_within.l0, if_pos (by omega), if_pos (by omega), wr (by omega) (by omega), if_pos (by omega), if_pos (by omega)]
    have e1 : ((pre.length : Int) + 1).toNat = pre.length + 1 := by omega
    rw [e1, Int.toNat_natCast, he, hb]
    have e2 : (⟨#[b]⟩ : ByteArray).size = 1 := rfl
    have e3 : (⟨#[92]⟩ : ByteArray).size = 1 := rfl
    have e4 : (⟨#[b]⟩ : ByteArray).toList = [b] := by rw [ByteArray.toList_eq]
    have e5 : (⟨#[q]⟩ : ByteArray).toList = [q] := by rw [ByteArray.toList_eq]
    have e6 : ∀ t : List UInt8, (⟨#[b]⟩ : ByteArray) ++ ⟨t.toArray⟩ = ⟨(b :: t).toArray⟩ := fun t => by
      apply ByteArray.ext
      apply Array.ext'
      simp
    have e7 : ∀ t : List UInt8, (⟨#[92]⟩ : ByteArray) ++ ⟨t.toArray⟩ = ⟨(92 :: t).toArray⟩ := fun t => by
      apply ByteArray.ext
      apply Array.ext'
      simp
    have esc_yes : b = q ∨ b = 92 → weirref12_within.l0 k s ⟨#[q]⟩ ((acc ++ (⟨#[92]⟩ : ByteArray)) ++ (⟨#[b]⟩ : ByteArray)) ((pre.length : Int) + 1) = some (acc ++ ⟨(Rep.esc q (b :: rest) ++ [q]).toArray⟩) := fun hq => by
      rw [ih _ (by simp only [ByteArray.size_append, e2, e3]; omega), Rep.esc, if_pos hq, ByteArray.append_assoc, ByteArray.append_assoc, e6, e7]
      rfl
    rw [e4, e5]
    by_cases hq : b = q
    · rw [if_pos (by rw [hq]), if_pos (by omega), if_pos (by simp only [ByteArray.size_append, e2, e3]; omega)]
      exact esc_yes (.inl hq)
    · rw [if_neg (by simpa using hq)]
      by_cases h92 : b = 92
      · subst h92
        rw [if_pos (by rfl), if_pos (by omega), if_pos (by simp only [ByteArray.size_append, e2, e3]; omega)]
        exact esc_yes (.inr rfl)
      · have hn : ¬ ((b.toNat : Int) = 92) := fun e => h92 (by
          have e9 : b.toNat = (92 : UInt8).toNat := by show b.toNat = 92; omega
          exact UInt8.toNat_inj.1 e9)
        rw [if_neg hn, if_pos (by simp only [e2]; omega), ih _ (by simp only [ByteArray.size_append, e2]; omega), Rep.esc, if_neg (fun e => e.elim hq h92), ByteArray.append_assoc, e6]
        rfl
theorem within_f (s : ByteArray) (q : UInt8) (hs : s.size ≤ 140737488355328) (k : Nat) (hk : s.size < k) : weirref12_within.f k s ⟨#[q]⟩ = some ⟨(Rep.inQ q s.data.toList).toArray⟩ := by
  have hl : s.data.toList.length = s.size := Array.length_toList
  have h := within_at s q s.data.toList [] ⟨#[q]⟩ k rfl hs (by have e : (⟨#[q]⟩ : ByteArray).size = 1 := rfl; omega) (by omega)
  unfold weirref12_within.f
  rw [show (([] : List UInt8).length : Int) = 0 from rfl] at h
  rw [h]
  congr 1
theorem small_at (s : ByteArray) : ∀ (rest pre : List UInt8) (acc : ByteArray) (k : Nat), s.data.toList = pre ++ rest → s.size ≤ 140737488355328 → acc.size + rest.length ≤ 4611686018427387904 → rest.length < k →
    weirref12_Small.l0 k s acc (pre.length : Int) = some (acc ++ ⟨(rest.map Lex.low).toArray⟩)
  | [], pre, acc, k + 1, h, hs, ha, _ => by
    have hl : s.size = pre.length := by
      have h2 := congrArg List.length h
      rw [List.append_nil, Array.length_toList] at h2
      exact h2
    rw [weirref12_Small.l0, if_neg (by omega)]
    congr 1
    apply ByteArray.ext
    apply Array.ext'
    simp
  | b :: rest, pre, acc, k + 1, h, hs, ha, hk => by
    obtain ⟨hl, hb, he⟩ := byte_at h
    rw [List.length_cons] at ha hk
    have ih := fun acc2 ha2 => small_at s rest (pre ++ [b]) acc2 k (by rw [h]; simp) hs ha2 (by omega)
    rw [List.length_append, List.length_singleton, Int.natCast_add, Int.natCast_one] at ih
    have hb2 := b.toNat_lt
    have one : ∀ x : Int, (strOfNums [x]).size = 1 := fun x => rfl
    have fin : ∀ x : Int, UInt8.ofNat x.toNat = Lex.low b → (weirref12_Small.l0 k s (acc ++ strOfNums [x]) ((pre.length : Int) + 1)) = some (acc ++ ⟨((b :: rest).map Lex.low).toArray⟩) := fun x hx => by
      rw [ih _ (by rw [ByteArray.size_append, one]; omega), ByteArray.append_assoc]
      congr 2
      apply ByteArray.ext
      apply Array.ext'
      simp [strOfNums, hx]
    rw [weirref12_Small.l0, if_pos (by omega), if_pos (by omega), wr (by omega) (by omega), hb]
    simp only [Option.bind_some, one]
    have keep : UInt8.ofNat ((b.toNat : Int)).toNat = b := by simp
    by_cases h65 : (b.toNat : Int) ≥ 65
    · rw [if_pos h65]
      by_cases h90 : (b.toNat : Int) ≤ 90
      · rw [if_pos h90, if_pos (by omega)]
        refine fin _ ?_
        unfold Lex.low
        rw [if_pos (by omega)]
        apply UInt8.toNat_inj.1
        rw [UInt8.toNat_add]
        simp
        omega
      · rw [if_neg h90, if_pos (by omega)]
        refine fin _ ?_
        unfold Lex.low
        rw [if_neg (by omega), keep]
    · rw [if_neg h65, if_pos (by omega)]
      refine fin _ ?_
      unfold Lex.low
      rw [if_neg (by omega), keep]
theorem key_f (s : ByteArray) (hs : s.size ≤ 140737488355328) (k : Nat) (hk : s.size < k) : weirref12_Key.f k s = some (Lex.isKey s) := by
  have hl : s.data.toList.length = s.size := Array.length_toList
  have h := small_at s s.data.toList [] ⟨#[]⟩ k rfl hs (by have e : (⟨#[]⟩ : ByteArray).size = 0 := rfl; omega) (by omega)
  rw [show (([] : List UInt8).length : Int) = 0 from rfl] at h
  have h2 : weirref12_Small.f k s = some (Lex.lowerB s) := by
    unfold weirref12_Small.f
    rw [h]
    congr 1
  unfold weirref12_Key.f
  rw [h2, Option.bind_some]
  unfold Lex.isKey
  simp only [ByteArray.toList_eq]
  generalize (Lex.lowerB s).data.toList = t
  by_cases h0 : t = [115, 101, 108, 101, 99, 116]
  · subst h0; rfl
  rw [if_neg h0]
  by_cases h1 : t = [97, 115]
  · subst h1; rfl
  rw [if_neg h1]
  by_cases h2 : t = [105, 110, 116, 111]
  · subst h2; rfl
  rw [if_neg h2]
  by_cases h3 : t = [102, 114, 111, 109]
  · subst h3; rfl
  rw [if_neg h3]
  by_cases h4 : t = [119, 104, 101, 114, 101]
  · subst h4; rfl
  rw [if_neg h4]
  by_cases h5 : t = [103, 114, 111, 117, 112]
  · subst h5; rfl
  rw [if_neg h5]
  by_cases h6 : t = [98, 121]
  · subst h6; rfl
  rw [if_neg h6]
  by_cases h7 : t = [116, 105, 109, 101]
  · subst h7; rfl
  rw [if_neg h7]
  by_cases h8 : t = [102, 105, 108, 108]
  · subst h8; rfl
  rw [if_neg h8]
  by_cases h9 : t = [97, 110, 100]
  · subst h9; rfl
  rw [if_neg h9]
  by_cases h10 : t = [111, 114]
  · subst h10; rfl
  rw [if_neg h10]
  by_cases h11 : t = [110, 111, 116]
  · subst h11; rfl
  rw [if_neg h11]
  by_cases h12 : t = [105, 110]
  · subst h12; rfl
  rw [if_neg h12]
  by_cases h13 : t = [116, 114, 117, 101]
  · subst h13; rfl
  rw [if_neg h13]
  by_cases h14 : t = [102, 97, 108, 115, 101]
  · subst h14; rfl
  rw [if_neg h14]
  refine congrArg some ?_
  symm
  rw [List.contains_eq_mem, decide_eq_false_iff_not]
  unfold Lex.keyWords
  simp only [List.mem_cons, List.not_mem_nil, or_false, not_or]
  exact ⟨h0, h1, h2, h3, h4, h5, h6, h7, h8, h9, h10, h11, h12, h13, h14⟩
theorem cnt_le (q : UInt8) : ∀ l : List UInt8, Rep.cnt q l ≤ l.length
  | [] => Nat.le_refl 0
  | b :: l => by
    have := cnt_le q l
    rw [Rep.cnt, List.length_cons]
    split <;> omega
theorem quote_both (s : ByteArray) (hs : s.size ≤ 1048576) (k : Nat) (hk : s.size + 2 < k) : ∃ r, lex_Quote.f k s = some r ∧ weirref12_Quote.f k s = some r ∧ r.size ≤ 2 * s.size + 2 := by
  have hq : lex_inQuotes.f s ⟨#[34]⟩ = some ⟨(Rep.inQ 34 s.data.toList).toArray⟩ := by
    unfold lex_inQuotes.f
    rw [if_pos (by omega), if_pos rfl]
  have hw := within_f s 34 (by omega) k (by omega)
  have hsz : (⟨(Rep.inQ 34 s.data.toList).toArray⟩ : ByteArray).size ≤ 2 * s.size + 2 := by
    show (Rep.inQ 34 s.data.toList).toArray.size ≤ _
    have h1 := Rep.esc_length 34 s.data.toList
    have h2 := cnt_le 34 s.data.toList
    have h3 : s.data.toList.length = s.size := Array.length_toList
    rw [List.size_toArray, Rep.inQ, List.length_cons, List.length_append, h1, List.length_singleton]
    omega
  have both : ∃ r, some (⟨(Rep.inQ 34 s.data.toList).toArray⟩ : ByteArray) = some r ∧ some (⟨(Rep.inQ 34 s.data.toList).toArray⟩ : ByteArray) = some r ∧ r.size ≤ 2 * s.size + 2 := ⟨_, rfl, rfl, hsz⟩
  unfold lex_Quote.f weirref12_Quote.f
  rw [hq, hw]
  simp only [Option.bind_some]
  by_cases h0 : s.toList = []
  · rw [if_pos h0, if_pos h0]; exact both
  · rw [if_neg h0, if_neg h0]
    have hp : 0 < s.size := by
      rcases Nat.eq_zero_or_pos s.size with h | h
      · exfalso
        apply h0
        rw [ByteArray.toList_eq]
        exact List.length_eq_zero_iff.1 (by rw [Array.length_toList]; exact h)
      · exact h
    rw [if_pos (by omega), if_pos (by omega), letter_eq]
    obtain ⟨b, hb⟩ := letter_some (bt s 0)
    rw [hb]
    simp only [Option.bind_some]
    cases b with
    | false => rw [if_neg (by decide), if_neg (by decide)]; exact both
    | true =>
      rw [if_pos rfl, if_pos rfl]
      unfold weirref12_row.f lex_row.f
      rw [row_eq]
      obtain ⟨r, hr⟩ := row_some s (by omega) k 0 (by omega) (by omega) (by omega)
      rw [hr]
      simp only [Option.bind_some]
      by_cases he : r = (s.size : Int)
      · rw [if_pos he, if_pos he, key_f s (by omega) k (by omega)]
        unfold lex_Key.f Lex.lex_Key.f
        rw [if_pos (by omega)]
        simp only [Option.bind_some]
        cases Lex.isKey s with
        | true => exact both
        | false => exact ⟨_, rfl, rfl, by omega⟩
      · rw [if_neg he, if_neg he]; exact both
theorem up {α : Type} {f : Nat → Option α} (hm : ∀ k, LeO (f k) (f (k + 1))) {r : α} {k0 : Nat} (h : f k0 = some r) : ∀ k, k0 ≤ k → f k = some r := by
  intro k hk
  obtain ⟨d, rfl⟩ : ∃ d, k = k0 + d := ⟨k - k0, by omega⟩
  clear hk
  induction d with
  | zero => exact h
  | succ d ih => exact hm _ _ ih
theorem inq_size {s r : ByteArray} {q : ByteArray} (h : lex_inQuotes.f s q = some r) : s.size ≤ 70368744177664 := by
  unfold lex_inQuotes.f at h
  split at h
  · assumption
  · cases h
theorem quote_gen (k : Nat) (s r : ByteArray) (h : lex_Quote.f k s = some r) : ∃ k', weirref12_Quote.f k' s = some r := by
  refine ⟨k + s.size + 1, ?_⟩
  have inq : ∀ {x : ByteArray}, ((lex_inQuotes.f s (⟨#[34]⟩ : ByteArray)).bind fun t => some t) = some x → ((weirref12_within.f (k + s.size + 1) s (⟨#[34]⟩ : ByteArray)).bind fun t => some t) = some x := fun {x} hx => by
    obtain ⟨y, hy, hx⟩ := Option.bind_eq_some_iff.1 hx
    have hz := inq_size hy
    unfold lex_inQuotes.f at hy
    rw [if_pos hz, if_pos rfl] at hy
    rw [within_f s 34 (by omega) _ (by omega), hy]
    exact hx
  unfold lex_Quote.f at h
  unfold weirref12_Quote.f
  by_cases h0 : s.toList = []
  · rw [if_pos h0] at h ⊢
    exact inq h
  rw [if_neg h0] at h ⊢
  by_cases hp : 0 < (s.size : Int)
  · rw [if_pos hp] at h ⊢
    rw [letter_eq]
    obtain ⟨b, hb⟩ := letter_some (bt s 0)
    rw [hb, Option.bind_some] at h ⊢
    cases b with
    | false =>
      rw [if_neg (by decide)] at h ⊢
      exact inq h
    | true =>
      rw [if_pos rfl] at h ⊢
      obtain ⟨t, ht, h⟩ := Option.bind_eq_some_iff.1 h
      have ht2 : weirref12_row.f (k + s.size + 1) s 0 = some t := by
        unfold weirref12_row.f
        rw [row_eq]
        exact up (fun k => lex_row.mono s 0 k) ht _ (by omega)
      rw [ht2, Option.bind_some]
      by_cases he : t = (s.size : Int)
      · rw [if_pos he] at h ⊢
        obtain ⟨b2, hb2, h⟩ := Option.bind_eq_some_iff.1 h
        unfold lex_Key.f Lex.lex_Key.f at hb2
        split at hb2
        · rename_i hz
          obtain rfl := Option.some.inj hb2
          rw [key_f s (by omega) _ (by omega), Option.bind_some]
          cases hk : Lex.isKey s with
          | true =>
            rw [hk, if_pos rfl] at h
            rw [if_pos rfl]
            exact inq h
          | false =>
            rw [hk, if_neg (by decide)] at h
            rw [if_neg (by decide)]
            exact h
        · cases hb2
      · rw [if_neg he] at h ⊢
        exact inq h
  · rw [if_neg hp] at h
    cases h
theorem text_gen (s r : ByteArray) (h : lex_inQuotes.f s ⟨#[39]⟩ = some r) : ∃ k', weirref12_within.f k' s ⟨#[39]⟩ = some r := by
  have hz := inq_size h
  unfold lex_inQuotes.f at h
  rw [if_pos hz, if_neg (by decide), if_pos rfl] at h
  exact ⟨s.size + 1, by rw [within_f s 39 (by omega) _ (by omega)]; exact h⟩
end Go.Proofs.YtlbjfomcgbiagaaGreatDoor.Quotes
