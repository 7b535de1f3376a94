/- key.Name and weirref05's words of names and texts tell the same. -/
import Derived.Test.YtlbjfomcgbiagaaGreatDoorQuotes
import Derived.Test.YtlbjfomcgbiagaaGreatDoorUtf
import Derived.Test.YtlbjfomcgbiagaaGreatDoorPrint1
import Derived.Test.YtlbjfomcgbiagaaGreatDoorPrint3
import Derived.Test.YtlbjfomcgbiagaaGreatDoorPrint8
import Derived.Test.YtlbjfomcgbiagaaGreatDoorPrint9
import Derived.Test.YtlbjfomcgbiagaaGreatDoorPrint10
set_option linter.unusedVariables false
set_option linter.unusedSimpArgs false
namespace Go.Proofs.YtlbjfomcgbiagaaGreatDoor.Words
open Go Go.RowKit Go.Proofs.YtlbjfomcgbiagaaGreatDoorW.PrintWords Go.Proofs Go.Proofs.YtlbjfomcgbiagaaGreatDoor Go.Proofs.YtlbjfomcgbiagaaGreatDoor.Base Go.Proofs.YtlbjfomcgbiagaaGreatDoor.Print Go.Proofs.YtlbjfomcgbiagaaGreatDoor.Utf

theorem bt_bN (s : ByteArray) (j : Nat) : bt s (j : Int) = (bN s.data.toList j : Int) := by
  unfold bt bN
  simp only [Int.toNat_natCast]
  by_cases h : j < s.size
  · rw [dif_pos h]
    have h4 : s.data.toList[j]? = some (s.data[j]'h) := by rw [Array.getElem?_toList]; exact Array.getElem?_eq_getElem h
    rw [List.getD_eq_getElem?_getD, h4]
    rfl
  · rw [dif_neg h, List.getD_eq_getElem?_getD, List.getElem?_eq_none (by rw [Array.length_toList]; exact Nat.le_of_not_lt h)]
    rfl
theorem l0_step (k : Nat) (s : ByteArray) (n least v : Int) (j : Nat) (h1 : 1 ≤ j) (hn : (j : Int) < n) (hn4 : n ≤ 4) (v0 : 0 ≤ v) (v1 : v ≤ 1048576) :
    weirref05_Wide.l0 (k + 1) s n least v (j : Int) = if cN s.data.toList j = true then weirref05_Wide.l0 k s n least (v * 64 + ((bN s.data.toList j : Int) - 128)) ((j + 1 : Nat) : Int) else some 0 := by
  have hb := bN_lt s.data.toList j
  have hsz : s.data.toList.length = s.size := Array.length_toList
  rw [weirref05_Wide.l0, if_pos hn, bt_bN]
  unfold cN
  by_cases c1 : (j : Int) ≥ (s.size : Int)
  · rw [if_pos c1, if_neg (by simp; omega)]
  · rw [if_neg c1, if_pos (by omega), if_pos (by omega)]
    by_cases c2 : (bN s.data.toList j : Int) < 128
    · rw [if_pos c2, if_neg (by simp; omega)]
    · rw [if_neg c2]
      by_cases c3 : (bN s.data.toList j : Int) ≥ 192
      · rw [if_pos c3, if_neg (by simp; omega)]
      · rw [if_neg c3, if_pos (by simp; omega)]
        have e1 : wrap64 (v * 64) = v * 64 := by unfold wrap64; omega
        have e2 : ((bN s.data.toList j : Int) - 128) % 256 = (bN s.data.toList j : Int) - 128 := by omega
        have e3 : wrap64 (v * 64 + ((bN s.data.toList j : Int) - 128)) = v * 64 + ((bN s.data.toList j : Int) - 128) := by unfold wrap64; omega
        have e4 : wrap64 ((j : Int) + 1) = ((j + 1 : Nat) : Int) := by unfold wrap64; omega
        rw [e1, e2, e3, e4]
theorem l0_end (k : Nat) (s : ByteArray) (n least v : Int) : weirref05_Wide.l0 (k + 1) s n least v n = if v < least ∨ (55296 ≤ v ∧ v < 57344) ∨ 1114111 < v then some 0 else some n := by
  rw [weirref05_Wide.l0, if_neg (Int.lt_irrefl _)]
  by_cases c1 : v < least
  · rw [if_pos c1, if_pos (.inl c1)]
  · rw [if_neg c1]
    by_cases c2 : v ≥ 55296
    · rw [if_pos c2]
      by_cases c3 : v < 57344
      · rw [if_pos c3, if_pos (.inr (.inl ⟨c2, c3⟩))]
      · rw [if_neg c3]
        by_cases c4 : v > 1114111
        · rw [if_pos c4, if_pos (.inr (.inr c4))]
        · rw [if_neg c4, if_neg (by omega)]
    · rw [if_neg c2]
      by_cases c4 : v > 1114111
      · rw [if_pos c4, if_pos (.inr (.inr c4))]
      · rw [if_neg c4, if_neg (by omega)]
theorem wide_f (s : ByteArray) (k : Nat) : weirref05_Wide.f (k + 9) s = some (wide s.data.toList : Int) := by
  have b0 := bN_lt s.data.toList 0
  have b1 := bN_lt s.data.toList 1
  have b2 := bN_lt s.data.toList 2
  have b3 := bN_lt s.data.toList 3
  have hc : ∀ j, cN s.data.toList j = true → 128 ≤ bN s.data.toList j ∧ bN s.data.toList j < 192 := fun j h => by
    unfold cN at h
    simp at h
    omega
  unfold weirref05_Wide.f wide
  rw [ByteArray.toList_eq]
  by_cases h0 : s.data.toList = []
  · rw [if_pos h0, if_pos h0]; rfl
  · rw [if_neg h0, if_neg h0]
    have hp : 0 < s.size := by
      rcases Nat.eq_zero_or_pos s.size with h | h
      · exact absurd (List.length_eq_zero_iff.1 (by rw [Array.length_toList]; exact h)) h0
      · exact h
    rw [if_pos (by omega), show (0 : Int) = ((0 : Nat) : Int) from rfl, bt_bN]
    have two : ∀ (K : Nat) (n least v : Int), weirref05_Wide.j2 (K + 1) s n least v = weirref05_Wide.l0 K s n least v 1 := fun K n least v => rfl
    have s1 := fun (K : Nat) (n least v : Int) (hn : 1 < n) (hn4 : n ≤ 4) (v0 : 0 ≤ v) (v1 : v ≤ 1048576) => l0_step K s n least v 1 (by omega) (by simpa using hn) hn4 v0 v1
    have s2 := fun (K : Nat) (n least v : Int) (hn : 2 < n) (hn4 : n ≤ 4) (v0 : 0 ≤ v) (v1 : v ≤ 1048576) => l0_step K s n least v 2 (by omega) (by simpa using hn) hn4 v0 v1
    have s3 := fun (K : Nat) (n least v : Int) (hn : 3 < n) (hn4 : n ≤ 4) (v0 : 0 ≤ v) (v1 : v ≤ 1048576) => l0_step K s n least v 3 (by omega) (by simpa using hn) hn4 v0 v1
    simp only [Int.natCast_one, show ((1 + 1 : Nat) : Int) = 2 from rfl, show ((2 + 1 : Nat) : Int) = 3 from rfl, show ((3 + 1 : Nat) : Int) = 4 from rfl, show ((2 : Nat) : Int) = 2 from rfl, show ((3 : Nat) : Int) = 3 from rfl] at s1 s2 s3
    by_cases c1 : bN s.data.toList 0 < 128
    · rw [if_pos (by omega), if_pos c1]; rfl
    · rw [if_neg (by omega), if_neg c1]
      by_cases c2 : 194 ≤ bN s.data.toList 0 ∧ bN s.data.toList 0 < 224
      · rw [if_pos c2, if_pos (by omega), decide_eq_true (by omega)]
        show weirref05_Wide.j0 ((k + 8) + 1) s _ true = _
        rw [weirref05_Wide.j0, if_pos rfl, show k + 8 = (k + 7) + 1 from rfl, two, show ((bN s.data.toList 0 : Int) - 192) % 256 = (bN s.data.toList 0 : Int) - 192 by omega, show k + 7 = (k + 6) + 1 from rfl, s1 _ _ _ _ (by omega) (by omega) (by omega) (by omega)]
        by_cases d1 : cN s.data.toList 1 = true
        · have := hc 1 d1
          rw [if_pos d1, if_pos d1, show k + 6 = (k + 5) + 1 from rfl, l0_end, if_neg (by omega)]
          rfl
        · rw [if_neg d1, if_neg d1]; rfl
      · rw [if_neg c2]
        by_cases c3 : 224 ≤ bN s.data.toList 0 ∧ bN s.data.toList 0 < 240
        · rw [if_pos c3, if_pos (by omega), decide_eq_false (by omega)]
          show weirref05_Wide.j0 ((k + 8) + 1) s _ false = _
          rw [weirref05_Wide.j0, if_neg (by decide), if_pos (by omega), decide_eq_true (by omega)]
          show weirref05_Wide.j1 ((k + 7) + 1) s _ true = _
          rw [weirref05_Wide.j1, if_pos rfl, show k + 7 = (k + 6) + 1 from rfl, two, show ((bN s.data.toList 0 : Int) - 224) % 256 = (bN s.data.toList 0 : Int) - 224 by omega, show k + 6 = (k + 5) + 1 from rfl, s1 _ _ _ _ (by omega) (by omega) (by omega) (by omega)]
          by_cases d1 : cN s.data.toList 1 = true
          · have h1 := hc 1 d1
            rw [if_pos d1, show k + 5 = (k + 4) + 1 from rfl, s2 _ _ _ _ (by omega) (by omega) (by omega) (by omega)]
            by_cases d2 : cN s.data.toList 2 = true
            · have h2 := hc 2 d2
              rw [if_pos d2, if_pos ⟨d1, d2⟩, show k + 4 = (k + 3) + 1 from rfl, l0_end]
              by_cases d3 : ((bN s.data.toList 0 - 224) * 64 + (bN s.data.toList 1 - 128)) * 64 + (bN s.data.toList 2 - 128) < 2048 ∨ (55296 ≤ ((bN s.data.toList 0 - 224) * 64 + (bN s.data.toList 1 - 128)) * 64 + (bN s.data.toList 2 - 128) ∧ ((bN s.data.toList 0 - 224) * 64 + (bN s.data.toList 1 - 128)) * 64 + (bN s.data.toList 2 - 128) < 57344)
              · rw [if_pos d3, if_pos (by omega)]; rfl
              · rw [if_neg d3, if_neg (by omega)]; rfl
            · rw [if_neg d2, if_neg (fun h => d2 h.2)]; rfl
          · rw [if_neg d1, if_neg (fun h => d1 h.1)]; rfl
        · rw [if_neg c3]
          by_cases c4 : 240 ≤ bN s.data.toList 0 ∧ bN s.data.toList 0 < 245
          · rw [if_pos c4, if_pos (by omega), decide_eq_false (by omega)]
            show weirref05_Wide.j0 ((k + 8) + 1) s _ false = _
            rw [weirref05_Wide.j0, if_neg (by decide), if_pos (by omega), decide_eq_false (by omega)]
            show weirref05_Wide.j1 ((k + 7) + 1) s _ false = _
            rw [weirref05_Wide.j1, if_neg (by decide), if_pos (by omega), if_pos (by omega), show k + 7 = (k + 6) + 1 from rfl, two, show ((bN s.data.toList 0 : Int) - 240) % 256 = (bN s.data.toList 0 : Int) - 240 by omega, show k + 6 = (k + 5) + 1 from rfl, s1 _ _ _ _ (by omega) (by omega) (by omega) (by omega)]
            by_cases d1 : cN s.data.toList 1 = true
            · have h1 := hc 1 d1
              rw [if_pos d1, show k + 5 = (k + 4) + 1 from rfl, s2 _ _ _ _ (by omega) (by omega) (by omega) (by omega)]
              by_cases d2 : cN s.data.toList 2 = true
              · have h2 := hc 2 d2
                rw [if_pos d2, show k + 4 = (k + 3) + 1 from rfl, s3 _ _ _ _ (by omega) (by omega) (by omega) (by omega)]
                by_cases d3 : cN s.data.toList 3 = true
                · have h3 := hc 3 d3
                  rw [if_pos d3, if_pos ⟨d1, d2, d3⟩, show k + 3 = (k + 2) + 1 from rfl, l0_end]
                  by_cases d4 : (((bN s.data.toList 0 - 240) * 64 + (bN s.data.toList 1 - 128)) * 64 + (bN s.data.toList 2 - 128)) * 64 + (bN s.data.toList 3 - 128) < 65536 ∨ 1114111 < (((bN s.data.toList 0 - 240) * 64 + (bN s.data.toList 1 - 128)) * 64 + (bN s.data.toList 2 - 128)) * 64 + (bN s.data.toList 3 - 128)
                  · rw [if_pos d4, if_pos (by omega)]; rfl
                  · rw [if_neg d4, if_neg (by omega)]; rfl
                · rw [if_neg d3, if_neg (fun h => d3 h.2.2)]; rfl
              · rw [if_neg d2, if_neg (fun h => d2 h.2.1)]; rfl
            · rw [if_neg d1, if_neg (fun h => d1 h.1)]; rfl
          · rw [if_neg c4]
            by_cases c5 : (bN s.data.toList 0 : Int) ≥ 194
            · rw [if_pos c5, decide_eq_false (by omega)]
              show weirref05_Wide.j0 ((k + 8) + 1) s _ false = _
              rw [weirref05_Wide.j0, if_neg (by decide), if_pos (by omega), decide_eq_false (by omega)]
              show weirref05_Wide.j1 ((k + 7) + 1) s _ false = _
              rw [weirref05_Wide.j1, if_neg (by decide), if_pos (by omega), if_neg (by omega)]; rfl
            · rw [if_neg c5]
              show weirref05_Wide.j0 ((k + 8) + 1) s _ false = _
              rw [weirref05_Wide.j0, if_neg (by decide), if_neg (by omega)]
              show weirref05_Wide.j1 ((k + 7) + 1) s _ false = _
              rw [weirref05_Wide.j1, if_neg (by decide), if_neg (by omega)]; rfl
theorem wide_le (l : List UInt8) : wide l ≤ l.length := by
  have hc : ∀ j, cN l j = true → j < l.length := fun j h => by
    unfold cN at h
    simp at h
    exact h.1
  unfold wide
  by_cases h0 : l = []
  · rw [if_pos h0]; omega
  · have hp : 0 < l.length := List.length_pos_iff.2 h0
    rw [if_neg h0]
    repeat' split
    all_goals first
      | omega
      | (have := hc 1 (by assumption); omega)
      | (rename_i h _; have := hc 2 h.2; omega)
      | (rename_i h _; have := hc 3 h.2.2; omega)
theorem right_l0 (s : ByteArray) (hs : s.size ≤ 1099511627776) : ∀ (n pos k : Nat), s.size ≤ pos + n → pos ≤ s.size → n + 9 < k → weirref05_right.l0 k s (pos : Int) = some (docGo n (s.data.toList.drop pos))
  | 0, pos, k + 1, h, h2, hk => by
    rw [weirref05_right.l0, if_neg (by omega)]
    rfl
  | n + 1, pos, k + 1, h, h2, hk => by
    have hsz : s.data.toList.length = s.size := Array.length_toList
    rw [weirref05_right.l0]
    by_cases hp : pos < s.size
    · have hne : s.data.toList.drop pos ≠ [] := fun h0 => by
        have := congrArg List.length h0
        rw [List.length_drop, List.length_nil] at this
        omega
      rw [if_pos (by omega), if_pos (by omega), if_pos (by omega), Int.toNat_natCast]
      have hw : weirref05_Wide.f k (s.extract pos s.size) = some (wide (s.data.toList.drop pos) : Int) := by
        obtain ⟨k2, rfl⟩ : ∃ k2, k = k2 + 9 := ⟨k - 9, by omega⟩
        rw [wide_f, Lib.extract_to_end]
      have hb : bt s (pos : Int) = (bN (s.data.toList.drop pos) 0 : Int) := by
        rw [bt_bN]
        unfold bN
        rw [List.getD_eq_getElem?_getD, List.getD_eq_getElem?_getD, List.getElem?_drop, Nat.add_zero]
      rw [hw, Option.bind_some, hb, docGo, if_neg hne]
      by_cases c1 : wide (s.data.toList.drop pos) = 0
      · rw [if_pos (by omega), if_pos (.inl c1)]
      · rw [if_neg (by omega)]
        by_cases c2 : bN (s.data.toList.drop pos) 0 < 32
        · rw [if_pos (by omega), if_pos (.inr (.inl c2))]
        · rw [if_neg (by omega)]
          by_cases c3 : bN (s.data.toList.drop pos) 0 = 127
          · rw [if_pos (by omega), if_pos (.inr (.inr c3))]
          · rw [if_neg (by omega), if_neg (by omega)]
            have hle := wide_le (s.data.toList.drop pos)
            rw [List.length_drop, hsz] at hle
            have e : wrap64 ((pos : Int) + (wide (s.data.toList.drop pos) : Int)) = ((pos + wide (s.data.toList.drop pos) : Nat) : Int) := by unfold wrap64; omega
            rw [e, right_l0 s hs n (pos + wide (s.data.toList.drop pos)) k (by omega) (by omega) (by omega), List.drop_drop]
    · rw [if_neg (by omega), docGo, if_pos (List.drop_eq_nil_of_le (by omega))]
theorem right_f (s : ByteArray) (hs : s.size ≤ 1048576) (most : Int) (k : Nat) (hk : s.size + 12 < k) : weirref05_right.f k s most = some (rightB s most) := by
  have hd := doc_eq s isCtl (fun r => rfl) s.size 0 (by omega)
  rw [List.drop_zero] at hd
  have hr : Lib.idxFunc isCtl true s = Lib.idxFuncFrom isCtl true s s.size 0 := rfl
  unfold weirref05_right.f rightB
  rw [hr, hd, ByteArray.toList_eq]
  obtain ⟨k2, rfl⟩ : ∃ k2, k = k2 + 1 := ⟨k - 1, by omega⟩
  have hl := right_l0 s (by omega) s.size 0 k2 (by omega) (by omega) (by omega)
  rw [List.drop_zero, show ((0 : Nat) : Int) = 0 from rfl] at hl
  by_cases h0 : s.data.toList = []
  · rw [if_pos h0, weirref05_right.j0, if_pos rfl, h0]
    rfl
  · rw [if_neg h0]
    have he : s.data.toList.isEmpty = false := by
      cases h : s.data.toList with
      | nil => exact absurd h h0
      | cons => rfl
    rw [he]
    by_cases hm : (s.size : Int) > most
    · rw [decide_eq_true hm, weirref05_right.j0, if_pos rfl, decide_eq_false (by omega)]
      rfl
    · rw [decide_eq_false hm, weirref05_right.j0, if_neg (by decide), hl, decide_eq_true (by omega)]
      simp
theorem word_f (s : ByteArray) (hs : s.size ≤ 1048576) (k : Nat) (hk : s.size + 12 < k) : ∃ b, ast_word.f s = some b ∧ weirref05_IsWord.f k s = some b := by
  unfold ast_word.f key_Name.f key_right.f weirref05_IsWord.f weirref05_IsName.f
  rw [if_pos (by omega), right_f s hs 64 k hk]
  simp only [Option.bind_some]
  cases rightB s 64 with
  | true => exact ⟨_, rfl, rfl⟩
  | false => exact ⟨false, rfl, rfl⟩
theorem text_f (s : ByteArray) (hs : s.size ≤ 1048576) (k : Nat) (hk : s.size + 12 < k) : ∃ e : Option Int, key_Text.f s = some e ∧ weirref05_IsText.f k s = some e.isNone := by
  unfold key_Text.f key_right.f weirref05_IsText.f
  rw [if_pos (by omega), right_f s hs 256 k hk]
  simp only [Option.bind_some]
  cases rightB s 256 with
  | true => exact ⟨none, rfl, rfl⟩
  | false => exact ⟨_, rfl, rfl⟩
end Go.Proofs.YtlbjfomcgbiagaaGreatDoor.Words
