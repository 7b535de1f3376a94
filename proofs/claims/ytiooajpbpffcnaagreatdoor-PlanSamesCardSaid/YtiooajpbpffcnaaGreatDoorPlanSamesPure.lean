/- Plain law of PlanSames: of every two plans. -/
import Derived.Test.YtiooajpbpffcnaaGreatDoorPrint7
namespace Go.Proofs.YtiooajpbpffcnaaGreatDoor.PlanSames
open Go.RowKit Go.Proofs.YtiooajpbpffcnaaGreatDoorW.PrintWords Go.Proofs.YtiooajpbpffcnaaGreatDoor.Print
set_option linter.unusedVariables false
theorem w64 {x : Int} (h0 : -9223372036854775808 ≤ x) (h1 : x ≤ 9223372036854775807) : wrap64 x = x := by
  unfold wrap64; omega
theorem nodeSame_refl (x : S33) : nodeSame x x = true := by unfold nodeSame; simp
theorem nodesSame_refl : ∀ l : List S33, nodesSame l l = true
  | [] => rfl
  | x :: l => by rw [nodesSame, nodeSame_refl, nodesSame_refl l]; rfl
theorem pairsAll_refl {α : Type} (p : α → α → Bool) (hp : ∀ x, p x x = true) : ∀ l : List α, pairsAll p l l = true
  | [] => rfl
  | x :: l => by rw [pairsAll, hp x, pairsAll_refl p hp l]; rfl
def textSame (x y : ByteArray) : Bool := x.toList == y.toList
def accSame (x y : S48) : Bool := x.f0 == y.f0 && x.f1.toList == y.f1.toList
theorem textSame_refl (x : ByteArray) : textSame x x = true := by unfold textSame; simp
theorem accSame_refl (x : S48) : accSame x x = true := by unfold accSame; simp
theorem outSame_refl (x : S51) : outSame x x = true := by unfold outSame; rw [nodesSame_refl]; simp
theorem rdT (a : List ByteArray) (j : Nat) : rdOf ByteArray.empty a (j : Int) = a.getD j ByteArray.empty := rfl
theorem rdA (a : List S48) (j : Nat) : rd_T48 a (j : Int) = a.getD j z48 := rfl
theorem rdO (a : List S51) (j : Nat) : rd_T51 a (j : Int) = a.getD j z51 := rfl
theorem accNe (x y : S48) : (!(x.f0 == y.f0) || (!(x.f1.toList == y.f1.toList))) = !(accSame x y) := by unfold accSame; cases x.f0 == y.f0 <;> cases x.f1.toList == y.f1.toList <;> rfl
theorem sameTexts_l0 (a b : List ByteArray) (hl : a.length = b.length) (hm : a.length ≤ 9223372036854775807) : ∀ (n j k : Nat), n + j = a.length → n < k → weirref17_sameTexts.l0 k a b (j : Int) = some (pairsAll textSame (a.drop j) (b.drop j))
  | n, j, 0, _, hk => absurd hk (Nat.not_lt_zero _)
  | 0, j, k + 1, hj, _ => by
    rw [weirref17_sameTexts.l0, if_neg (by omega), List.drop_eq_nil_of_le (by omega), List.drop_eq_nil_of_le (by omega)]
    rfl
  | n + 1, j, k + 1, hj, hk => by
    rw [weirref17_sameTexts.l0, if_pos (by omega), if_pos (by omega), if_pos (by omega), pairsAll_step textSame ByteArray.empty (by omega) (by omega), w64 (by omega) (by omega), rdT, rdT]
    have ih := sameTexts_l0 a b hl hm n (j + 1) k (by omega) (by omega)
    rw [show ((j : Int) + 1) = ((j + 1 : Nat) : Int) from rfl, ih]
    generalize a.getD j ByteArray.empty = x
    generalize b.getD j ByteArray.empty = y
    by_cases h : x.toList = y.toList
    · rw [if_pos h, show textSame x y = true from beq_iff_eq.mpr h, Bool.true_and]
    · rw [if_neg h, show textSame x y = false from beq_eq_false_iff_ne.mpr h, Bool.false_and]
theorem equal_l0 (a b : List ByteArray) (hl : a.length = b.length) (hm : a.length ≤ 9223372036854775807) : ∀ (n j k : Nat), n + j = a.length → n < k → slices_Equal_string_string.l0 k a b (a.length : Int) (j : Int) = some (pairsAll textSame (a.drop j) (b.drop j))
  | n, j, 0, _, hk => absurd hk (Nat.not_lt_zero _)
  | 0, j, k + 1, hj, _ => by
    rw [slices_Equal_string_string.l0, if_neg (by omega), List.drop_eq_nil_of_le (by omega), List.drop_eq_nil_of_le (by omega)]
    rfl
  | n + 1, j, k + 1, hj, hk => by
    rw [slices_Equal_string_string.l0, if_pos (by omega), if_pos (by omega), if_pos (by omega), if_pos (by omega), pairsAll_step textSame ByteArray.empty (by omega) (by omega), w64 (by omega) (by omega), rdT, rdT]
    have ih := equal_l0 a b hl hm n (j + 1) k (by omega) (by omega)
    rw [show ((j : Int) + 1) = ((j + 1 : Nat) : Int) from rfl, ih]
    generalize a.getD j ByteArray.empty = x
    generalize b.getD j ByteArray.empty = y
    by_cases h : x.toList = y.toList
    · rw [if_pos h, show textSame x y = true from beq_iff_eq.mpr h, Bool.true_and]
    · rw [if_neg h, show textSame x y = false from beq_eq_false_iff_ne.mpr h, Bool.false_and]
theorem acc_l0 (a b : List S48) (hl : a.length = b.length) (hm : a.length ≤ 9223372036854775807) : ∀ (n j k : Nat), n + j = a.length → n < k → api_Acc.l0 k a b (a.length : Int) (j : Int) = some (pairsAll accSame (a.drop j) (b.drop j))
  | n, j, 0, _, hk => absurd hk (Nat.not_lt_zero _)
  | 0, j, k + 1, hj, _ => by
    rw [api_Acc.l0, if_neg (by omega), List.drop_eq_nil_of_le (by omega), List.drop_eq_nil_of_le (by omega)]
    rfl
  | n + 1, j, k + 1, hj, hk => by
    rw [api_Acc.l0, if_pos (by omega), if_pos (by omega), if_pos (by omega), if_pos (by omega), pairsAll_step accSame z48 (by omega) (by omega), w64 (by omega) (by omega), rdA, rdA]
    have ih := acc_l0 a b hl hm n (j + 1) k (by omega) (by omega)
    rw [show ((j : Int) + 1) = ((j + 1 : Nat) : Int) from rfl, ih]
    generalize a.getD j z48 = x
    generalize b.getD j z48 = y
    rw [accNe]
    cases accSame x y <;> rfl
theorem sameTexts_f (a b : List ByteArray) (hm : a.length ≤ 9223372036854775807) (k : Nat) (hk : a.length < k) : weirref17_sameTexts.f k a b = some (pairsAll textSame a b) := by
  unfold weirref17_sameTexts.f
  by_cases h : a.length = b.length
  · rw [if_pos (by omega)]
    exact sameTexts_l0 a b h hm a.length 0 k rfl hk
  · rw [if_neg (by omega)]
    cases hp : pairsAll textSame a b
    · rfl
    · exact absurd (pairsAll_len _ a b hp) h
theorem equal_f (a b : List ByteArray) (hm : a.length ≤ 9223372036854775807) (k : Nat) (hk : a.length < k) : slices_Equal_string_string.f k a b = some (pairsAll textSame a b) := by
  unfold slices_Equal_string_string.f
  by_cases h : a.length = b.length
  · rw [if_pos (by omega)]
    exact equal_l0 a b h hm a.length 0 k rfl hk
  · rw [if_neg (by omega)]
    cases hp : pairsAll textSame a b
    · rfl
    · exact absurd (pairsAll_len _ a b hp) h
theorem acc_f (a b : List S48) (hm : a.length ≤ 9223372036854775807) (k : Nat) (hk : a.length < k) : api_Acc.f k a b = some (pairsAll accSame a b) := by
  unfold api_Acc.f
  by_cases h : a.length = b.length
  · rw [if_pos (by omega)]
    exact acc_l0 a b h hm a.length 0 k rfl hk
  · rw [if_neg (by omega)]
    cases hp : pairsAll accSame a b
    · rfl
    · exact absurd (pairsAll_len _ a b hp) h
theorem ref_l1 (a0_0 : ByteArray) (a0_1 : ByteArray) (a0_2 : Int) (a0_3 : Int) (l0_4 : List ByteArray) (l0_5 : List S33) (l0_6 : List S48) (l0_7 : List S51) (a1_0 : ByteArray) (a1_1 : ByteArray) (a1_2 : Int) (a1_3 : Int) (l1_4 : List ByteArray) (l1_5 : List S33) (l1_6 : List S48) (l1_7 : List S51) (hl : l0_7.length = l1_7.length) (hm : l0_7.length ≤ 9223372036854775807) : ∀ (n j k : Nat), n + j = l0_7.length → n < k → weirref17_Same.l1 k (j : Int) a0_0 a0_1 a0_2 a0_3 l0_4 l0_5 l0_6 l0_7 a1_0 a1_1 a1_2 a1_3 l1_4 l1_5 l1_6 l1_7 = some (pairsAll outSame (l0_7.drop j) (l1_7.drop j))
  | n, j, 0, _, hk => absurd hk (Nat.not_lt_zero _)
  | 0, j, k + 1, hj, _ => by
    rw [weirref17_Same.l1, if_neg (by omega), List.drop_eq_nil_of_le (by omega), List.drop_eq_nil_of_le (by omega)]
    rfl
  | n + 1, j, k + 1, hj, hk => by
    rw [weirref17_Same.l1, if_pos (by omega), if_pos (by omega), if_pos (by omega), pairsAll_step outSame z51 (by omega) (by omega), w64 (by omega) (by omega), rdO, rdO]
    have ih := ref_l1 a0_0 a0_1 a0_2 a0_3 l0_4 l0_5 l0_6 l0_7 a1_0 a1_1 a1_2 a1_3 l1_4 l1_5 l1_6 l1_7 hl hm n (j + 1) k (by omega) (by omega)
    rw [show ((j : Int) + 1) = ((j + 1 : Nat) : Int) from rfl, ih]
    generalize l0_7.getD j z51 = x
    generalize l1_7.getD j z51 = y
    rw [show outSame x y = (x.f0.toList == y.f0.toList && nodesSame x.f1 y.f1) from rfl]
    unfold weirtree_Same.f
    rw [Option.bind_some]
    by_cases h : x.f0.toList = y.f0.toList
    · cases nodesSame x.f1 y.f1 <;> simp [h]
    · simp [h]
theorem ref_l0 (a0_0 : ByteArray) (a0_1 : ByteArray) (a0_2 : Int) (a0_3 : Int) (l0_4 : List ByteArray) (l0_5 : List S33) (l0_6 : List S48) (l0_7 : List S51) (a1_0 : ByteArray) (a1_1 : ByteArray) (a1_2 : Int) (a1_3 : Int) (l1_4 : List ByteArray) (l1_5 : List S33) (l1_6 : List S48) (l1_7 : List S51) (hl : l0_6.length = l1_6.length) (hm : l0_6.length ≤ 9223372036854775807) (hl7 : l0_7.length = l1_7.length) (hm7 : l0_7.length ≤ 9223372036854775807) : ∀ (n j k : Nat), n + j = l0_6.length → n + l0_7.length + 1 < k → weirref17_Same.l0 k (j : Int) a0_0 a0_1 a0_2 a0_3 l0_4 l0_5 l0_6 l0_7 a1_0 a1_1 a1_2 a1_3 l1_4 l1_5 l1_6 l1_7 = some (pairsAll accSame (l0_6.drop j) (l1_6.drop j) && pairsAll outSame l0_7 l1_7)
  | n, j, 0, _, hk => absurd hk (Nat.not_lt_zero _)
  | 0, j, k + 1, hj, hk => by
    have h := ref_l1 a0_0 a0_1 a0_2 a0_3 l0_4 l0_5 l0_6 l0_7 a1_0 a1_1 a1_2 a1_3 l1_4 l1_5 l1_6 l1_7 hl7 hm7 l0_7.length 0 k rfl (by omega)
    rw [List.drop_zero, List.drop_zero, show ((0 : Nat) : Int) = 0 from rfl] at h
    rw [weirref17_Same.l0, if_neg (by omega), List.drop_eq_nil_of_le (by omega), List.drop_eq_nil_of_le (by omega), h]
    simp [pairsAll]
  | n + 1, j, k + 1, hj, hk => by
    rw [weirref17_Same.l0, if_pos (by omega), if_pos (by omega), if_pos (by omega), pairsAll_step accSame z48 (by omega) (by omega), w64 (by omega) (by omega), rdA, rdA]
    have ih := ref_l0 a0_0 a0_1 a0_2 a0_3 l0_4 l0_5 l0_6 l0_7 a1_0 a1_1 a1_2 a1_3 l1_4 l1_5 l1_6 l1_7 hl hm hl7 hm7 n (j + 1) k (by omega) (by omega)
    rw [show ((j : Int) + 1) = ((j + 1 : Nat) : Int) from rfl, ih]
    generalize l0_6.getD j z48 = x
    generalize l1_6.getD j z48 = y
    rw [accNe]
    cases accSame x y <;> rfl
def said (a0_0 : ByteArray) (a0_1 : ByteArray) (a0_2 : Int) (a0_3 : Int) (l0_4 : List ByteArray) (l0_5 : List S33) (l0_6 : List S48) (l0_7 : List S51) (a1_0 : ByteArray) (a1_1 : ByteArray) (a1_2 : Int) (a1_3 : Int) (l1_4 : List ByteArray) (l1_5 : List S33) (l1_6 : List S48) (l1_7 : List S51) : Bool := a0_0.toList == a1_0.toList && (a0_1.toList == a1_1.toList && (a0_2 == a1_2 && (a0_3 == a1_3 && (pairsAll textSame l0_4 l1_4 && (nodesSame l0_5 l1_5 && (pairsAll accSame l0_6 l1_6 && pairsAll outSame l0_7 l1_7))))))
theorem plan_f (a0_0 : ByteArray) (a0_1 : ByteArray) (a0_2 : Int) (a0_3 : Int) (l0_4 : List ByteArray) (l0_5 : List S33) (l0_6 : List S48) (l0_7 : List S51) (a1_0 : ByteArray) (a1_1 : ByteArray) (a1_2 : Int) (a1_3 : Int) (l1_4 : List ByteArray) (l1_5 : List S33) (l1_6 : List S48) (l1_7 : List S51) (hm4 : l0_4.length ≤ 9223372036854775807) (hm6 : l0_6.length ≤ 9223372036854775807) (hm7 : l0_7.length ≤ 9223372036854775807) (k : Nat) (hk : l0_4.length + l0_6.length + l0_7.length + 3 < k) : plan_Same.f k a0_0 a0_1 a0_2 a0_3 l0_4 l0_5 l0_6 l0_7 a1_0 a1_1 a1_2 a1_3 l1_4 l1_5 l1_6 l1_7 = some (said a0_0 a0_1 a0_2 a0_3 l0_4 l0_5 l0_6 l0_7 a1_0 a1_1 a1_2 a1_3 l1_4 l1_5 l1_6 l1_7) := by
  unfold plan_Same.f api_Out.f ast_Same.f said
  rw [equal_f l0_4 l1_4 hm4 k (by omega), acc_f l0_6 l1_6 hm6 k (by omega)]
  simp only [Option.bind_some]
  by_cases h0 : a0_0.toList = a1_0.toList
  · by_cases h1 : a0_1.toList = a1_1.toList
    · by_cases h2 : a0_2 = a1_2
      · by_cases h3 : a0_3 = a1_3
        · cases pairsAll textSame l0_4 l1_4
          · simp [h0, h1, h2, h3]
          · cases nodesSame l0_5 l1_5
            · simp [h0, h1, h2, h3]
            · cases pairsAll accSame l0_6 l1_6
              · simp [h0, h1, h2, h3]
              · simp [h0, h1, h2, h3]
        · simp [h3]
      · simp [h2]
    · simp [h1]
  · simp [h0]
theorem ref_f (a0_0 : ByteArray) (a0_1 : ByteArray) (a0_2 : Int) (a0_3 : Int) (l0_4 : List ByteArray) (l0_5 : List S33) (l0_6 : List S48) (l0_7 : List S51) (a1_0 : ByteArray) (a1_1 : ByteArray) (a1_2 : Int) (a1_3 : Int) (l1_4 : List ByteArray) (l1_5 : List S33) (l1_6 : List S48) (l1_7 : List S51) (hm4 : l0_4.length ≤ 9223372036854775807) (hm6 : l0_6.length ≤ 9223372036854775807) (hm7 : l0_7.length ≤ 9223372036854775807) (k : Nat) (hk : l0_4.length + l0_6.length + l0_7.length + 3 < k) : weirref17_Same.f k a0_0 a0_1 a0_2 a0_3 l0_4 l0_5 l0_6 l0_7 a1_0 a1_1 a1_2 a1_3 l1_4 l1_5 l1_6 l1_7 = some (said a0_0 a0_1 a0_2 a0_3 l0_4 l0_5 l0_6 l0_7 a1_0 a1_1 a1_2 a1_3 l1_4 l1_5 l1_6 l1_7) := by
  have hj : ∀ b, b = true → weirref17_Same.j0 k b a0_0 a0_1 a0_2 a0_3 l0_4 l0_5 l0_6 l0_7 a1_0 a1_1 a1_2 a1_3 l1_4 l1_5 l1_6 l1_7 = some false := fun b hb => by
    subst hb
    obtain ⟨k', rfl⟩ : ∃ k', k = k' + 1 := ⟨k - 1, by omega⟩
    rw [weirref17_Same.j0, if_pos rfl]
  unfold weirref17_Same.f said
  by_cases h0 : a0_0.toList = a1_0.toList
  · rw [if_pos h0]
    by_cases h1 : a0_1.toList = a1_1.toList
    · rw [if_pos h1]
      by_cases h2 : a0_2 = a1_2
      · rw [if_pos h2]
        by_cases h3 : a0_3 = a1_3
        · rw [if_pos h3, sameTexts_f l0_4 l1_4 hm4 k (by omega), Option.bind_some]
          cases pairsAll textSame l0_4 l1_4
          · rw [if_neg (by decide), hj _ rfl]; simp
          · rw [if_pos rfl]
            unfold weirtree_Same.f
            rw [Option.bind_some]
            cases nodesSame l0_5 l1_5
            · rw [if_neg (by decide), hj _ rfl]; simp
            · rw [if_pos rfl]
              by_cases h6 : l0_6.length = l1_6.length
              · rw [if_pos (by omega)]
                by_cases h7 : l0_7.length = l1_7.length
                · have hb : ((l0_7.length : Int) != (l1_7.length : Int)) = false := bne_eq_false_iff_eq.mpr (by omega)
                  rw [hb]
                  obtain ⟨k', rfl⟩ : ∃ k', k = k' + 1 := ⟨k - 1, by omega⟩
                  rw [weirref17_Same.j0, if_neg (by decide)]
                  have h := ref_l0 a0_0 a0_1 a0_2 a0_3 l0_4 l0_5 l0_6 l0_7 a1_0 a1_1 a1_2 a1_3 l1_4 l1_5 l1_6 l1_7 h6 hm6 h7 hm7 l0_6.length 0 k' rfl (by omega)
                  rw [List.drop_zero, List.drop_zero, show ((0 : Nat) : Int) = 0 from rfl] at h
                  rw [h]
                  simp [h0, h1, h2, h3]
                · rw [hj _ (bne_iff_ne.mpr (by omega))]
                  cases hp : pairsAll outSame l0_7 l1_7
                  · simp
                  · exact absurd (pairsAll_len _ _ _ hp) h7
              · rw [if_neg (by omega), hj _ rfl]
                cases hp : pairsAll accSame l0_6 l1_6
                · simp
                · exact absurd (pairsAll_len _ _ _ hp) h6
        · rw [if_neg h3, hj _ rfl]; simp [h3]
      · rw [if_neg h2, hj _ rfl]; simp [h2]
    · rw [if_neg h1, hj _ rfl]; simp [h1]
  · rw [if_neg h0, hj _ rfl]; simp [h0]
theorem law (a0_0 : ByteArray) (a0_1 : ByteArray) (a0_2 : Int) (a0_3 : Int) (l0_4 : List ByteArray) (l0_5 : List S33) (l0_6 : List S48) (l0_7 : List S51) (a1_0 : ByteArray) (a1_1 : ByteArray) (a1_2 : Int) (a1_3 : Int) (l1_4 : List ByteArray) (l1_5 : List S33) (l1_6 : List S48) (l1_7 : List S51) (hm4 : l0_4.length ≤ 9223372036854775807) (hm6 : l0_6.length ≤ 9223372036854775807) (hm7 : l0_7.length ≤ 9223372036854775807) : ∃ k, weirlaw17_PlanSames.f k a0_0 a0_1 a0_2 a0_3 l0_4 l0_5 l0_6 l0_7 a1_0 a1_1 a1_2 a1_3 l1_4 l1_5 l1_6 l1_7 = some true := by
  refine ⟨l0_4.length + l0_6.length + l0_7.length + 4, ?_⟩
  unfold weirlaw17_PlanSames.f weirlaw17_live.f
  rw [plan_f a0_0 a0_1 a0_2 a0_3 l0_4 l0_5 l0_6 l0_7 a1_0 a1_1 a1_2 a1_3 l1_4 l1_5 l1_6 l1_7 hm4 hm6 hm7 _ (by omega), ref_f a0_0 a0_1 a0_2 a0_3 l0_4 l0_5 l0_6 l0_7 a1_0 a1_1 a1_2 a1_3 l1_4 l1_5 l1_6 l1_7 hm4 hm6 hm7 _ (by omega), plan_f a0_0 a0_1 a0_2 a0_3 l0_4 l0_5 l0_6 l0_7 a0_0 a0_1 a0_2 a0_3 l0_4 l0_5 l0_6 l0_7 hm4 hm6 hm7 _ (by omega)]
  simp only [Option.bind_some, if_true, beq_self_eq_true]
  unfold said
  rw [pairsAll_refl _ textSame_refl, pairsAll_refl _ accSame_refl, pairsAll_refl _ outSame_refl, nodesSame_refl]
  simp
end Go.Proofs.YtiooajpbpffcnaaGreatDoor.PlanSames
