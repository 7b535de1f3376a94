/- Plain law of AstAlike: of every two queries. -/
import Derived.Test.YtabhhfpfdndidaaGreatDoorPrint13
import Derived.Test.YtabhhfpfdndidaaGreatDoorSamesPure
namespace Go.Proofs.YtabhhfpfdndidaaGreatDoor.Alikes
open Go.RowKit Go.Proofs.YtabhhfpfdndidaaGreatDoorW.PrintWords Go.Proofs.YtabhhfpfdndidaaGreatDoor.Print
set_option linter.unusedVariables false
theorem pairsAll_refl {α : Type} (p : α → α → Bool) (hp : ∀ x, p x x = true) : ∀ l : List α, pairsAll p l l = true
  | [] => rfl
  | x :: l => by rw [pairsAll, hp x, pairsAll_refl p hp l]; rfl
theorem itemSame_refl (x : S81) : itemSame x x = true := by unfold itemSame; rw [Sames.nodesSame_refl]; simp
theorem labelSame_refl (x : S39) : labelSame x x = true := by unfold labelSame; simp
theorem rd39 (a : List S39) (j : Nat) : rd_T39 a (j : Int) = a.getD j z39 := rfl
theorem rd81 (a : List S81) (j : Nat) : rd_T81 a (j : Int) = a.getD j z81 := rfl
theorem labels_l0 (a b : List S39) (hl : a.length = b.length) (hm : a.length ≤ 9223372036854775807) : ∀ (n j k : Nat), n + j = a.length → n < k → weirref13_sameLabels.l0 k a b (j : Int) = some (pairsAll labelSame (a.drop j) (b.drop j))
  | n, j, 0, _, hk => absurd hk (Nat.not_lt_zero _)
  | 0, j, k + 1, hj, _ => by
    rw [weirref13_sameLabels.l0, if_neg (by omega), List.drop_eq_nil_of_le (by omega), List.drop_eq_nil_of_le (by omega)]
    rfl
  | n + 1, j, k + 1, hj, hk => by
    rw [weirref13_sameLabels.l0, if_pos (by omega), if_pos (by omega), if_pos (by omega), pairsAll_step labelSame z39 (by omega) (by omega), Ends.w64 (by omega) (by omega), rd39, rd39]
    have ih := labels_l0 a b hl hm n (j + 1) k (by omega) (by omega)
    rw [show ((j : Int) + 1) = ((j + 1 : Nat) : Int) from rfl, ih]
    by_cases h : (a.getD j z39).f0.toList = (b.getD j z39).f0.toList
    · rw [if_pos h, show labelSame (a.getD j z39) (b.getD j z39) = true from beq_iff_eq.mpr h, Bool.true_and]
    · rw [if_neg h, show labelSame (a.getD j z39) (b.getD j z39) = false from beq_eq_false_iff_ne.mpr h, Bool.false_and]
theorem sameLabels_f (a b : List S39) (hm : a.length ≤ 9223372036854775807) (k : Nat) (hk : a.length < k) : weirref13_sameLabels.f k a b = some (pairsAll labelSame a b) := by
  unfold weirref13_sameLabels.f
  by_cases h : a.length = b.length
  · rw [if_pos (by omega)]
    exact labels_l0 a b h hm a.length 0 k rfl hk
  · rw [if_neg (by omega)]
    cases hp : pairsAll labelSame a b
    · rfl
    · exact absurd (pairsAll_len _ a b hp) h
theorem items_l0 (l0_0 : List S81) (a0_1 : ByteArray) (a0_2 : Int) (a0_3 : ByteArray) (a0_4 : Int) (l0_5 : List S35) (a0_6 : Int) (a0_7 : Int) (a0_8 : Int) (l0_9 : List S39) (a0_10 : Int) (a0_11 : Int) (a0_12 : Int) (l1_0 : List S81) (a1_1 : ByteArray) (a1_2 : Int) (a1_3 : ByteArray) (a1_4 : Int) (l1_5 : List S35) (a1_6 : Int) (a1_7 : Int) (a1_8 : Int) (l1_9 : List S39) (a1_10 : Int) (a1_11 : Int) (a1_12 : Int) (hl : l0_0.length = l1_0.length) (hm : l0_0.length ≤ 9223372036854775807) (hm9 : l0_9.length ≤ 9223372036854775807) : ∀ (n j k : Nat), n + j = l0_0.length → n + l0_9.length + 1 < k → weirref13_Alike.l0 k (j : Int) l0_0 a0_1 a0_2 a0_3 a0_4 l0_5 a0_6 a0_7 a0_8 l0_9 a0_10 a0_11 a0_12 l1_0 a1_1 a1_2 a1_3 a1_4 l1_5 a1_6 a1_7 a1_8 l1_9 a1_10 a1_11 a1_12 = some (pairsAll itemSame (l0_0.drop j) (l1_0.drop j) && (pairsAll labelSame l0_9 l1_9 && (a0_10 == a1_10 && a0_11 == a1_11)))
  | n, j, 0, _, hk => absurd hk (Nat.not_lt_zero _)
  | 0, j, k + 1, hj, hk => by
    rw [weirref13_Alike.l0, if_neg (by omega), List.drop_eq_nil_of_le (by omega), List.drop_eq_nil_of_le (by omega), sameLabels_f l0_9 l1_9 hm9 k (by omega), Option.bind_some, pairsAll]
    cases pairsAll labelSame l0_9 l1_9
    · rfl
    · by_cases h : a0_10 = a1_10
      · simp [h]
      · simp [h]
  | n + 1, j, k + 1, hj, hk => by
    rw [weirref13_Alike.l0, if_pos (by omega), if_pos (by omega), if_pos (by omega), pairsAll_step itemSame z81 (by omega) (by omega), Ends.w64 (by omega) (by omega), rd81, rd81]
    have ih := items_l0 l0_0 a0_1 a0_2 a0_3 a0_4 l0_5 a0_6 a0_7 a0_8 l0_9 a0_10 a0_11 a0_12 l1_0 a1_1 a1_2 a1_3 a1_4 l1_5 a1_6 a1_7 a1_8 l1_9 a1_10 a1_11 a1_12 hl hm hm9 n (j + 1) k (by omega) (by omega)
    rw [show ((j : Int) + 1) = ((j + 1 : Nat) : Int) from rfl, ih]
    generalize l0_0.getD j z81 = x
    generalize l1_0.getD j z81 = y
    rw [show itemSame x y = (x.f1.f0.toList == y.f1.f0.toList && nodesSame x.f0 y.f0) from rfl]
    unfold weirtree_Same.f
    rw [Option.bind_some]
    cases nodesSame x.f0 y.f0
    · simp
    · by_cases h : x.f1.f0.toList = y.f1.f0.toList
      · simp [h]
      · simp [h]
def said (l0_0 : List S81) (a0_1 : ByteArray) (a0_2 : Int) (a0_3 : ByteArray) (a0_4 : Int) (l0_5 : List S35) (a0_6 : Int) (a0_7 : Int) (a0_8 : Int) (l0_9 : List S39) (a0_10 : Int) (a0_11 : Int) (a0_12 : Int) (l1_0 : List S81) (a1_1 : ByteArray) (a1_2 : Int) (a1_3 : ByteArray) (a1_4 : Int) (l1_5 : List S35) (a1_6 : Int) (a1_7 : Int) (a1_8 : Int) (l1_9 : List S39) (a1_10 : Int) (a1_11 : Int) (a1_12 : Int) : Bool := pairsAll itemSame l0_0 l1_0 && (a0_1.toList == a1_1.toList && (a0_3.toList == a1_3.toList && (nodesSame l0_5 l1_5 && (a0_6 == a1_6 && (a0_7 == a1_7 && (pairsAll labelSame l0_9 l1_9 && (a0_10 == a1_10 && a0_11 == a1_11)))))))
theorem ast_f (l0_0 : List S81) (a0_1 : ByteArray) (a0_2 : Int) (a0_3 : ByteArray) (a0_4 : Int) (l0_5 : List S35) (a0_6 : Int) (a0_7 : Int) (a0_8 : Int) (l0_9 : List S39) (a0_10 : Int) (a0_11 : Int) (a0_12 : Int) (l1_0 : List S81) (a1_1 : ByteArray) (a1_2 : Int) (a1_3 : ByteArray) (a1_4 : Int) (l1_5 : List S35) (a1_6 : Int) (a1_7 : Int) (a1_8 : Int) (l1_9 : List S39) (a1_10 : Int) (a1_11 : Int) (a1_12 : Int) : ast_Alike.f l0_0 a0_1 a0_2 a0_3 a0_4 l0_5 a0_6 a0_7 a0_8 l0_9 a0_10 a0_11 a0_12 l1_0 a1_1 a1_2 a1_3 a1_4 l1_5 a1_6 a1_7 a1_8 l1_9 a1_10 a1_11 a1_12 = some (said l0_0 a0_1 a0_2 a0_3 a0_4 l0_5 a0_6 a0_7 a0_8 l0_9 a0_10 a0_11 a0_12 l1_0 a1_1 a1_2 a1_3 a1_4 l1_5 a1_6 a1_7 a1_8 l1_9 a1_10 a1_11 a1_12) := by
  unfold ast_Alike.f api_Item.f api_Label.f ast_Same.f said
  simp only [Option.bind_some]
  cases pairsAll itemSame l0_0 l1_0
  · simp
  · by_cases h1 : a0_1.toList = a1_1.toList
    · by_cases h3 : a0_3.toList = a1_3.toList
      · cases nodesSame l0_5 l1_5
        · simp [h1, h3]
        · by_cases h6 : a0_6 = a1_6
          · by_cases h7 : a0_7 = a1_7
            · cases pairsAll labelSame l0_9 l1_9
              · simp [h1, h3, h6, h7]
              · by_cases h10 : a0_10 = a1_10
                · simp [h1, h3, h6, h7, h10]
                · simp [h1, h3, h6, h7, h10]
            · simp [h1, h3, h6, h7]
          · simp [h1, h3, h6]
      · simp [h1, h3]
    · simp [h1]
theorem j0_true (k : Nat) (l0_0 : List S81) (a0_1 : ByteArray) (a0_2 : Int) (a0_3 : ByteArray) (a0_4 : Int) (l0_5 : List S35) (a0_6 : Int) (a0_7 : Int) (a0_8 : Int) (l0_9 : List S39) (a0_10 : Int) (a0_11 : Int) (a0_12 : Int) (l1_0 : List S81) (a1_1 : ByteArray) (a1_2 : Int) (a1_3 : ByteArray) (a1_4 : Int) (l1_5 : List S35) (a1_6 : Int) (a1_7 : Int) (a1_8 : Int) (l1_9 : List S39) (a1_10 : Int) (a1_11 : Int) (a1_12 : Int) (hk : 0 < k) : weirref13_Alike.j0 k true l0_0 a0_1 a0_2 a0_3 a0_4 l0_5 a0_6 a0_7 a0_8 l0_9 a0_10 a0_11 a0_12 l1_0 a1_1 a1_2 a1_3 a1_4 l1_5 a1_6 a1_7 a1_8 l1_9 a1_10 a1_11 a1_12 = some false := by
  cases k with
  | zero => exact absurd hk (Nat.lt_irrefl 0)
  | succ k => rw [weirref13_Alike.j0, if_pos rfl]
theorem ref_f (l0_0 : List S81) (a0_1 : ByteArray) (a0_2 : Int) (a0_3 : ByteArray) (a0_4 : Int) (l0_5 : List S35) (a0_6 : Int) (a0_7 : Int) (a0_8 : Int) (l0_9 : List S39) (a0_10 : Int) (a0_11 : Int) (a0_12 : Int) (l1_0 : List S81) (a1_1 : ByteArray) (a1_2 : Int) (a1_3 : ByteArray) (a1_4 : Int) (l1_5 : List S35) (a1_6 : Int) (a1_7 : Int) (a1_8 : Int) (l1_9 : List S39) (a1_10 : Int) (a1_11 : Int) (a1_12 : Int) (hm : l0_0.length ≤ 9223372036854775807) (hm9 : l0_9.length ≤ 9223372036854775807) (k : Nat) (hk : l0_0.length + l0_9.length + 2 < k) : weirref13_Alike.f k l0_0 a0_1 a0_2 a0_3 a0_4 l0_5 a0_6 a0_7 a0_8 l0_9 a0_10 a0_11 a0_12 l1_0 a1_1 a1_2 a1_3 a1_4 l1_5 a1_6 a1_7 a1_8 l1_9 a1_10 a1_11 a1_12 = some (said l0_0 a0_1 a0_2 a0_3 a0_4 l0_5 a0_6 a0_7 a0_8 l0_9 a0_10 a0_11 a0_12 l1_0 a1_1 a1_2 a1_3 a1_4 l1_5 a1_6 a1_7 a1_8 l1_9 a1_10 a1_11 a1_12) := by
  have hj : ∀ b, b = true → weirref13_Alike.j0 k b l0_0 a0_1 a0_2 a0_3 a0_4 l0_5 a0_6 a0_7 a0_8 l0_9 a0_10 a0_11 a0_12 l1_0 a1_1 a1_2 a1_3 a1_4 l1_5 a1_6 a1_7 a1_8 l1_9 a1_10 a1_11 a1_12 = some false := fun b hb => by
    subst hb
    exact j0_true k l0_0 a0_1 a0_2 a0_3 a0_4 l0_5 a0_6 a0_7 a0_8 l0_9 a0_10 a0_11 a0_12 l1_0 a1_1 a1_2 a1_3 a1_4 l1_5 a1_6 a1_7 a1_8 l1_9 a1_10 a1_11 a1_12 (by omega)
  unfold weirref13_Alike.f said
  by_cases hl : l0_0.length = l1_0.length
  · rw [if_pos (by omega)]
    by_cases h1 : a0_1.toList = a1_1.toList
    · rw [if_pos h1]
      by_cases h3 : a0_3.toList = a1_3.toList
      · rw [if_pos h3]
        unfold weirtree_Same.f
        rw [Option.bind_some]
        cases nodesSame l0_5 l1_5
        · rw [if_neg (by decide), hj _ rfl]
          simp
        · rw [if_pos rfl]
          by_cases h6 : a0_6 = a1_6
          · rw [if_pos h6]
            by_cases h7 : a0_7 = a1_7
            · have hb : (a0_7 != a1_7) = false := bne_eq_false_iff_eq.mpr h7
              rw [hb]
              obtain ⟨k', rfl⟩ : ∃ k', k = k' + 1 := ⟨k - 1, by omega⟩
              rw [weirref13_Alike.j0, if_neg (by decide)]
              have h := items_l0 l0_0 a0_1 a0_2 a0_3 a0_4 l0_5 a0_6 a0_7 a0_8 l0_9 a0_10 a0_11 a0_12 l1_0 a1_1 a1_2 a1_3 a1_4 l1_5 a1_6 a1_7 a1_8 l1_9 a1_10 a1_11 a1_12 hl hm hm9 l0_0.length 0 k' rfl (by omega)
              rw [List.drop_zero, List.drop_zero] at h
              rw [show ((0 : Nat) : Int) = 0 from rfl] at h
              rw [h]
              simp [h1, h3, h6, h7]
            · rw [hj _ (bne_iff_ne.mpr h7)]
              simp [h7]
          · rw [if_neg h6, hj _ rfl]
            simp [h6]
      · rw [if_neg h3, hj _ rfl]
        simp [h3]
    · rw [if_neg h1, hj _ rfl]
      simp [h1]
  · rw [if_neg (by omega), hj _ rfl]
    cases hp : pairsAll itemSame l0_0 l1_0
    · rfl
    · exact absurd (pairsAll_len _ _ _ hp) hl
theorem law (l0_0 : List S81) (a0_1 : ByteArray) (a0_2 : Int) (a0_3 : ByteArray) (a0_4 : Int) (l0_5 : List S35) (a0_6 : Int) (a0_7 : Int) (a0_8 : Int) (l0_9 : List S39) (a0_10 : Int) (a0_11 : Int) (a0_12 : Int) (l1_0 : List S81) (a1_1 : ByteArray) (a1_2 : Int) (a1_3 : ByteArray) (a1_4 : Int) (l1_5 : List S35) (a1_6 : Int) (a1_7 : Int) (a1_8 : Int) (l1_9 : List S39) (a1_10 : Int) (a1_11 : Int) (a1_12 : Int) (hm : l0_0.length ≤ 9223372036854775807) (hm9 : l0_9.length ≤ 9223372036854775807) : ∃ k, weirlaw13_AstAlike.f k l0_0 a0_1 a0_2 a0_3 a0_4 l0_5 a0_6 a0_7 a0_8 l0_9 a0_10 a0_11 a0_12 l1_0 a1_1 a1_2 a1_3 a1_4 l1_5 a1_6 a1_7 a1_8 l1_9 a1_10 a1_11 a1_12 = some true := by
  refine ⟨l0_0.length + l0_9.length + 43, ?_⟩
  unfold weirlaw13_AstAlike.f
  rw [Ends.live_true _ (by omega), ast_f, ref_f l0_0 a0_1 a0_2 a0_3 a0_4 l0_5 a0_6 a0_7 a0_8 l0_9 a0_10 a0_11 a0_12 l1_0 a1_1 a1_2 a1_3 a1_4 l1_5 a1_6 a1_7 a1_8 l1_9 a1_10 a1_11 a1_12 hm hm9 _ (by omega), ast_f]
  simp only [Option.bind_some, if_true, beq_self_eq_true]
  unfold said
  rw [pairsAll_refl _ itemSame_refl, pairsAll_refl _ labelSame_refl, Sames.nodesSame_refl]
  simp
end Go.Proofs.YtabhhfpfdndidaaGreatDoor.Alikes
