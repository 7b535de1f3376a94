/- Plain law of AstWalks, first half: End and Kids of both packages, SameInts. (Depth is still to do.) -/
import Derived.Test.YtabhhfpfdndidaaGreatDoorPrint14
import Derived.Test.YtabhhfpfdndidaaGreatDoorPrint15
import Derived.Test.YtabhhfpfdndidaaGreatDoorEndsPure
namespace Go.Proofs.YtabhhfpfdndidaaGreatDoor.WalksPure
open Go.RowKit Go.Proofs.YtabhhfpfdndidaaGreatDoorW.PrintWords Go.Proofs.YtabhhfpfdndidaaGreatDoorW.PrintMore Go.Proofs.YtabhhfpfdndidaaGreatDoor.Print Go.Proofs.YtabhhfpfdndidaaGreatDoor.Nodes Go.Proofs.YtabhhfpfdndidaaGreatDoor.Ends
theorem same_l0 (a : List Int) (hm : a.length ≤ 1048576) : ∀ (n j k : Nat), n + j = a.length → n < k → weirmem_SameInts.l0 k a a (j : Int) = some true
  | n, j, 0, _, hk => absurd hk (Nat.not_lt_zero _)
  | 0, j, k + 1, hj, _ => by
    rw [weirmem_SameInts.l0, if_neg (by omega)]
  | n + 1, j, k + 1, hj, hk => by
    rw [weirmem_SameInts.l0, if_pos (by omega), if_pos (by omega), if_pos (by omega), if_pos rfl, w64 (by omega) (by omega)]
    exact same_l0 a hm n (j + 1) k (by omega) (by omega)
theorem same_f (a : List Int) (hm : a.length ≤ 1048576) (k : Nat) (hk : a.length < k) : weirmem_SameInts.f k a a = some true := by
  rw [weirmem_SameInts.f, if_pos rfl]
  exact same_l0 a hm a.length 0 k rfl hk
theorem wend_l0 (l : List S35) (hL : l.length ≤ 1048576) : ∀ (s : List S35) (p : Nat) (o : Int) (k : Nat), l.drop p = s → p + s.length = l.length → 0 ≤ o → o + s.length * 1048576 ≤ 4611686018427387904 → 2 * s.length + 1 < k →
    weirtree_End.l0 k l p o = some (fin l.length s p o : Int)
  | [], p, o, k, hs, hp, h0, h1, hk => by
    obtain ⟨k, rfl⟩ : ∃ m, k = m + 2 := ⟨k - 2, by simp at hk; omega⟩
    simp only [List.length_nil, Nat.add_zero] at hp
    rw [weirtree_End.l0, if_neg (by omega), weirtree_End.j2, if_neg (by simp), fin]
    by_cases h : o > 0
    · rw [if_pos h, if_neg (by omega)]; rfl
    · rw [if_neg h, if_pos (by omega)]
  | n :: s, p, o, k, hs, hp, h0, h1, hk => by
    obtain ⟨k, rfl⟩ : ∃ m, k = m + 2 := ⟨k - 2, by simp at hk; omega⟩
    obtain ⟨hr, hs2, hlt⟩ := drop_rd hs
    simp only [List.length_cons] at hp h1 hk
    rw [weirtree_End.l0, if_pos (by omega), weirtree_End.j2, fin]
    by_cases h : o > 0
    · rw [decide_eq_true h, if_pos rfl, if_pos (by omega), if_pos (by omega), hr, if_neg (show ¬ o ≤ 0 by omega)]
      by_cases h2 : n.f4 < 0
      · rw [if_pos h2, if_pos (.inl h2)]; rfl
      · rw [if_neg h2]
        by_cases h3 : n.f4 > (l.length : Int)
        · rw [if_pos h3, if_pos (.inr h3)]; rfl
        · rw [if_neg h3, if_neg (by omega), w64 (x := n.f4 - 1) (by omega) (by omega), w64 (by omega) (by omega), w64 (by omega) (by omega)]
          have := wend_l0 l hL s (p + 1) (o + n.f4 - 1) k hs2 (by omega) (by omega) (by omega) (by omega)
          rw [← this, show o + (n.f4 - 1) = o + n.f4 - 1 by omega]
          rfl
    · rw [decide_eq_false h, if_neg (by simp), if_neg h, if_pos (by omega)]
theorem wend_f (l : List S35) (hL : l.length ≤ 1048576) (i : Int) (k : Nat) (hk : 2 * l.length + 4 ≤ k) : weirtree_End.f k l i = some (endI l i) := by
  obtain ⟨k, rfl⟩ : ∃ m, k = m + 1 := ⟨k - 1, by omega⟩
  unfold weirtree_End.f endI
  by_cases h : i < 0
  · rw [if_pos h, if_pos (.inl h)]; rfl
  · rw [if_neg h]
    by_cases h2 : i ≥ l.length
    · rw [if_pos (.inr h2), decide_eq_true h2]; rfl
    · rw [if_neg (by omega), decide_eq_false h2, weirtree_End.j0, if_neg (by simp)]
      have e : ((i.toNat : Nat) : Int) = i := by omega
      have := wend_l0 l hL (l.drop i.toNat) i.toNat 1 k rfl (by rw [List.length_drop]; omega) (by omega) (by rw [List.length_drop]; omega) (by rw [List.length_drop]; omega)
      rw [e] at this
      exact this
/-- Of a + b open trees, once the first a end: the last b from there. -/
theorem fin_join (L : Int) : ∀ (s : List S35) (p : Nat) (a b : Int), 0 ≤ a → 0 ≤ b → 1 ≤ p → fin L s p a ≠ 0 → fin L (s.drop (fin L s p a - p)) (fin L s p a) b = fin L s p (a + b)
  | [], p, a, b, ha, hb, hp, h => by
    have h0 : a = 0 := by
      by_cases h1 : a ≤ 0
      · omega
      · exact absurd (by rw [fin, if_neg h1]) h
    subst h0
    have e : fin L [] p 0 = p := by rw [fin, if_pos (by omega)]
    rw [e, List.drop_nil, Int.zero_add]
  | n :: s, p, a, b, ha, hb, hp, h => by
    by_cases h0 : a ≤ 0
    · have e : a = 0 := by omega
      subst e
      have e1 : fin L (n :: s) p 0 = p := by unfold fin; simp
      rw [e1, Nat.sub_self, List.drop_zero, Int.zero_add]
    · by_cases h2 : n.f4 < 0 ∨ n.f4 > L
      · exact absurd (by rw [fin, if_neg h0, if_pos h2]) h
      · have e1 : fin L (n :: s) p a = fin L s (p + 1) (a + n.f4 - 1) := by rw [fin, if_neg h0, if_neg h2]
        have e2 : fin L (n :: s) p (a + b) = fin L s (p + 1) ((a + n.f4 - 1) + b) := by
          rw [fin, if_neg (show ¬ a + b ≤ 0 by omega), if_neg h2, show a + b + n.f4 - 1 = (a + n.f4 - 1) + b by omega]
        rw [e1] at h
        have ih := fin_join L s (p + 1) (a + n.f4 - 1) b (by omega) hb (by omega) h
        have hg := fin_ge L s (p + 1) _ h
        rw [e1, e2, ← ih]
        congr 1
        rw [show fin L s (p + 1) (a + n.f4 - 1) - p = (fin L s (p + 1) (a + n.f4 - 1) - (p + 1)) + 1 by omega, List.drop_succ_cons]
theorem fin_one_gt (L : Int) (s : List S35) (p : Nat) (h : fin L s p 1 ≠ 0) : p < fin L s p 1 := by
  cases s with
  | nil => rw [fin, if_neg (by omega)] at h; exact absurd rfl h
  | cons n s =>
    rw [fin, if_neg (by omega)] at h ⊢
    by_cases h2 : n.f4 < 0 ∨ n.f4 > L
    · rw [if_pos h2] at h; exact absurd rfl h
    · rw [if_neg h2] at h ⊢
      have := fin_ge L s (p + 1) _ h
      omega
theorem wk_l0 (l : List S35) (hL : l.length ≤ 1048576) (at_ : Int) (ha0 : 0 ≤ at_) (ha1 : at_ < l.length) (hx : (rd_T35 l at_).f4 ≤ 9223372036854775807) : ∀ (m d : Nat) (acc : List Int) (p : Nat) (j : Int) (k : Nat), (rd_T35 l at_).f4 - j = d → 0 ≤ j → 1 ≤ p → p ≤ l.length → l.length + 1 ≤ p + m → acc.length + m ≤ 4194304 → m + 2 * l.length + 6 ≤ k →
    weirtree_Kids.l0 k l at_ acc p j = some (if fin l.length (l.drop p) p d = 0 then [] else acc ++ steps l p d)
  | 0, d, acc, p, j, k, hd, hj, hp, hpl, hm, ha, hk => by omega
  | m + 1, d, acc, p, j, k, hd, hj, hp, hpl, hm, ha, hk => by
    obtain ⟨k, rfl⟩ : ∃ m, k = m + 1 := ⟨k - 1, by omega⟩
    rw [weirtree_Kids.l0, if_pos ha0, if_pos ha1]
    cases d with
    | zero =>
      have e : fin l.length (l.drop p) p ((0 : Nat) : Int) = p := by
        cases l.drop p with
        | nil => simp [fin]
        | cons n s => simp [fin]
      rw [if_neg (by omega), e, if_neg (by omega)]
      simp [steps]
    | succ d =>
      rw [if_pos (by omega), wend_f l hL p k (by omega), Option.bind_some]
      have hc : ((d + 1 : Nat) : Int) = 1 + (d : Int) := by omega
      rw [hc]
      have hp0 : ¬ ((p : Int) < 0) := by omega
      by_cases hlt : p < l.length
      · have he : endI l p = fin l.length (l.drop p) p 1 := by
          unfold endI
          rw [if_neg (by omega)]
          rfl
        by_cases h0 : fin l.length (l.drop p) p 1 = 0
        · have h1 : fin l.length (l.drop p) p (1 + (d : Int)) = 0 := by
            by_cases h2 : fin l.length (l.drop p) p (1 + (d : Int)) = 0
            · exact h2
            · exact absurd h0 (fin_add l.length (l.drop p) p 1 d (by omega) (by omega) h2 hp).1
          rw [he, h0, if_pos (show ((0 : Nat) : Int) = 0 from rfl), if_pos h1]
        · have hg := fin_one_gt l.length (l.drop p) p h0
          have hle := fin_le l.length (l.drop p) p 1
          rw [List.length_drop] at hle
          have hj2 := fin_join l.length (l.drop p) p 1 d (by omega) (by omega) hp h0
          rw [List.drop_drop, show p + (fin l.length (l.drop p) p 1 - p) = fin l.length (l.drop p) p 1 by omega] at hj2
          rw [he, if_neg (by omega), if_pos (by omega), w64 (by omega) (by omega), ← hj2]
          rw [wk_l0 l hL at_ ha0 ha1 hx m d (acc ++ [(p : Int)]) (fin l.length (l.drop p) p 1) (j + 1) k (by omega) (by omega) (by omega) (by omega) (by omega) (by simp; omega) (by omega)]
          simp [steps, he]
      · have he : endI l p = 0 := by
          unfold endI
          rw [if_pos (.inr (by omega))]
        have h1 : fin l.length (l.drop p) p (1 + (d : Int)) = 0 := by
          rw [List.drop_eq_nil_of_le (by omega), fin, if_neg (by omega)]
        rw [he, if_pos rfl, if_pos h1]
theorem fin_few (L : Int) : ∀ (s : List S35) (p : Nat) (o : Int), fin L s p o ≠ 0 → o ≤ s.length
  | [], p, o, h => by
    by_cases h1 : o ≤ 0
    · simpa using h1
    · exact absurd (by rw [fin, if_neg h1]) h
  | n :: s, p, o, h => by
    by_cases h1 : o ≤ 0
    · simp only [List.length_cons]; omega
    · by_cases h2 : n.f4 < 0 ∨ n.f4 > L
      · exact absurd (by rw [fin, if_neg h1, if_pos h2]) h
      · rw [fin, if_neg h1, if_neg h2] at h
        have := fin_few L s (p + 1) _ h
        simp only [List.length_cons]; omega
theorem wkids_f (l : List S35) (hL : l.length ≤ 1048576) (hx : ∀ i, (rd_T35 l i).f4 ≤ 9223372036854775807) (i : Int) (k : Nat) (hk : 3 * l.length + 12 ≤ k) : weirtree_Kids.f k l i = some (kidsI l i) := by
  obtain ⟨k, rfl⟩ : ∃ m, k = m + 2 := ⟨k - 2, by omega⟩
  unfold weirtree_Kids.f kidsI
  by_cases h : i < 0
  · rw [if_pos h, weirtree_Kids.j0, if_pos rfl, if_pos (by unfold endI; rw [if_pos (.inl h)])]
  · rw [if_neg h]
    by_cases h2 : i ≥ l.length
    · rw [decide_eq_true h2, weirtree_Kids.j0, if_pos rfl, if_pos (by unfold endI; rw [if_pos (.inr h2)])]
    · rw [decide_eq_false h2, weirtree_Kids.j0, if_neg (by simp), w64 (by omega) (by omega)]
      have hlt : i.toNat < l.length := by omega
      obtain ⟨hr, hs, _⟩ := drop_rd (List.drop_eq_getElem_cons hlt)
      have e : ((i.toNat : Nat) : Int) = i := by omega
      rw [e] at hr
      have he : endI l i = (if (rd_T35 l i).f4 < 0 ∨ (rd_T35 l i).f4 > (l.length : Int) then 0 else fin l.length (l.drop (i.toNat + 1)) (i.toNat + 1) (rd_T35 l i).f4 : Nat) := by
        unfold endI
        rw [if_neg (by omega), List.drop_eq_getElem_cons hlt, fin, if_neg (by omega), ← hr, show (1 : Int) + (rd_T35 l i).f4 - 1 = (rd_T35 l i).f4 by omega]
      by_cases h3 : (rd_T35 l i).f4 < 0
      · rw [he, if_pos (show (rd_T35 l i).f4 < 0 ∨ (rd_T35 l i).f4 > (l.length : Int) from .inl h3), if_pos (show ((0 : Nat) : Int) = 0 from rfl), weirtree_Kids.l0, if_pos (by omega), if_pos (by omega), if_neg (by omega)]
      · have h5 := wk_l0 l hL i (by omega) (by omega) (hx i) (l.length + 1) (rd_T35 l i).f4.toNat [] (i.toNat + 1) 0 (k + 1) (by omega) (by omega) (by omega) (by omega) (by omega) (by simp; omega) (by omega)
        rw [show (((i.toNat + 1 : Nat)) : Int) = i + 1 by omega, show (((rd_T35 l i).f4.toNat : Nat) : Int) = (rd_T35 l i).f4 by omega] at h5
        rw [h5, he]
        by_cases h4 : (rd_T35 l i).f4 > (l.length : Int)
        · have h6 : fin l.length (l.drop (i.toNat + 1)) (i.toNat + 1) (rd_T35 l i).f4 = 0 := by
            by_cases h7 : fin l.length (l.drop (i.toNat + 1)) (i.toNat + 1) (rd_T35 l i).f4 = 0
            · exact h7
            · have := fin_few _ _ _ _ h7
              rw [List.length_drop] at this
              omega
          rw [if_pos h6, if_pos (show (rd_T35 l i).f4 < 0 ∨ (rd_T35 l i).f4 > (l.length : Int) from .inr h4), if_pos (show ((0 : Nat) : Int) = 0 from rfl)]
        · rw [if_neg (show ¬ ((rd_T35 l i).f4 < 0 ∨ (rd_T35 l i).f4 > (l.length : Int)) by omega)]
          by_cases h6 : fin l.length (l.drop (i.toNat + 1)) (i.toNat + 1) (rd_T35 l i).f4 = 0
          · rw [if_pos h6, if_pos (by omega)]
          · rw [if_neg h6, if_neg (by omega)]
            rfl
end Go.Proofs.YtabhhfpfdndidaaGreatDoor.WalksPure
