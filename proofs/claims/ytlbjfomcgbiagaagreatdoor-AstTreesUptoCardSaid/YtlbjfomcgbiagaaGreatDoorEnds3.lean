/- End, Kids, Depth of both packages: of every list of at most 2^20 nodes, kids stand one behind the other, and the last one ends where the node's tree does. No program's memory in sight. -/
import Derived.Test.YtlbjfomcgbiagaaGreatDoorPrint2
import Derived.Test.YtlbjfomcgbiagaaGreatDoorPrint5
import Derived.Test.YtlbjfomcgbiagaaGreatDoorPrint7
import Derived.Test.YtlbjfomcgbiagaaGreatDoorNodes
namespace Go.Proofs.YtlbjfomcgbiagaaGreatDoor.Ends
open Go.RowKit Go.Proofs.YtlbjfomcgbiagaaGreatDoorW.PrintWords Go.Proofs.YtlbjfomcgbiagaaGreatDoorW.PrintMore Go.Proofs.YtlbjfomcgbiagaaGreatDoor.Print Go.Proofs.YtlbjfomcgbiagaaGreatDoor.Nodes

/-- Where so many open trees end that begin at place p with the nodes s; 0: they do not all stand there. -/
def fin (L : Int) : List S56 → Nat → Int → Nat
  | [], p, o => if o ≤ 0 then p else 0
  | n :: s, p, o => if o ≤ 0 then p else if n.f4 < 0 ∨ n.f4 > L then 0 else fin L s (p + 1) (o + n.f4 - 1)

theorem fin_le (L : Int) : ∀ (s : List S56) (p : Nat) (o : Int), fin L s p o ≤ p + s.length
  | [], p, o => by unfold fin; split <;> simp
  | n :: s, p, o => by
    unfold fin
    split
    · omega
    · split
      · omega
      · have := fin_le L s (p + 1) (o + n.f4 - 1)
        simp only [List.length_cons]; omega
theorem fin_ge (L : Int) : ∀ (s : List S56) (p : Nat) (o : Int), fin L s p o ≠ 0 → p ≤ fin L s p o
  | [], p, o, h => by unfold fin at h ⊢; split <;> simp_all
  | n :: s, p, o, h => by
    unfold fin at h ⊢
    split
    · omega
    · rename_i h1
      rw [if_neg h1] at h
      split
      · rename_i h2; rw [if_pos h2] at h; exact absurd rfl h
      · rename_i h2
        rw [if_neg h2] at h
        have := fin_ge L s (p + 1) _ h
        omega

/-- Of a + b open trees, the first a end where the last b begin. -/
theorem fin_add (L : Int) : ∀ (s : List S56) (p : Nat) (a b : Int), 0 ≤ a → 0 ≤ b → fin L s p (a + b) ≠ 0 → 1 ≤ p →
    fin L s p a ≠ 0 ∧ fin L (s.drop (fin L s p a - p)) (fin L s p a) b = fin L s p (a + b)
  | [], p, a, b, ha, hb, h, hp => by
    have hab : a + b ≤ 0 := by
      by_cases h1 : a + b ≤ 0
      · exact h1
      · exact absurd (by rw [fin, if_neg h1]) h
    have e : ∀ o : Int, o ≤ 0 → fin L [] p o = p := fun o ho => by rw [fin, if_pos ho]
    rw [e a (by omega), e (a + b) hab]
    refine ⟨by omega, ?_⟩
    rw [List.drop_nil, e b (by omega)]
  | n :: s, p, a, b, ha, hb, h, hp => by
    by_cases h0 : a ≤ 0
    · have e : a = 0 := by omega
      subst e
      have e1 : fin L (n :: s) p 0 = p := by unfold fin; simp
      rw [e1]
      refine ⟨by omega, ?_⟩
      rw [Nat.sub_self, List.drop_zero, Int.zero_add]
    · have h1 : ¬ a + b ≤ 0 := by omega
      unfold fin at h
      rw [if_neg h1] at h
      by_cases h2 : n.f4 < 0 ∨ n.f4 > L
      · rw [if_pos h2] at h; exact absurd rfl h
      · rw [if_neg h2] at h
        rw [show a + b + n.f4 - 1 = (a + n.f4 - 1) + b by omega] at h
        have ih := fin_add L s (p + 1) (a + n.f4 - 1) b (by omega) hb h (by omega)
        have e1 : fin L (n :: s) p a = fin L s (p + 1) (a + n.f4 - 1) := by
          rw [fin, if_neg h0, if_neg h2]
        have e2 : fin L (n :: s) p (a + b) = fin L s (p + 1) ((a + n.f4 - 1) + b) := by
          rw [fin, if_neg h1, if_neg h2, show a + b + n.f4 - 1 = (a + n.f4 - 1) + b by omega]
        rw [e1, e2]
        refine ⟨ih.1, ?_⟩
        have hg := fin_ge L s (p + 1) _ ih.1
        rw [← ih.2]
        congr 1
        rw [show fin L s (p + 1) (a + n.f4 - 1) - p = (fin L s (p + 1) (a + n.f4 - 1) - (p + 1)) + 1 by omega, List.drop_succ_cons]

theorem w64 {x : Int} (h0 : -9223372036854775808 ≤ x) (h1 : x ≤ 9223372036854775807) : wrap64 x = x := by
  unfold wrap64; omega

theorem drop_rd {l : List S56} {p : Nat} {n : S56} {s : List S56} (h : l.drop p = n :: s) : rd_T56 l (p : Int) = n ∧ l.drop (p + 1) = s ∧ p < l.length := by
  have hp : p < l.length := by
    rcases Nat.lt_or_ge p l.length with h1 | h1
    · exact h1
    · rw [List.drop_eq_nil_of_le h1] at h; cases h
  rw [List.drop_eq_getElem_cons hp] at h
  injection h with h1 h2
  refine ⟨?_, h2, hp⟩
  simp [rd_T56, List.getD_eq_getElem?_getD, hp, h1]

theorem end_l0 (l : List S56) (hL : l.length ≤ 1048576) : ∀ (s : List S56) (p : Nat) (o : Int) (k : Nat), l.drop p = s → p + s.length = l.length → 0 ≤ o → o + s.length * 1048576 ≤ 4611686018427387904 → s.length < k →
    ast_End.l0 k l p o = some (fin l.length s p o : Int)
  | [], p, o, k, hs, hp, h0, h1, hk => by
    obtain ⟨k, rfl⟩ : ∃ m, k = m + 1 := ⟨k - 1, by simp at hk; omega⟩
    simp only [ast_End.l0]
    simp only [List.length_nil, Nat.add_zero] at hp
    by_cases h : o > 0
    · rw [if_pos h, if_pos (by omega), fin, if_neg (by omega)]; rfl
    · rw [if_neg h, fin, if_pos (by omega)]
  | n :: s, p, o, k, hs, hp, h0, h1, hk => by
    obtain ⟨k, rfl⟩ : ∃ m, k = m + 1 := ⟨k - 1, by simp at hk; omega⟩
    obtain ⟨hr, hs2, hlt⟩ := drop_rd hs
    simp only [List.length_cons] at hp h1 hk
    simp only [ast_End.l0]
    by_cases h : o > 0
    · rw [if_pos h, if_neg (by omega), if_pos (by omega), if_pos (by omega), hr, fin, if_neg (show ¬ o ≤ 0 by omega)]
      by_cases h2 : n.f4 < 0
      · rw [if_pos h2, if_pos (.inl h2)]; rfl
      · rw [if_neg h2]
        by_cases h3 : n.f4 > (l.length : Int)
        · rw [if_pos h3, if_pos (.inr h3)]; rfl
        · rw [if_neg h3, if_neg (by omega), w64 (by omega) (by omega), w64 (x := o + n.f4) (by omega) (by omega), w64 (by omega) (by omega)]
          have := end_l0 l hL s (p + 1) (o + n.f4 - 1) k hs2 (by omega) (by omega) (by omega) (by omega)
          rw [← this]
          rfl
    · rw [if_neg h, fin, if_pos (by omega)]

/-- End. -/
def endI (l : List S56) (i : Int) : Int := if i < 0 ∨ i ≥ l.length then 0 else (fin l.length (l.drop i.toNat) i.toNat 1 : Int)
theorem end_f (l : List S56) (hL : l.length ≤ 1048576) (i : Int) (k : Nat) (hk : l.length + 2 ≤ k) : ast_End.f k l i = some (endI l i) := by
  obtain ⟨k, rfl⟩ : ∃ m, k = m + 1 := ⟨k - 1, by omega⟩
  unfold ast_End.f endI
  by_cases h : i < 0
  · rw [if_pos h, if_pos (.inl h)]; rfl
  · rw [if_neg h]
    by_cases h2 : i ≥ l.length
    · rw [if_pos (.inr h2), decide_eq_true h2]; rfl
    · rw [if_neg (by omega), decide_eq_false h2]
      simp only [ast_End.j0]
      rw [if_neg (by simp)]
      have e : ((i.toNat : Nat) : Int) = i := by omega
      have := end_l0 l hL (l.drop i.toNat) i.toNat 1 k rfl (by rw [List.length_drop]; omega) (by omega) (by rw [List.length_drop]; omega) (by rw [List.length_drop]; omega)
      rw [e] at this
      exact this

/-- The places from p on, each where the tree ahead of it ends. -/
def steps (l : List S56) : Int → Nat → List Int
  | _, 0 => []
  | p, d + 1 => p :: steps l (endI l p) d
/-- Where the last of them ends. -/
def after (l : List S56) : Int → Nat → Int
  | p, 0 => p
  | p, d + 1 => after l (endI l p) d
theorem steps_length (l : List S56) : ∀ (d : Nat) (p : Int), (steps l p d).length = d
  | 0, _ => rfl
  | d + 1, p => by simp [steps, steps_length l d]

theorem kids_l0 (l : List S56) (hL : l.length ≤ 1048576) : ∀ (d : Nat) (acc : List Int) (p x j : Int) (k : Nat), x - j = d → 0 ≤ j → x ≤ 1048576 → acc.length + d ≤ 1048576 → d + l.length + 3 ≤ k →
    ast_Kids.l0 k l acc p x j = some (acc ++ steps l p d)
  | 0, acc, p, x, j, k, hd, hj, hx, ha, hk => by
    obtain ⟨k, rfl⟩ : ∃ m, k = m + 1 := ⟨k - 1, by omega⟩
    simp only [ast_Kids.l0]
    rw [if_neg (by omega)]
    simp [steps]
  | d + 1, acc, p, x, j, k, hd, hj, hx, ha, hk => by
    obtain ⟨k, rfl⟩ : ∃ m, k = m + 1 := ⟨k - 1, by omega⟩
    simp only [ast_Kids.l0]
    rw [if_pos (by omega), if_pos (by omega), end_f l hL p k (by omega)]
    simp only [Option.bind_some]
    rw [w64 (by omega) (by omega), kids_l0 l hL d (acc ++ [p]) (endI l p) x (j + 1) k (by omega) (by omega) hx (by simp; omega) (by omega)]
    simp [steps]

/-- Kids of a node. -/
def kidsI (l : List S56) (i : Int) : List Int := if endI l i = 0 then [] else steps l (i + 1) (rd_T56 l i).f4.toNat

theorem endI_pos {l : List S56} {i : Int} (h : endI l i ≠ 0) : 0 ≤ i ∧ i < l.length ∧ endI l i = fin l.length (l.drop i.toNat) i.toNat 1 := by
  unfold endI at h ⊢
  by_cases h1 : i < 0 ∨ i ≥ l.length
  · rw [if_pos h1] at h; exact absurd rfl h
  · rw [if_neg h1]; exact ⟨by omega, by omega, rfl⟩
/-- A node whose tree stands there: how many kids, and where these end. -/
theorem kids_fine {l : List S56} {i : Int} (h : endI l i ≠ 0) : 0 ≤ (rd_T56 l i).f4 ∧ (rd_T56 l i).f4 ≤ l.length ∧ (fin l.length (l.drop (i.toNat + 1)) (i.toNat + 1) (rd_T56 l i).f4 : Int) = endI l i := by
  obtain ⟨h0, h1, h2⟩ := endI_pos h
  have hlt : i.toNat < l.length := by omega
  obtain ⟨hr, hs, _⟩ := drop_rd (List.drop_eq_getElem_cons hlt)
  have e : ((i.toNat : Nat) : Int) = i := by omega
  rw [e] at hr
  rw [h2] at h ⊢
  rw [List.drop_eq_getElem_cons hlt, fin, if_neg (by omega)] at h ⊢
  rw [← hr] at h ⊢
  by_cases h3 : (rd_T56 l i).f4 < 0 ∨ (rd_T56 l i).f4 > (l.length : Int)
  · rw [if_pos h3] at h; exact absurd rfl h
  · rw [if_neg h3]
    refine ⟨by omega, by omega, ?_⟩
    rw [show (1 : Int) + (rd_T56 l i).f4 - 1 = (rd_T56 l i).f4 by omega]

theorem kids_f (l : List S56) (hL : l.length ≤ 1048576) (i : Int) (k : Nat) (hk : 2 * l.length + 4 ≤ k) : ast_Kids.f k l i = some (kidsI l i) := by
  unfold ast_Kids.f kidsI
  rw [end_f l hL i k (by omega)]
  simp only [Option.bind_some]
  by_cases h : endI l i = 0
  · rw [if_pos h, if_pos h]
  · rw [if_neg h, if_neg h]
    obtain ⟨h0, h1, _⟩ := endI_pos h
    obtain ⟨h2, h3, _⟩ := kids_fine h
    rw [if_pos h0, if_pos h1, w64 (by omega) (by omega), kids_l0 l hL (rd_T56 l i).f4.toNat [] (i + 1) (rd_T56 l i).f4 0 k (by omega) (by omega) (by omega) (by simp; omega) (by omega)]
    rfl

/-- Behind d trees that end at e, the place is e. -/
theorem after_fin {l : List S56} : ∀ (d : Nat) (p : Nat), 1 ≤ p → (fin l.length (l.drop p) p d : Nat) ≠ 0 → after l p d = (fin l.length (l.drop p) p d : Int)
  | 0, p, hp, h => by
    have : fin l.length (l.drop p) p ((0 : Nat) : Int) = p := by
      cases hd : l.drop p with
      | nil => simp [fin]
      | cons n s => simp [fin]
    rw [this]; rfl
  | d + 1, p, hp, h => by
    have hc : ((d + 1 : Nat) : Int) = 1 + (d : Int) := by omega
    rw [hc] at h ⊢
    obtain ⟨h1, h2⟩ := fin_add l.length (l.drop p) p 1 d (by omega) (by omega) h hp
    have hlt : p < l.length := by
      rcases Nat.lt_or_ge p l.length with h3 | h3
      · exact h3
      · rw [List.drop_eq_nil_of_le h3] at h1; simp [fin] at h1
    have he : endI l p = fin l.length (l.drop p) p 1 := by
      unfold endI
      rw [if_neg (by omega)]
      rfl
    have hg := fin_ge l.length (l.drop p) p 1 h1
    rw [List.drop_drop, show p + (fin l.length (l.drop p) p 1 - p) = fin l.length (l.drop p) p 1 by omega] at h2
    rw [after, he, after_fin d _ (by omega) (by rw [h2]; exact h), h2]
theorem kids_end {l : List S56} {i : Int} (h : endI l i ≠ 0) : after l (i + 1) (rd_T56 l i).f4.toNat = endI l i := by
  obtain ⟨h0, h1, _⟩ := endI_pos h
  obtain ⟨h2, h3, h4⟩ := kids_fine h
  have e : ((rd_T56 l i).f4.toNat : Int) = (rd_T56 l i).f4 := by omega
  have e2 : (((i.toNat + 1 : Nat)) : Int) = i + 1 := by omega
  have := after_fin (l := l) (rd_T56 l i).f4.toNat (i.toNat + 1) (by omega) (by rw [e]; omega)
  rw [e, e2, h4] at this
  exact this
theorem rd_mid (pre : List Int) (x : Int) (s : List Int) : rd (pre ++ x :: s) (pre.length : Int) = x := by
  simp [rd, List.getD_eq_getElem?_getD]
end Go.Proofs.YtlbjfomcgbiagaaGreatDoor.Ends
namespace Go.Proofs.YtlbjfomcgbiagaaGreatDoor.WalksPure
open Go.RowKit Go.Proofs.YtlbjfomcgbiagaaGreatDoorW.PrintWords Go.Proofs.YtlbjfomcgbiagaaGreatDoorW.PrintMore Go.Proofs.YtlbjfomcgbiagaaGreatDoor.Print Go.Proofs.YtlbjfomcgbiagaaGreatDoor.Nodes Go.Proofs.YtlbjfomcgbiagaaGreatDoor.Ends
theorem wend_l0 (l : List S56) (hL : l.length ≤ 1048576) : ∀ (s : List S56) (p : Nat) (o : Int) (k : Nat), l.drop p = s → p + s.length = l.length → 0 ≤ o → o + s.length * 1048576 ≤ 4611686018427387904 → 2 * s.length + 1 < k →
    weirtree_End.l0 k l p o = some (fin l.length s p o : Int)
  | [], p, o, k, hs, hp, h0, h1, hk => by
    obtain ⟨k, rfl⟩ : ∃ m, k = m + 2 := ⟨k - 2, by simp at hk; omega⟩
    simp only [List.length_nil, Nat.add_zero] at hp
    rw [weirtree_End.l0, if_neg (by omega), weirtree_End.j2, if_neg (by simp), fin]
    by_cases h : o > 0
    · rw [if_pos h, if_neg (by omega)]; rfl
    · rw [if_neg h, if_pos (by omega)]
  | n :: s, p, o, k, hs, hp, h0, h1, hk => by
    obtain ⟨k, rfl⟩ : ∃ m, k = m + 2 := ⟨k - 2, by simp at hk; omega⟩
    obtain ⟨hr, hs2, hlt⟩ := drop_rd hs
    simp only [List.length_cons] at hp h1 hk
    rw [weirtree_End.l0, if_pos (by omega), weirtree_End.j2, fin]
    by_cases h : o > 0
    · rw [decide_eq_true h, if_pos rfl, if_pos (by omega), if_pos (by omega), hr, if_neg (show ¬ o ≤ 0 by omega)]
      by_cases h2 : n.f4 < 0
      · rw [if_pos h2, if_pos (.inl h2)]; rfl
      · rw [if_neg h2]
        by_cases h3 : n.f4 > (l.length : Int)
        · rw [if_pos h3, if_pos (.inr h3)]; rfl
        · rw [if_neg h3, if_neg (by omega), w64 (x := n.f4 - 1) (by omega) (by omega), w64 (by omega) (by omega), w64 (by omega) (by omega)]
          have := wend_l0 l hL s (p + 1) (o + n.f4 - 1) k hs2 (by omega) (by omega) (by omega) (by omega)
          rw [← this, show o + (n.f4 - 1) = o + n.f4 - 1 by omega]
          rfl
    · rw [decide_eq_false h, if_neg (by simp), if_neg h, if_pos (by omega)]
theorem wend_f (l : List S56) (hL : l.length ≤ 1048576) (i : Int) (k : Nat) (hk : 2 * l.length + 4 ≤ k) : weirtree_End.f k l i = some (endI l i) := by
  obtain ⟨k, rfl⟩ : ∃ m, k = m + 1 := ⟨k - 1, by omega⟩
  unfold weirtree_End.f endI
  by_cases h : i < 0
  · rw [if_pos h, if_pos (.inl h)]; rfl
  · rw [if_neg h]
    by_cases h2 : i ≥ l.length
    · rw [if_pos (.inr h2), decide_eq_true h2]; rfl
    · rw [if_neg (by omega), decide_eq_false h2, weirtree_End.j0, if_neg (by simp)]
      have e : ((i.toNat : Nat) : Int) = i := by omega
      have := wend_l0 l hL (l.drop i.toNat) i.toNat 1 k rfl (by rw [List.length_drop]; omega) (by omega) (by rw [List.length_drop]; omega) (by rw [List.length_drop]; omega)
      rw [e] at this
      exact this
/-- Of a + b open trees, once the first a end: the last b from there. -/
theorem fin_join (L : Int) : ∀ (s : List S56) (p : Nat) (a b : Int), 0 ≤ a → 0 ≤ b → 1 ≤ p → fin L s p a ≠ 0 → fin L (s.drop (fin L s p a - p)) (fin L s p a) b = fin L s p (a + b)
  | [], p, a, b, ha, hb, hp, h => by
    have h0 : a = 0 := by
      by_cases h1 : a ≤ 0
      · omega
      · exact absurd (by rw [fin, if_neg h1]) h
    subst h0
    have e : fin L [] p 0 = p := by rw [fin, if_pos (by omega)]
    rw [e, List.drop_nil, Int.zero_add]
  | n :: s, p, a, b, ha, hb, hp, h => by
    by_cases h0 : a ≤ 0
    · have e : a = 0 := by omega
      subst e
      have e1 : fin L (n :: s) p 0 = p := by unfold fin; simp
      rw [e1, Nat.sub_self, List.drop_zero, Int.zero_add]
    · by_cases h2 : n.f4 < 0 ∨ n.f4 > L
      · exact absurd (by rw [fin, if_neg h0, if_pos h2]) h
      · have e1 : fin L (n :: s) p a = fin L s (p + 1) (a + n.f4 - 1) := by rw [fin, if_neg h0, if_neg h2]
        have e2 : fin L (n :: s) p (a + b) = fin L s (p + 1) ((a + n.f4 - 1) + b) := by
          rw [fin, if_neg (show ¬ a + b ≤ 0 by omega), if_neg h2, show a + b + n.f4 - 1 = (a + n.f4 - 1) + b by omega]
        rw [e1] at h
        have ih := fin_join L s (p + 1) (a + n.f4 - 1) b (by omega) hb (by omega) h
        have hg := fin_ge L s (p + 1) _ h
        rw [e1, e2, ← ih]
        congr 1
        rw [show fin L s (p + 1) (a + n.f4 - 1) - p = (fin L s (p + 1) (a + n.f4 - 1) - (p + 1)) + 1 by omega, List.drop_succ_cons]
theorem fin_one_gt (L : Int) (s : List S56) (p : Nat) (h : fin L s p 1 ≠ 0) : p < fin L s p 1 := by
  cases s with
  | nil => rw [fin, if_neg (by omega)] at h; exact absurd rfl h
  | cons n s =>
    rw [fin, if_neg (by omega)] at h ⊢
    by_cases h2 : n.f4 < 0 ∨ n.f4 > L
    · rw [if_pos h2] at h; exact absurd rfl h
    · rw [if_neg h2] at h ⊢
      have := fin_ge L s (p + 1) _ h
      omega
theorem wk_l0 (l : List S56) (hL : l.length ≤ 1048576) (at_ : Int) (ha0 : 0 ≤ at_) (ha1 : at_ < l.length) (hx : (rd_T56 l at_).f4 ≤ 9223372036854775807) : ∀ (m d : Nat) (acc : List Int) (p : Nat) (j : Int) (k : Nat), (rd_T56 l at_).f4 - j = d → 0 ≤ j → 1 ≤ p → p ≤ l.length → l.length + 1 ≤ p + m → acc.length + m ≤ 4194304 → m + 2 * l.length + 6 ≤ k →
    weirtree_Kids.l0 k l at_ acc p j = some (if fin l.length (l.drop p) p d = 0 then [] else acc ++ steps l p d)
  | 0, d, acc, p, j, k, hd, hj, hp, hpl, hm, ha, hk => by omega
  | m + 1, d, acc, p, j, k, hd, hj, hp, hpl, hm, ha, hk => by
    obtain ⟨k, rfl⟩ : ∃ m, k = m + 1 := ⟨k - 1, by omega⟩
    rw [weirtree_Kids.l0, if_pos ha0, if_pos ha1]
    cases d with
    | zero =>
      have e : fin l.length (l.drop p) p ((0 : Nat) : Int) = p := by
        cases l.drop p with
        | nil => simp [fin]
        | cons n s => simp [fin]
      rw [if_neg (by omega), e, if_neg (by omega)]
      simp [steps]
    | succ d =>
      rw [if_pos (by omega), wend_f l hL p k (by omega), Option.bind_some]
      have hc : ((d + 1 : Nat) : Int) = 1 + (d : Int) := by omega
      rw [hc]
      have hp0 : ¬ ((p : Int) < 0) := by omega
      by_cases hlt : p < l.length
      · have he : endI l p = fin l.length (l.drop p) p 1 := by
          unfold endI
          rw [if_neg (by omega)]
          rfl
        by_cases h0 : fin l.length (l.drop p) p 1 = 0
        · have h1 : fin l.length (l.drop p) p (1 + (d : Int)) = 0 := by
            by_cases h2 : fin l.length (l.drop p) p (1 + (d : Int)) = 0
            · exact h2
            · exact absurd h0 (fin_add l.length (l.drop p) p 1 d (by omega) (by omega) h2 hp).1
          rw [he, h0, if_pos (show ((0 : Nat) : Int) = 0 from rfl), if_pos h1]
        · have hg := fin_one_gt l.length (l.drop p) p h0
          have hle := fin_le l.length (l.drop p) p 1
          rw [List.length_drop] at hle
          have hj2 := fin_join l.length (l.drop p) p 1 d (by omega) (by omega) hp h0
          rw [List.drop_drop, show p + (fin l.length (l.drop p) p 1 - p) = fin l.length (l.drop p) p 1 by omega] at hj2
          rw [he, if_neg (by omega), if_pos (by omega), w64 (by omega) (by omega), ← hj2]
          rw [wk_l0 l hL at_ ha0 ha1 hx m d (acc ++ [(p : Int)]) (fin l.length (l.drop p) p 1) (j + 1) k (by omega) (by omega) (by omega) (by omega) (by omega) (by simp; omega) (by omega)]
          simp [steps, he]
      · have he : endI l p = 0 := by
          unfold endI
          rw [if_pos (.inr (by omega))]
        have h1 : fin l.length (l.drop p) p (1 + (d : Int)) = 0 := by
          rw [List.drop_eq_nil_of_le (by omega), fin, if_neg (by omega)]
        rw [he, if_pos rfl, if_pos h1]
theorem fin_few (L : Int) : ∀ (s : List S56) (p : Nat) (o : Int), fin L s p o ≠ 0 → o ≤ s.length
  | [], p, o, h => by
    by_cases h1 : o ≤ 0
    · simpa using h1
    · exact absurd (by rw [fin, if_neg h1]) h
  | n :: s, p, o, h => by
    by_cases h1 : o ≤ 0
    · simp only [List.length_cons]; omega
    · by_cases h2 : n.f4 < 0 ∨ n.f4 > L
      · exact absurd (by rw [fin, if_neg h1, if_pos h2]) h
      · rw [fin, if_neg h1, if_neg h2] at h
        have := fin_few L s (p + 1) _ h
        simp only [List.length_cons]; omega
theorem wkids_f (l : List S56) (hL : l.length ≤ 1048576) (hx : ∀ i, (rd_T56 l i).f4 ≤ 9223372036854775807) (i : Int) (k : Nat) (hk : 3 * l.length + 12 ≤ k) : weirtree_Kids.f k l i = some (kidsI l i) := by
  obtain ⟨k, rfl⟩ : ∃ m, k = m + 2 := ⟨k - 2, by omega⟩
  unfold weirtree_Kids.f kidsI
  by_cases h : i < 0
  · rw [if_pos h, weirtree_Kids.j0, if_pos rfl, if_pos (by unfold endI; rw [if_pos (.inl h)])]
  · rw [if_neg h]
    by_cases h2 : i ≥ l.length
    · rw [decide_eq_true h2, weirtree_Kids.j0, if_pos rfl, if_pos (by unfold endI; rw [if_pos (.inr h2)])]
    · rw [decide_eq_false h2, weirtree_Kids.j0, if_neg (by simp), w64 (by omega) (by omega)]
      have hlt : i.toNat < l.length := by omega
      obtain ⟨hr, hs, _⟩ := drop_rd (List.drop_eq_getElem_cons hlt)
      have e : ((i.toNat : Nat) : Int) = i := by omega
      rw [e] at hr
      have he : endI l i = (if (rd_T56 l i).f4 < 0 ∨ (rd_T56 l i).f4 > (l.length : Int) then 0 else fin l.length (l.drop (i.toNat + 1)) (i.toNat + 1) (rd_T56 l i).f4 : Nat) := by
        unfold endI
        rw [if_neg (by omega), List.drop_eq_getElem_cons hlt, fin, if_neg (by omega), ← hr, show (1 : Int) + (rd_T56 l i).f4 - 1 = (rd_T56 l i).f4 by omega]
      by_cases h3 : (rd_T56 l i).f4 < 0
      · rw [he, if_pos (show (rd_T56 l i).f4 < 0 ∨ (rd_T56 l i).f4 > (l.length : Int) from .inl h3), if_pos (show ((0 : Nat) : Int) = 0 from rfl), weirtree_Kids.l0, if_pos (by omega), if_pos (by omega), if_neg (by omega)]
      · have h5 := wk_l0 l hL i (by omega) (by omega) (hx i) (l.length + 1) (rd_T56 l i).f4.toNat [] (i.toNat + 1) 0 (k + 1) (by omega) (by omega) (by omega) (by omega) (by omega) (by simp; omega) (by omega)
        rw [show (((i.toNat + 1 : Nat)) : Int) = i + 1 by omega, show (((rd_T56 l i).f4.toNat : Nat) : Int) = (rd_T56 l i).f4 by omega] at h5
        rw [h5, he]
        by_cases h4 : (rd_T56 l i).f4 > (l.length : Int)
        · have h6 : fin l.length (l.drop (i.toNat + 1)) (i.toNat + 1) (rd_T56 l i).f4 = 0 := by
            by_cases h7 : fin l.length (l.drop (i.toNat + 1)) (i.toNat + 1) (rd_T56 l i).f4 = 0
            · exact h7
            · have := fin_few _ _ _ _ h7
              rw [List.length_drop] at this
              omega
          rw [if_pos h6, if_pos (show (rd_T56 l i).f4 < 0 ∨ (rd_T56 l i).f4 > (l.length : Int) from .inr h4), if_pos (show ((0 : Nat) : Int) = 0 from rfl)]
        · rw [if_neg (show ¬ ((rd_T56 l i).f4 < 0 ∨ (rd_T56 l i).f4 > (l.length : Int)) by omega)]
          by_cases h6 : fin l.length (l.drop (i.toNat + 1)) (i.toNat + 1) (rd_T56 l i).f4 = 0
          · rw [if_pos h6, if_pos (by omega)]
          · rw [if_neg h6, if_neg (by omega)]
            rfl
end Go.Proofs.YtlbjfomcgbiagaaGreatDoor.WalksPure
namespace Go.Proofs.YtlbjfomcgbiagaaGreatDoor.DepthPure
open Go.RowKit Go.Proofs.YtlbjfomcgbiagaaGreatDoorW.PrintWords Go.Proofs.YtlbjfomcgbiagaaGreatDoorW.PrintMore Go.Proofs.YtlbjfomcgbiagaaGreatDoor.Print Go.Proofs.YtlbjfomcgbiagaaGreatDoor.Nodes Go.Proofs.YtlbjfomcgbiagaaGreatDoor.Ends Go.Proofs.YtlbjfomcgbiagaaGreatDoor.WalksPure
/-- What stands of the levels (the deepest first) behind a node. -/
def next : List Int → List Int
  | [] => []
  | c :: S => if c = 0 then next S else (c - 1) :: S
theorem next_length : ∀ st : List Int, (next st).length ≤ st.length
  | [] => Nat.le_refl _
  | c :: S => by
    unfold next
    split
    · have := next_length S
      simp only [List.length_cons]; omega
    · simp
theorem l1_next (l : List S56) (n deep i r : Int) (B : Nat) : ∀ (st : List Int), (∀ x ∈ st, 0 ≤ x ∧ x ≤ 1048576) → st.length ≤ 1048577 → (∀ k, B ≤ k → ast_Depth.l0 k deep (next st).reverse l n (wrap64 (i + 1)) = some r) →
    ∀ k, B + st.length + 1 ≤ k → ast_Depth.l1 k deep st.reverse l n i = some r
  | [], _, _, h, k, hk => by
    obtain ⟨k, rfl⟩ : ∃ m, k = m + 1 := ⟨k - 1, by omega⟩
    rw [ast_Depth.l1, if_neg (by simp)]
    exact h k (by simp at hk; omega)
  | c :: S, hb, hl, h, k, hk => by
    obtain ⟨k, rfl⟩ : ∃ m, k = m + 1 := ⟨k - 1, by omega⟩
    have hc := hb c (List.mem_cons_self ..)
    simp only [List.length_cons] at hl hk
    have hlen : ((c :: S).reverse.length : Int) = (S.length : Int) + 1 := by simp
    have hw : wrap64 ((S.length : Int) + 1 - 1) = (S.length : Int) := by rw [w64 (by omega) (by omega)]; omega
    have hrev : (c :: S).reverse = S.reverse ++ [c] := List.reverse_cons
    have hrd : rd (c :: S).reverse (S.length : Int) = c := by
      rw [hrev]
      have := rd_mid S.reverse c []
      rw [List.length_reverse] at this
      exact this
    rw [ast_Depth.l1, hlen, hw, if_pos (by omega), if_pos (by omega), if_pos (by omega), hrd]
    unfold next at h
    by_cases h0 : c = 0
    · rw [if_pos h0, if_pos (by omega)]
      rw [if_pos h0] at h
      have ht : (c :: S).reverse.take ((S.length : Int)).toNat = S.reverse := by
        rw [hrev, Int.toNat_natCast]
        rw [List.take_append_of_le_length (by simp)]
        exact List.take_of_length_le (by simp)
      rw [ht]
      exact l1_next l n deep i r B S (fun x hx => hb x (List.mem_cons_of_mem _ hx)) (by omega) h k (by omega)
    · rw [if_neg h0, w64 (x := c - 1) (by omega) (by omega)]
      rw [if_neg h0, List.reverse_cons] at h
      have ht : (c :: S).reverse.set ((S.length : Int)).toNat (c - 1) = S.reverse ++ [c - 1] := by
        rw [hrev, Int.toNat_natCast, List.set_append_right _ _ (by simp)]
        simp
      rw [ht]
      exact h k (by omega)
/-- With rounds enough it tells r. -/
def Ev {α : Type} (f : Nat → Option α) (r : α) : Prop := ∃ B, ∀ k, B ≤ k → f k = some r
/-- One node: its kids are pushed, the deepest is told, the stack goes on. -/
theorem step (l : List S56) (deep r : Int) (p : Nat) (hp : p < l.length) (hL : l.length ≤ 1048576) (st : List Int) (hb : ∀ x ∈ st, 0 ≤ x ∧ x ≤ 1048576) (hl : st.length ≤ 1048576) (hx : 0 ≤ (rd_T56 l p).f4 ∧ (rd_T56 l p).f4 ≤ 1048576)
    (h : Ev (fun k => ast_Depth.l0 k (mx deep ((st.length : Int) + 1)) (next ((rd_T56 l p).f4 :: st)).reverse l l.length ((p + 1 : Nat) : Int)) r) : Ev (fun k => ast_Depth.l0 k deep st.reverse l l.length (p : Int)) r := by
  obtain ⟨B, hB⟩ := h
  refine ⟨B + st.length + 3, fun k hk => ?_⟩
  obtain ⟨k, rfl⟩ : ∃ m, k = m + 1 := ⟨k - 1, by omega⟩
  have hrev : st.reverse ++ [(rd_T56 l p).f4] = ((rd_T56 l p).f4 :: st).reverse := List.reverse_cons.symm
  have hlen : ((((rd_T56 l p).f4 :: st).reverse.length : Nat) : Int) = (st.length : Int) + 1 := by simp
  have hw : wrap64 ((p : Int) + 1) = ((p + 1 : Nat) : Int) := by rw [w64 (by omega) (by omega)]; rfl
  show ast_Depth.l0 (k + 1) deep st.reverse l l.length (p : Int) = some r
  rw [ast_Depth.l0, if_pos (by omega), if_pos (by omega), if_pos (by omega), if_pos (by simp; omega), Option.bind_some, hrev, hlen]
  refine l1_next l l.length (mx deep ((st.length : Int) + 1)) p r B ((rd_T56 l p).f4 :: st) ?_ (by simp; omega) ?_ k (by simp; omega)
  · intro x hx2
    rcases List.mem_cons.1 hx2 with rfl | h2
    · exact hx
    · exact hb x h2
  · rw [hw]
    exact hB
/-- The greatest of f over places. -/
def topF (f : Int → Int) : List Int → Int → Int
  | [], d => d
  | j :: js, d => topF f js (if f j > d then f j else d)
/-- How many levels the tree at a place has (n: more than its nodes). -/
def lev (l : List S56) : Nat → Int → Int
  | 0, _ => 0
  | n + 1, i => topF (lev l n) (kidsI l i) 0 + 1
/-- The deepest, kid by kid, each beginning at height h. -/
def dp (f : Int → Int) (h : Int) : List Int → Int → Int
  | [], x => x
  | j :: js, x => dp f h js (mx x (h + f j))
theorem dp_top (f : Int → Int) (h deep : Int) : ∀ (js : List Int) (t : Int), dp f h js (mx deep (h + t)) = mx deep (h + topF f js t)
  | [], t => rfl
  | j :: js, t => by
    unfold dp topF
    rw [← dp_top f h deep js]
    congr 1
    unfold mx
    by_cases h1 : f j > t
    · rw [if_pos h1]
      repeat' split
      all_goals omega
    · rw [if_neg h1]
      repeat' split
      all_goals omega
/-- The machine over one whole tree. -/
def TreeLaw (l : List S56) (m : Nat) : Prop := ∀ p : Nat, l.length - p ≤ m → endI l p ≠ 0 → ∀ (st : List Int) (deep r : Int), (∀ x ∈ st, 0 ≤ x ∧ x ≤ 1048576) → st.length + (l.length - p) ≤ 1048576 →
  Ev (fun k => ast_Depth.l0 k (mx deep ((st.length : Int) + lev l m p)) (next st).reverse l l.length (endI l p)) r → Ev (fun k => ast_Depth.l0 k deep st.reverse l l.length (p : Int)) r
theorem forest (l : List S56) (hL : l.length ≤ 1048576) (m : Nat) (T : TreeLaw l m) : ∀ (d p : Nat), 1 ≤ p → l.length - p ≤ m → fin l.length (l.drop p) p ((d + 1 : Nat) : Int) ≠ 0 → d ≤ 1048576 → ∀ (S : List Int) (deep r : Int), (∀ x ∈ S, 0 ≤ x ∧ x ≤ 1048576) → S.length + 1 + (l.length - p) ≤ 1048576 →
    Ev (fun k => ast_Depth.l0 k (dp (lev l m) ((S.length : Int) + 1) (steps l p (d + 1)) deep) (next S).reverse l l.length ((fin l.length (l.drop p) p ((d + 1 : Nat) : Int) : Nat) : Int)) r → Ev (fun k => ast_Depth.l0 k deep ((d : Int) :: S).reverse l l.length (p : Int)) r := by
  intro d
  induction d with
  | zero =>
    intro p hp hm hf hd S deep r hb hl h
    have hlt : p < l.length := by
      rcases Nat.lt_or_ge p l.length with h3 | h3
      · exact h3
      · rw [List.drop_eq_nil_of_le h3] at hf; simp [fin] at hf
    have he : endI l p = fin l.length (l.drop p) p 1 := by
      unfold endI
      rw [if_neg (by omega)]
      rfl
    refine T p hm (by rw [he]; exact_mod_cast hf) (((0 : Nat) : Int) :: S) deep r ?_ (by simp; omega) ?_
    · intro x hx
      rcases List.mem_cons.1 hx with rfl | h2
      · exact ⟨Int.le_refl _, by decide⟩
      · exact hb x h2
    · rw [he]
      have e1 : ((((0 : Nat) : Int) :: S).length : Int) = (S.length : Int) + 1 := by simp
      have e2 : next (((0 : Nat) : Int) :: S) = next S := by
        rw [next, if_pos (show ((0 : Nat) : Int) = 0 from rfl)]
      rw [e1, e2]
      exact h
  | succ d ih =>
    intro p hp hm hf hd S deep r hb hl h
    have hc : ((d + 1 + 1 : Nat) : Int) = 1 + ((d + 1 : Nat) : Int) := by omega
    rw [hc] at hf h
    obtain ⟨h1, h2⟩ := fin_add l.length (l.drop p) p 1 ((d + 1 : Nat) : Int) (by omega) (by omega) hf hp
    have hlt : p < l.length := by
      rcases Nat.lt_or_ge p l.length with h3 | h3
      · exact h3
      · rw [List.drop_eq_nil_of_le h3] at h1; simp [fin] at h1
    have he : endI l p = fin l.length (l.drop p) p 1 := by
      unfold endI
      rw [if_neg (by omega)]
      rfl
    have hg := fin_ge l.length (l.drop p) p 1 h1
    rw [List.drop_drop, show p + (fin l.length (l.drop p) p 1 - p) = fin l.length (l.drop p) p 1 by omega] at h2
    refine T p hm (by rw [he]; omega) (((d + 1 : Nat) : Int) :: S) deep r ?_ (by simp; omega) ?_
    · intro x hx
      rcases List.mem_cons.1 hx with rfl | h2
      · omega
      · exact hb x h2
    · rw [he]
      have e1 : ((((d + 1 : Nat) : Int) :: S).length : Int) = (S.length : Int) + 1 := by simp
      have e2 : next (((d + 1 : Nat) : Int) :: S) = (d : Int) :: S := by
        rw [next, if_neg (by omega)]
        congr 1
        omega
      rw [e1, e2]
      refine ih (fin l.length (l.drop p) p 1) (by omega) (by omega) (by rw [h2]; exact hf) (by omega) S _ r hb (by omega) ?_
      rw [h2]
      have e3 : steps l p (d + 1 + 1) = (p : Int) :: steps l (fin l.length (l.drop p) p 1 : Nat) (d + 1) := by
        rw [steps, he]
      rw [e3, dp] at h
      exact h
theorem tree (l : List S56) (hL : l.length ≤ 1048576) : ∀ m, TreeLaw l m
  | 0 => fun p hm he st deep r hb hl h => by
    obtain ⟨h0, h1, _⟩ := endI_pos he
    omega
  | m + 1 => fun p hm he st deep r hb hl h => by
    have T := tree l hL m
    obtain ⟨h0, h1, _⟩ := endI_pos he
    obtain ⟨h2, h3, h4⟩ := kids_fine he
    have hlt : p < l.length := by omega
    rw [Int.toNat_natCast] at h4
    have hkids : kidsI l p = steps l ((p : Int) + 1) (rd_T56 l p).f4.toNat := by
      unfold kidsI
      rw [if_neg he]
    rw [lev, hkids] at h
    refine step l deep r p hlt hL st hb (by omega) ⟨h2, by omega⟩ ?_
    cases hq : (rd_T56 l p).f4.toNat with
    | zero =>
      have hz : (rd_T56 l p).f4 = 0 := by omega
      rw [hq] at h
      rw [hz] at h4 ⊢
      have e0 : fin l.length (l.drop (p + 1)) (p + 1) 0 = p + 1 := by
        cases l.drop (p + 1) with
        | nil => simp [fin]
        | cons n s => simp [fin]
      rw [e0] at h4
      have e2 : next ((0 : Int) :: st) = next st := by rw [next, if_pos rfl]
      rw [e2, h4]
      exact h
    | succ d =>
      have hz : (rd_T56 l p).f4 = ((d + 1 : Nat) : Int) := by omega
      rw [hq] at h
      rw [hz] at h4 ⊢
      have e2 : next (((d + 1 : Nat) : Int) :: st) = (d : Int) :: st := by
        rw [next, if_neg (by omega)]
        congr 1
        omega
      rw [e2]
      refine forest l hL m T d (p + 1) (by omega) (by omega) (by omega) (by omega) st _ r hb (by omega) ?_
      rw [h4]
      have e3 := dp_top (lev l m) ((st.length : Int) + 1) deep (steps l (((p + 1 : Nat)) : Int) (d + 1)) 0
      rw [Int.add_zero] at e3
      rw [e3, show ((st.length : Int) + 1 + topF (lev l m) (steps l (((p + 1 : Nat)) : Int) (d + 1)) 0) = (st.length : Int) + (topF (lev l m) (steps l ((p : Int) + 1) (d + 1)) 0 + 1) by
        rw [show (((p + 1 : Nat)) : Int) = (p : Int) + 1 from rfl]; omega]
      exact h
/-- The depth of a list. -/
def depthI (l : List S56) : Int := if (l.length : Int) > 0 ∧ endI l 0 = l.length then lev l l.length 0 else 0
theorem lev_pos (l : List S56) (m : Nat) (i : Int) : 0 ≤ lev l m i := by
  have top : ∀ (f : Int → Int) (js : List Int) (d : Int), 0 ≤ d → 0 ≤ topF f js d := by
    intro f js
    induction js with
    | nil => intro d hd; exact hd
    | cons j js ih =>
      intro d hd
      unfold topF
      refine ih _ ?_
      split <;> omega
  cases m with
  | zero => exact Int.le_refl _
  | succ m => have := top (lev l m) (kidsI l i) 0 (Int.le_refl _); unfold lev; omega
theorem whole_f (l : List S56) (hL : l.length ≤ 1048576) (k : Nat) (hk : l.length + 2 ≤ k) : ast_whole.f k l = some (decide ((l.length : Int) > 0 ∧ endI l 0 = l.length)) := by
  unfold ast_whole.f
  by_cases h : (l.length : Int) > 0
  · rw [if_pos h, end_f l hL 0 k hk, Option.bind_some]
    by_cases h2 : endI l 0 = (l.length : Int)
    · rw [beq_iff_eq.mpr h2, decide_eq_true ⟨h, h2⟩]
    · rw [beq_eq_false_iff_ne.mpr h2, decide_eq_false (fun h3 => h2 h3.2)]
  · rw [if_neg h, decide_eq_false (fun h3 => h h3.1)]
theorem depth_f (l : List S56) (hL : l.length ≤ 1048576) : Ev (fun k => ast_Depth.f k l) (depthI l) := by
  by_cases h : (l.length : Int) > 0 ∧ endI l 0 = l.length
  · have ht := tree l hL l.length 0 (by omega) (by rw [show ((0 : Nat) : Int) = 0 from rfl, h.2]; omega) [] 0 (lev l l.length 0) (fun x hx => by cases hx) (by simp; omega) ⟨1, fun k hk => by
      obtain ⟨k, rfl⟩ : ∃ m, k = m + 1 := ⟨k - 1, by omega⟩
      have hp := lev_pos l l.length 0
      show ast_Depth.l0 (k + 1) _ _ l l.length (endI l ((0 : Nat) : Int)) = _
      rw [show ((0 : Nat) : Int) = 0 from rfl, h.2, ast_Depth.l0, if_neg (by omega)]
      congr 1
      unfold mx
      simp only [List.length_nil]
      split <;> omega⟩
    obtain ⟨B, hB⟩ := ht
    refine ⟨B + l.length + 2, fun k hk => ?_⟩
    show ast_Depth.f k l = _
    unfold ast_Depth.f depthI
    rw [whole_f l hL k (by omega), decide_eq_true h, Option.bind_some, if_pos rfl, if_pos h]
    exact hB k (by omega)
  · refine ⟨l.length + 2, fun k hk => ?_⟩
    show ast_Depth.f k l = _
    unfold ast_Depth.f depthI
    rw [whole_f l hL k (by omega), decide_eq_false h, Option.bind_some, if_neg (by simp), if_neg h]
theorem kids_whole (l : List S56) : ∀ (d p : Nat), 1 ≤ p → fin l.length (l.drop p) p d ≠ 0 → ∀ j ∈ steps l p d, endI l j ≠ 0 ∧ (p : Int) ≤ j
  | 0, p, _, _, j, hj => by simp [steps] at hj
  | d + 1, p, hp, h, j, hj => by
    have hc : ((d + 1 : Nat) : Int) = 1 + (d : Int) := by omega
    rw [hc] at h
    obtain ⟨h1, h2⟩ := fin_add l.length (l.drop p) p 1 d (by omega) (by omega) h hp
    have hlt : p < l.length := by
      rcases Nat.lt_or_ge p l.length with h3 | h3
      · exact h3
      · rw [List.drop_eq_nil_of_le h3] at h1; simp [fin] at h1
    have he : endI l p = fin l.length (l.drop p) p 1 := by
      unfold endI
      rw [if_neg (by omega)]
      rfl
    have hg := fin_ge l.length (l.drop p) p 1 h1
    rw [List.drop_drop, show p + (fin l.length (l.drop p) p 1 - p) = fin l.length (l.drop p) p 1 by omega] at h2
    rw [steps] at hj
    rcases List.mem_cons.1 hj with rfl | hj2
    · exact ⟨by rw [he]; omega, Int.le_refl _⟩
    · rw [he] at hj2
      have ih := kids_whole l d _ (by omega) (by rw [h2]; exact h) j hj2
      exact ⟨ih.1, by omega⟩
theorem levels_l0 (l : List S56) (f : Int → Int) (hf : ∀ j, 0 ≤ f j ∧ f j ≤ 1048576) : ∀ (js pre : List Int) (acc : Int), (∀ j ∈ js, Ev (fun k => weirtree_levels.f k l j) (f j)) → 0 ≤ acc → acc ≤ 1048576 → pre.length + js.length ≤ 1048576 →
    Ev (fun k => weirtree_levels.l0 k l acc (pre ++ js) (pre.length : Int)) (topF f js acc + 1)
  | [], pre, acc, _, h0, h1, _ => ⟨1, fun k hk => by
      obtain ⟨k, rfl⟩ : ∃ m, k = m + 1 := ⟨k - 1, by omega⟩
      show weirtree_levels.l0 (k + 1) _ _ _ _ = _
      rw [weirtree_levels.l0, if_neg (by simp), w64 (by omega) (by omega)]
      rfl⟩
  | j :: js, pre, acc, h, h0, h1, hl => by
    obtain ⟨B1, hB1⟩ := h j (List.mem_cons_self ..)
    simp only [List.length_cons] at hl
    have hfj := hf j
    obtain ⟨B2, hB2⟩ := levels_l0 l f hf js (pre ++ [j]) (if f j > acc then f j else acc) (fun x hx => h x (List.mem_cons_of_mem _ hx)) (by split <;> omega) (by split <;> omega) (by simp; omega)
    refine ⟨B1 + B2 + 1, fun k hk => ?_⟩
    obtain ⟨k, rfl⟩ : ∃ m, k = m + 1 := ⟨k - 1, by omega⟩
    show weirtree_levels.l0 (k + 1) _ _ _ _ = _
    have h3 := hB2 k (by omega)
    have h4 : weirtree_levels.f k l j = some (f j) := hB1 k (by omega)
    simp only [List.append_assoc, List.singleton_append, List.length_append, List.length_singleton] at h3
    rw [weirtree_levels.l0, if_pos (by simp; omega), if_pos (by omega), rd_mid, h4, Option.bind_some, w64 (by omega) (by omega), topF, ← h3]
    by_cases h5 : f j > acc
    · rw [if_pos h5, if_pos h5]; rfl
    · rw [if_neg h5, if_neg h5]; rfl
theorem topF_le (f : Int → Int) (M : Int) (hf : ∀ j, f j ≤ M) : ∀ (js : List Int) (d : Int), d ≤ M → topF f js d ≤ M
  | [], d, hd => hd
  | j :: js, d, hd => by
    rw [topF]
    refine topF_le f M hf js _ ?_
    have := hf j
    split <;> omega
theorem lev_le (l : List S56) : ∀ (m : Nat) (i : Int), lev l m i ≤ m
  | 0, i => Int.le_refl _
  | m + 1, i => by
    have := topF_le (lev l m) m (lev_le l m) (kidsI l i) 0 (by omega)
    rw [lev]
    omega
theorem levels_f (l : List S56) (hL : l.length ≤ 1048576) (hx : ∀ i, (rd_T56 l i).f4 ≤ 9223372036854775807) : ∀ (m : Nat), m ≤ 1048576 → ∀ i : Int, endI l i ≠ 0 → l.length - i ≤ m → Ev (fun k => weirtree_levels.f k l i) (lev l m i)
  | 0, hm, i, he, hi => by
    obtain ⟨h0, h1, _⟩ := endI_pos he
    omega
  | m + 1, hm, i, he, hi => by
    obtain ⟨h0, h1, _⟩ := endI_pos he
    obtain ⟨h2, h3, h4⟩ := kids_fine he
    have hkids : kidsI l i = steps l ((i.toNat + 1 : Nat) : Int) (rd_T56 l i).f4.toNat := by
      unfold kidsI
      rw [if_neg he, show (((i.toNat + 1 : Nat)) : Int) = i + 1 by omega]
    have hw := kids_whole l (rd_T56 l i).f4.toNat (i.toNat + 1) (by omega) (by rw [show (((rd_T56 l i).f4.toNat : Nat) : Int) = (rd_T56 l i).f4 by omega]; omega)
    rw [← hkids] at hw
    have hlen : (kidsI l i).length ≤ 1048576 := by rw [hkids, steps_length]; omega
    obtain ⟨B, hB⟩ := levels_l0 l (lev l m) (fun j => ⟨lev_pos l m j, by have := lev_le l m j; omega⟩) (kidsI l i) [] 0 (fun j hj => levels_f l hL hx m (by omega) j (hw j hj).1 (by have := (hw j hj).2; omega)) (by omega) (by omega) (by simpa using hlen)
    refine ⟨B + 3 * l.length + 13, fun k hk => ?_⟩
    obtain ⟨k, rfl⟩ : ∃ m, k = m + 1 := ⟨k - 1, by omega⟩
    show weirtree_levels.f (k + 1) l i = _
    rw [weirtree_levels.f, wkids_f l hL hx i k (by omega), Option.bind_some, lev]
    exact hB k (by omega)
theorem wdepth_f (l : List S56) (hL : l.length ≤ 1048576) (hx : ∀ i, (rd_T56 l i).f4 ≤ 9223372036854775807) : Ev (fun k => weirtree_Depth.f k l) (depthI l) := by
  have ht : ∀ k, 2 * l.length + 4 ≤ k → weirtree_IsTree.f k l = some (decide ((l.length : Int) > 0 ∧ endI l 0 = l.length)) := by
    intro k hk
    unfold weirtree_IsTree.f
    by_cases h : (l.length : Int) > 0
    · rw [if_pos h, wend_f l hL 0 k hk, Option.bind_some]
      by_cases h2 : endI l 0 = (l.length : Int)
      · rw [beq_iff_eq.mpr h2, decide_eq_true ⟨h, h2⟩]
      · rw [beq_eq_false_iff_ne.mpr h2, decide_eq_false (fun h3 => h2 h3.2)]
    · rw [if_neg h, decide_eq_false (fun h3 => h h3.1)]
  by_cases h : (l.length : Int) > 0 ∧ endI l 0 = l.length
  · obtain ⟨B, hB⟩ := levels_f l hL hx l.length hL 0 (by rw [h.2]; omega) (by omega)
    refine ⟨B + 2 * l.length + 4, fun k hk => ?_⟩
    have h4 : weirtree_levels.f k l 0 = some (lev l l.length 0) := hB k (by omega)
    show weirtree_Depth.f k l = _
    unfold weirtree_Depth.f depthI
    rw [ht k (by omega), decide_eq_true h, Option.bind_some, if_pos rfl, h4, Option.bind_some, if_pos h]
  · refine ⟨2 * l.length + 4, fun k hk => ?_⟩
    show weirtree_Depth.f k l = _
    unfold weirtree_Depth.f depthI
    rw [ht k hk, decide_eq_false h, Option.bind_some, if_neg (by simp), if_neg h]
theorem law (l : List S56) (hL : l.length ≤ 1048576) (hx : ∀ i, (rd_T56 l i).f4 ≤ 9223372036854775807) : ∃ K0, ∀ K, K0 ≤ K → (∀ i : Int, ast_Kids.f K l i = some (kidsI l i) ∧ weirtree_Kids.f K l i = some (kidsI l i) ∧ ast_End.f K l i = some (endI l i) ∧ weirtree_End.f K l i = some (endI l i)) ∧
    ast_Depth.f K l = some (depthI l) ∧ weirtree_Depth.f K l = some (depthI l) := by
  obtain ⟨B1, h1⟩ := depth_f l hL
  obtain ⟨B2, h2⟩ := wdepth_f l hL hx
  exact ⟨B1 + B2 + 3 * l.length + 60, fun K hK => ⟨fun i => ⟨kids_f l hL i _ (by omega), wkids_f l hL hx i _ (by omega), end_f l hL i _ (by omega), wend_f l hL i _ (by omega)⟩, h1 _ (by omega), h2 _ (by omega)⟩⟩
theorem kids_len (l : List S56) (i : Int) : (kidsI l i).length ≤ l.length := by
  unfold kidsI
  by_cases h : endI l i = 0
  · rw [if_pos h]; simp
  · rw [if_neg h, steps_length]
    have := kids_fine h
    omega
theorem rd_fine {l : List S56} (h : ∀ n ∈ l, Fine n ∧ n.f2.size ≤ maxLen) (i : Int) : (rd_T56 l i).f4 ≤ 9223372036854775807 := by
  unfold rd_T56
  rw [List.getD_eq_getElem?_getD]
  cases hq : l[i.toNat]? with
  | none => decide
  | some n => exact (h n (List.mem_of_getElem? hq)).1.kids.2
end Go.Proofs.YtlbjfomcgbiagaaGreatDoor.DepthPure
