/- Plain law of AstEnds: of every list of at most 2^20 nodes, kids stand one behind the other, and the last one ends where the node's tree does. No program's memory in sight. -/
import Derived.Test.YtabhhfpfdndidaaGreatDoorPrint8
import Derived.Test.YtabhhfpfdndidaaGreatDoorNodes
namespace Go.Proofs.YtabhhfpfdndidaaGreatDoor.Ends
open Go.RowKit Go.Proofs.YtabhhfpfdndidaaGreatDoorW.PrintWords Go.Proofs.YtabhhfpfdndidaaGreatDoorW.PrintMore Go.Proofs.YtabhhfpfdndidaaGreatDoor.Print Go.Proofs.YtabhhfpfdndidaaGreatDoor.Nodes

/-- Where so many open trees end that begin at place p with the nodes s; 0: they do not all stand there. -/
def fin (L : Int) : List S35 → Nat → Int → Nat
  | [], p, o => if o ≤ 0 then p else 0
  | n :: s, p, o => if o ≤ 0 then p else if n.f4 < 0 ∨ n.f4 > L then 0 else fin L s (p + 1) (o + n.f4 - 1)

theorem fin_le (L : Int) : ∀ (s : List S35) (p : Nat) (o : Int), fin L s p o ≤ p + s.length
  | [], p, o => by unfold fin; split <;> simp
  | n :: s, p, o => by
    unfold fin
    split
    · omega
    · split
      · omega
      · have := fin_le L s (p + 1) (o + n.f4 - 1)
        simp only [List.length_cons]; omega
theorem fin_ge (L : Int) : ∀ (s : List S35) (p : Nat) (o : Int), fin L s p o ≠ 0 → p ≤ fin L s p o
  | [], p, o, h => by unfold fin at h ⊢; split <;> simp_all
  | n :: s, p, o, h => by
    unfold fin at h ⊢
    split
    · omega
    · rename_i h1
      rw [if_neg h1] at h
      split
      · rename_i h2; rw [if_pos h2] at h; exact absurd rfl h
      · rename_i h2
        rw [if_neg h2] at h
        have := fin_ge L s (p + 1) _ h
        omega

/-- Of a + b open trees, the first a end where the last b begin. -/
theorem fin_add (L : Int) : ∀ (s : List S35) (p : Nat) (a b : Int), 0 ≤ a → 0 ≤ b → fin L s p (a + b) ≠ 0 → 1 ≤ p →
    fin L s p a ≠ 0 ∧ fin L (s.drop (fin L s p a - p)) (fin L s p a) b = fin L s p (a + b)
  | [], p, a, b, ha, hb, h, hp => by
    have hab : a + b ≤ 0 := by
      by_cases h1 : a + b ≤ 0
      · exact h1
      · exact absurd (by rw [fin, if_neg h1]) h
    have e : ∀ o : Int, o ≤ 0 → fin L [] p o = p := fun o ho => by rw [fin, if_pos ho]
    rw [e a (by omega), e (a + b) hab]
    refine ⟨by omega, ?_⟩
    rw [List.drop_nil, e b (by omega)]
  | n :: s, p, a, b, ha, hb, h, hp => by
    by_cases h0 : a ≤ 0
    · have e : a = 0 := by omega
      subst e
      have e1 : fin L (n :: s) p 0 = p := by unfold fin; simp
      rw [e1]
      refine ⟨by omega, ?_⟩
      rw [Nat.sub_self, List.drop_zero, Int.zero_add]
    · have h1 : ¬ a + b ≤ 0 := by omega
      unfold fin at h
      rw [if_neg h1] at h
      by_cases h2 : n.f4 < 0 ∨ n.f4 > L
      · rw [if_pos h2] at h; exact absurd rfl h
      · rw [if_neg h2] at h
        rw [show a + b + n.f4 - 1 = (a + n.f4 - 1) + b by omega] at h
        have ih := fin_add L s (p + 1) (a + n.f4 - 1) b (by omega) hb h (by omega)
        have e1 : fin L (n :: s) p a = fin L s (p + 1) (a + n.f4 - 1) := by
          rw [fin, if_neg h0, if_neg h2]
        have e2 : fin L (n :: s) p (a + b) = fin L s (p + 1) ((a + n.f4 - 1) + b) := by
          rw [fin, if_neg h1, if_neg h2, show a + b + n.f4 - 1 = (a + n.f4 - 1) + b by omega]
        rw [e1, e2]
        refine ⟨ih.1, ?_⟩
        have hg := fin_ge L s (p + 1) _ ih.1
        rw [← ih.2]
        congr 1
        rw [show fin L s (p + 1) (a + n.f4 - 1) - p = (fin L s (p + 1) (a + n.f4 - 1) - (p + 1)) + 1 by omega, List.drop_succ_cons]

theorem w64 {x : Int} (h0 : -9223372036854775808 ≤ x) (h1 : x ≤ 9223372036854775807) : wrap64 x = x := by
  unfold wrap64; omega

theorem drop_rd {l : List S35} {p : Nat} {n : S35} {s : List S35} (h : l.drop p = n :: s) : rd_T35 l (p : Int) = n ∧ l.drop (p + 1) = s ∧ p < l.length := by
  have hp : p < l.length := by
    rcases Nat.lt_or_ge p l.length with h1 | h1
    · exact h1
    · rw [List.drop_eq_nil_of_le h1] at h; cases h
  rw [List.drop_eq_getElem_cons hp] at h
  injection h with h1 h2
  refine ⟨?_, h2, hp⟩
  simp [rd_T35, List.getD_eq_getElem?_getD, hp, h1]

theorem end_l0 (l : List S35) (hL : l.length ≤ 1048576) : ∀ (s : List S35) (p : Nat) (o : Int) (k : Nat), l.drop p = s → p + s.length = l.length → 0 ≤ o → o + s.length * 1048576 ≤ 4611686018427387904 → s.length < k →
    ast_End.l0 k l p o = some (fin l.length s p o : Int)
  | [], p, o, k, hs, hp, h0, h1, hk => by
    obtain ⟨k, rfl⟩ : ∃ m, k = m + 1 := ⟨k - 1, by simp at hk; omega⟩
    simp only [ast_End.l0]
    simp only [List.length_nil, Nat.add_zero] at hp
    by_cases h : o > 0
    · rw [if_pos h, if_pos (by omega), fin, if_neg (by omega)]; rfl
    · rw [if_neg h, fin, if_pos (by omega)]
  | n :: s, p, o, k, hs, hp, h0, h1, hk => by
    obtain ⟨k, rfl⟩ : ∃ m, k = m + 1 := ⟨k - 1, by simp at hk; omega⟩
    obtain ⟨hr, hs2, hlt⟩ := drop_rd hs
    simp only [List.length_cons] at hp h1 hk
    simp only [ast_End.l0]
    by_cases h : o > 0
    · rw [if_pos h, if_neg (by omega), if_pos (by omega), if_pos (by omega), hr, fin, if_neg (show ¬ o ≤ 0 by omega)]
      by_cases h2 : n.f4 < 0
      · rw [if_pos h2, if_pos (.inl h2)]; rfl
      · rw [if_neg h2]
        by_cases h3 : n.f4 > (l.length : Int)
        · rw [if_pos h3, if_pos (.inr h3)]; rfl
        · rw [if_neg h3, if_neg (by omega), w64 (by omega) (by omega), w64 (x := o + n.f4) (by omega) (by omega), w64 (by omega) (by omega)]
          have := end_l0 l hL s (p + 1) (o + n.f4 - 1) k hs2 (by omega) (by omega) (by omega) (by omega)
          rw [← this]
          rfl
    · rw [if_neg h, fin, if_pos (by omega)]

/-- End. -/
def endI (l : List S35) (i : Int) : Int := if i < 0 ∨ i ≥ l.length then 0 else (fin l.length (l.drop i.toNat) i.toNat 1 : Int)
theorem end_f (l : List S35) (hL : l.length ≤ 1048576) (i : Int) (k : Nat) (hk : l.length + 2 ≤ k) : ast_End.f k l i = some (endI l i) := by
  obtain ⟨k, rfl⟩ : ∃ m, k = m + 1 := ⟨k - 1, by omega⟩
  unfold ast_End.f endI
  by_cases h : i < 0
  · rw [if_pos h, if_pos (.inl h)]; rfl
  · rw [if_neg h]
    by_cases h2 : i ≥ l.length
    · rw [if_pos (.inr h2), decide_eq_true h2]; rfl
    · rw [if_neg (by omega), decide_eq_false h2]
      simp only [ast_End.j0]
      rw [if_neg (by simp)]
      have e : ((i.toNat : Nat) : Int) = i := by omega
      have := end_l0 l hL (l.drop i.toNat) i.toNat 1 k rfl (by rw [List.length_drop]; omega) (by omega) (by rw [List.length_drop]; omega) (by rw [List.length_drop]; omega)
      rw [e] at this
      exact this

/-- The places from p on, each where the tree ahead of it ends. -/
def steps (l : List S35) : Int → Nat → List Int
  | _, 0 => []
  | p, d + 1 => p :: steps l (endI l p) d
/-- Where the last of them ends. -/
def after (l : List S35) : Int → Nat → Int
  | p, 0 => p
  | p, d + 1 => after l (endI l p) d
theorem steps_length (l : List S35) : ∀ (d : Nat) (p : Int), (steps l p d).length = d
  | 0, _ => rfl
  | d + 1, p => by simp [steps, steps_length l d]

theorem kids_l0 (l : List S35) (hL : l.length ≤ 1048576) : ∀ (d : Nat) (acc : List Int) (p x j : Int) (k : Nat), x - j = d → 0 ≤ j → x ≤ 1048576 → acc.length + d ≤ 1048576 → d + l.length + 3 ≤ k →
    ast_Kids.l0 k l acc p x j = some (acc ++ steps l p d)
  | 0, acc, p, x, j, k, hd, hj, hx, ha, hk => by
    obtain ⟨k, rfl⟩ : ∃ m, k = m + 1 := ⟨k - 1, by omega⟩
    simp only [ast_Kids.l0]
    rw [if_neg (by omega)]
    simp [steps]
  | d + 1, acc, p, x, j, k, hd, hj, hx, ha, hk => by
    obtain ⟨k, rfl⟩ : ∃ m, k = m + 1 := ⟨k - 1, by omega⟩
    simp only [ast_Kids.l0]
    rw [if_pos (by omega), if_pos (by omega), end_f l hL p k (by omega)]
    simp only [Option.bind_some]
    rw [w64 (by omega) (by omega), kids_l0 l hL d (acc ++ [p]) (endI l p) x (j + 1) k (by omega) (by omega) hx (by simp; omega) (by omega)]
    simp [steps]

/-- Kids of a node. -/
def kidsI (l : List S35) (i : Int) : List Int := if endI l i = 0 then [] else steps l (i + 1) (rd_T35 l i).f4.toNat

theorem endI_pos {l : List S35} {i : Int} (h : endI l i ≠ 0) : 0 ≤ i ∧ i < l.length ∧ endI l i = fin l.length (l.drop i.toNat) i.toNat 1 := by
  unfold endI at h ⊢
  by_cases h1 : i < 0 ∨ i ≥ l.length
  · rw [if_pos h1] at h; exact absurd rfl h
  · rw [if_neg h1]; exact ⟨by omega, by omega, rfl⟩
/-- A node whose tree stands there: how many kids, and where these end. -/
theorem kids_fine {l : List S35} {i : Int} (h : endI l i ≠ 0) : 0 ≤ (rd_T35 l i).f4 ∧ (rd_T35 l i).f4 ≤ l.length ∧ (fin l.length (l.drop (i.toNat + 1)) (i.toNat + 1) (rd_T35 l i).f4 : Int) = endI l i := by
  obtain ⟨h0, h1, h2⟩ := endI_pos h
  have hlt : i.toNat < l.length := by omega
  obtain ⟨hr, hs, _⟩ := drop_rd (List.drop_eq_getElem_cons hlt)
  have e : ((i.toNat : Nat) : Int) = i := by omega
  rw [e] at hr
  rw [h2] at h ⊢
  rw [List.drop_eq_getElem_cons hlt, fin, if_neg (by omega)] at h ⊢
  rw [← hr] at h ⊢
  by_cases h3 : (rd_T35 l i).f4 < 0 ∨ (rd_T35 l i).f4 > (l.length : Int)
  · rw [if_pos h3] at h; exact absurd rfl h
  · rw [if_neg h3]
    refine ⟨by omega, by omega, ?_⟩
    rw [show (1 : Int) + (rd_T35 l i).f4 - 1 = (rd_T35 l i).f4 by omega]

theorem kids_f (l : List S35) (hL : l.length ≤ 1048576) (i : Int) (k : Nat) (hk : 2 * l.length + 4 ≤ k) : ast_Kids.f k l i = some (kidsI l i) := by
  unfold ast_Kids.f kidsI
  rw [end_f l hL i k (by omega)]
  simp only [Option.bind_some]
  by_cases h : endI l i = 0
  · rw [if_pos h, if_pos h]
  · rw [if_neg h, if_neg h]
    obtain ⟨h0, h1, _⟩ := endI_pos h
    obtain ⟨h2, h3, _⟩ := kids_fine h
    rw [if_pos h0, if_pos h1, w64 (by omega) (by omega), kids_l0 l hL (rd_T35 l i).f4.toNat [] (i + 1) (rd_T35 l i).f4 0 k (by omega) (by omega) (by omega) (by simp; omega) (by omega)]
    rfl

/-- Behind d trees that end at e, the place is e. -/
theorem after_fin {l : List S35} : ∀ (d : Nat) (p : Nat), 1 ≤ p → (fin l.length (l.drop p) p d : Nat) ≠ 0 → after l p d = (fin l.length (l.drop p) p d : Int)
  | 0, p, hp, h => by
    have : fin l.length (l.drop p) p ((0 : Nat) : Int) = p := by
      cases hd : l.drop p with
      | nil => simp [fin]
      | cons n s => simp [fin]
    rw [this]; rfl
  | d + 1, p, hp, h => by
    have hc : ((d + 1 : Nat) : Int) = 1 + (d : Int) := by omega
    rw [hc] at h ⊢
    obtain ⟨h1, h2⟩ := fin_add l.length (l.drop p) p 1 d (by omega) (by omega) h hp
    have hlt : p < l.length := by
      rcases Nat.lt_or_ge p l.length with h3 | h3
      · exact h3
      · rw [List.drop_eq_nil_of_le h3] at h1; simp [fin] at h1
    have he : endI l p = fin l.length (l.drop p) p 1 := by
      unfold endI
      rw [if_neg (by omega)]
      rfl
    have hg := fin_ge l.length (l.drop p) p 1 h1
    rw [List.drop_drop, show p + (fin l.length (l.drop p) p 1 - p) = fin l.length (l.drop p) p 1 by omega] at h2
    rw [after, he, after_fin d _ (by omega) (by rw [h2]; exact h), h2]
theorem kids_end {l : List S35} {i : Int} (h : endI l i ≠ 0) : after l (i + 1) (rd_T35 l i).f4.toNat = endI l i := by
  obtain ⟨h0, h1, _⟩ := endI_pos h
  obtain ⟨h2, h3, h4⟩ := kids_fine h
  have e : ((rd_T35 l i).f4.toNat : Int) = (rd_T35 l i).f4 := by omega
  have e2 : (((i.toNat + 1 : Nat)) : Int) = i + 1 := by omega
  have := after_fin (l := l) (rd_T35 l i).f4.toNat (i.toNat + 1) (by omega) (by rw [e]; omega)
  rw [e, e2, h4] at this
  exact this
theorem live_at : weirlaw13_live.f 40 = some true := by kernel_rfl
theorem end2_at : ast_End.f 40 [(⟨0, 0, (⟨#[]⟩ : ByteArray), 0, 1, 0⟩ : S35), (⟨0, 0, (⟨#[]⟩ : ByteArray), 0, 0, 0⟩ : S35)] 0 = some 2 := by kernel_rfl
theorem up {α : Type} {f : Nat → Option α} (hm : ∀ k, LeO (f k) (f (k + 1))) {r : α} {k0 : Nat} (h : f k0 = some r) : ∀ k, k0 ≤ k → f k = some r := by
  intro k hk
  induction k with
  | zero => rw [show k0 = 0 by omega] at h; exact h
  | succ k ih =>
    rcases Nat.lt_or_ge k0 (k + 1) with h1 | h1
    · exact hm k r (ih (by omega))
    · rw [show k0 = k + 1 by omega] at h; exact h
theorem live_true (k : Nat) (hk : 40 ≤ k) : weirlaw13_live.f k = some true := up weirlaw13_live.mono live_at k hk
theorem end2 (k : Nat) (hk : 40 ≤ k) : ast_End.f k [(⟨0, 0, (⟨#[]⟩ : ByteArray), 0, 1, 0⟩ : S35), (⟨0, 0, (⟨#[]⟩ : ByteArray), 0, 0, 0⟩ : S35)] 0 = some 2 := up (fun k => ast_End.mono _ _ k) end2_at k hk

theorem rd_mid (pre : List Int) (x : Int) (s : List Int) : rd (pre ++ x :: s) (pre.length : Int) = x := by
  simp [rd, List.getD_eq_getElem?_getD]

theorem law_l1 (l : List S35) (hL : l.length ≤ 1048576) (i : Int) (B : Nat) (hB : l.length + 2 ≤ B) (hi0 : 0 ≤ i) (hi1 : i < l.length) (hnext : ∀ k, B ≤ k → weirlaw13_AstEnds.l0 k l (i + 1) = some true) (kids : List Int) (hk4 : (kids.length : Int) = (rd_T35 l i).f4) (hkb : kids.length ≤ 1048576) (e : Int) :
    ∀ (d : Nat) (pre : List Int) (p : Int) (k : Nat), kids = pre ++ steps l p d → after l p d = e → B + d + 1 ≤ k → weirlaw13_AstEnds.l1 k l i e kids p (pre.length : Int) = some true
  | 0, pre, p, k, hks, ha, hk => by
    obtain ⟨k, rfl⟩ : ∃ m, k = m + 1 := ⟨k - 1, by omega⟩
    have hp : kids.length = pre.length := by rw [hks]; simp [steps]
    simp only [weirlaw13_AstEnds.l1]
    rw [if_neg (by omega), if_pos (by simpa [after] using ha), if_pos hi0, if_pos hi1, if_pos hk4, w64 (by omega) (by omega)]
    exact hnext k (by omega)
  | d + 1, pre, p, k, hks, ha, hk => by
    obtain ⟨k, rfl⟩ : ∃ m, k = m + 1 := ⟨k - 1, by omega⟩
    have hp : kids.length = pre.length + (d + 1) := by rw [hks, List.length_append, steps_length]
    have hr : rd kids (pre.length : Int) = p := by rw [hks, steps]; exact rd_mid _ _ _
    simp only [weirlaw13_AstEnds.l1]
    rw [if_pos (by omega), if_pos (by omega), hr, if_pos rfl, end_f l hL p k (by omega)]
    simp only [Option.bind_some]
    have := law_l1 l hL i B hB hi0 hi1 hnext kids hk4 hkb e d (pre ++ [p]) (endI l p) k (by rw [hks, steps]; simp) (by simpa [after] using ha) (by omega)
    rw [w64 (by omega) (by omega)]
    simpa using this

/-- How many rounds. -/
def rounds_ (l : List S35) (d : Nat) : Nat := d * (l.length + 4) + (2 * l.length + 44)
theorem law_l0 (l : List S35) (hL : l.length ≤ 1048576) : ∀ (d : Nat) (i : Int) (k : Nat), 0 ≤ i → (l.length : Int) - i = d → rounds_ l d ≤ k → weirlaw13_AstEnds.l0 k l i = some true
  | 0, i, k, h0, hd, hk => by
    unfold rounds_ at hk
    obtain ⟨k, rfl⟩ : ∃ m, k = m + 1 := ⟨k - 1, by omega⟩
    simp only [weirlaw13_AstEnds.l0]
    rw [if_neg (by omega), live_true k (by omega)]
    simp only [Option.bind_some, if_true]
    rw [end2 k (by omega)]
    rfl
  | d + 1, i, k, h0, hd, hk => by
    have hs : rounds_ l (d + 1) = rounds_ l d + (l.length + 4) := by unfold rounds_; rw [Nat.succ_mul]; omega
    have hb : 2 * l.length + 44 ≤ rounds_ l d := by unfold rounds_; omega
    rw [hs] at hk
    obtain ⟨k, rfl⟩ : ∃ m, k = m + 1 := ⟨k - 1, by omega⟩
    have hnext := fun k (h : rounds_ l d ≤ k) => law_l0 l hL d (i + 1) k (by omega) (by omega) h
    simp only [weirlaw13_AstEnds.l0]
    rw [if_pos (by omega), end_f l hL i k (by omega), kids_f l hL i k (by omega)]
    simp only [Option.bind_some]
    by_cases he : endI l i = 0
    · rw [if_pos he]
      obtain ⟨k, rfl⟩ : ∃ m, k = m + 1 := ⟨k - 1, by omega⟩
      simp only [weirlaw13_AstEnds.j1]
      rw [if_pos trivial, if_pos he, w64 (by omega) (by omega)]
      exact hnext k (by omega)
    · rw [if_neg he]
      obtain ⟨h2, h3, _⟩ := kids_fine he
      have hkd : kidsI l i = steps l (i + 1) (rd_T35 l i).f4.toNat := by unfold kidsI; rw [if_neg he]
      have hkl : ((kidsI l i).length : Int) = (rd_T35 l i).f4 := by rw [hkd, steps_length]; omega
      obtain ⟨k, rfl⟩ : ∃ m, k = m + 1 := ⟨k - 1, by omega⟩
      simp only [weirlaw13_AstEnds.j1]
      by_cases hz : ((kidsI l i).length : Int) = 0
      · rw [if_pos (by simpa using hz), if_neg he, if_pos h0, if_pos (by omega), if_pos (by omega), w64 (by omega) (by omega)]
        exact hnext k (by omega)
      · rw [if_neg (by simpa using hz), w64 (by omega) (by omega)]
        exact law_l1 l hL i (rounds_ l d) (by omega) h0 (by omega) hnext (kidsI l i) hkl (by omega) (endI l i) (rd_T35 l i).f4.toNat [] (i + 1) k (by rw [hkd]; rfl) (kids_end he) (by omega)

/-- THE PLAIN LAW. -/
theorem law (l : List S35) (hL : l.length ≤ 1048576) : ∃ k, weirlaw13_AstEnds.f k l = some true :=
  ⟨rounds_ l l.length, law_l0 l hL l.length 0 _ (by omega) (by omega) (Nat.le_refl _)⟩
end Go.Proofs.YtabhhfpfdndidaaGreatDoor.Ends
