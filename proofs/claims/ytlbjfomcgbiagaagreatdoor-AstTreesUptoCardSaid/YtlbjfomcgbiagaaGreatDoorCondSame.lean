/- A condition is right place by place just if it is right from its root on. -/
import Derived.Test.YtlbjfomcgbiagaaGreatDoorCondPure
import Derived.Test.YtlbjfomcgbiagaaGreatDoorConds
set_option linter.unusedVariables false
set_option linter.unusedSimpArgs false
namespace Go.Proofs.YtlbjfomcgbiagaaGreatDoor.CondSame
open Go Go.RowKit Go.Proofs.YtlbjfomcgbiagaaGreatDoorW.PrintWords Go.Proofs Go.Proofs.YtlbjfomcgbiagaaGreatDoor Go.Proofs.YtlbjfomcgbiagaaGreatDoor.Base Go.Proofs.YtlbjfomcgbiagaaGreatDoor.Print Go.Proofs.YtlbjfomcgbiagaaGreatDoor.CondT Go.Proofs.YtlbjfomcgbiagaaGreatDoor.Nodes Go.Proofs.YtlbjfomcgbiagaaGreatDoor.Ends Go.Proofs.YtlbjfomcgbiagaaGreatDoor.WalksPure Go.Proofs.YtlbjfomcgbiagaaGreatDoor.DepthPure Go.Proofs.YtlbjfomcgbiagaaGreatDoor.SumPure Go.Proofs.YtlbjfomcgbiagaaGreatDoor.Fits Go.Proofs.YtlbjfomcgbiagaaGreatDoor.CondW Go.Proofs.YtlbjfomcgbiagaaGreatDoor.CondPure

/-- What a place may be. -/
def Sorts (l : List ND) (so : Int → Int) : Prop := ∀ i : Int, (so i = 0) ∨ (so i = 1 ∧ 11 ≤ (rd_T56 l i).f0 ∧ (rd_T56 l i).f0 ≤ 22) ∨ (so i = 2 ∧ ((rd_T56 l i).f0 = 23 ∨ (rd_T56 l i).f0 = 24) ∧ (rd_T56 l i).f4 = 0) ∨ (so i = 3 ∧ ((rd_T56 l i).f0 = 25 ∨ (rd_T56 l i).f0 = 26) ∧ (rd_T56 l i).f4 = 0)
theorem all_so (L : List Int) (so : Int → Int) (v : Int) : (L.map so).all (· == v) = true ↔ ∀ q ∈ L, so q = v := by
  rw [List.all_eq_true]
  constructor
  · intro h q hq
    have := h (so q) (List.mem_map_of_mem hq)
    simpa using this
  · intro h x hx
    obtain ⟨q, hq, rfl⟩ := List.mem_map.1 hx
    simpa using h q hq
theorem all_so2 (L : List Int) (so : Int → Int) (v : Int) : L.all (so · == v) = true ↔ ∀ q ∈ L, so q = v := by
  rw [List.all_eq_true]
  constructor
  · intro h q hq
    simpa using h q hq
  · intro h x hx
    simpa using h x hx
theorem mem_drop {L : List Int} {q : Int} (h : q ∈ L.drop 1) : q ∈ L := List.mem_of_mem_drop h
theorem rd_mem (L : List Int) (h : 2 ≤ L.length) : rd L 0 ∈ L := by
  match L, h with
  | x :: r, _ => simp [rd]
theorem cons_mem {L : List Int} (h : 2 ≤ L.length) {q : Int} (hq : q ∈ L) : q = rd L 0 ∨ q ∈ L.drop 1 := by
  match L, h with
  | x :: r, _ =>
    rcases List.mem_cons.1 hq with rfl | hq
    · left; simp [rd]
    · right; simpa using hq
theorem cond_true (l : List ND) (so : Int → Int) (hC : Sorts l so) (hF : ∀ i : Int, 0 ≤ i → i < l.length → so i ≠ 0 ∧ ftI l so i = true) :
    ∀ (m : Nat) (p : Int), l.length - p ≤ m → endI l p ≠ 0 → so p = 1 → condF l (kidsI l) so m p = true
  | 0, p, hm, he, hs => by
    have := (endI_pos he).2.1
    omega
  | m + 1, p, hm, he, hs => by
    obtain ⟨p0, p1, _⟩ := endI_pos he
    have hkg := kids_good he
    have hb := fits_cases (hF p p0 p1).2
    rw [List.length_map] at hb
    have hop : 11 ≤ (rd_T56 l p).f0 ∧ (rd_T56 l p).f0 ≤ 22 := by
      rcases hC p with h | h | h | h <;> omega
    have ih : ∀ q ∈ kidsI l p, so q = 1 → condF l (kidsI l) so m q = true := fun q hq h => cond_true l so hC hF m q (by have := hkg q hq; omega) (hkg q hq).1 h
    have kidsAll : (∀ q ∈ kidsI l p, so q = 1) → (kidsI l p).all (condF l (kidsI l) so m) = true := fun h => by
      rw [List.all_eq_true]
      exact fun q hq => ih q hq (h q hq)
    rw [condF, hs]
    rcases hb with ⟨o, h0⟩ | ⟨o, h1, h2⟩ | ⟨o, h1, h2⟩ | ⟨o, h1, h2⟩ | ⟨o, h1, h2⟩ | ⟨o, h1, h2, h3, h4⟩
    · rw [if_pos (by omega), h0]; rfl
    · rw [if_neg (by omega), if_pos o, h1, kidsAll ((all_so _ _ _).1 h2)]; rfl
    · rw [if_neg (by omega), if_neg (by omega), if_pos o, decide_eq_true h1, kidsAll ((all_so _ _ _).1 h2)]; rfl
    · rw [if_neg (by omega), if_neg (by omega), if_neg (by omega), if_pos o, h1]
      rw [Bool.or_eq_true, all_so, all_so] at h2
      rcases h2 with h2 | h2
      · rw [(all_so2 _ _ _).2 h2]; rfl
      · rw [(all_so2 _ _ _).2 h2, Bool.or_true]; rfl
    · rw [if_neg (by omega), if_neg (by omega), if_neg (by omega), if_neg (by omega), if_pos o, h1, (all_so2 _ _ _).2 ((all_so _ _ _).1 h2)]; rfl
    · rw [if_neg (by omega), if_neg (by omega), if_neg (by omega), if_neg (by omega), if_neg (by omega), if_pos o, decide_eq_true h1, decide_eq_true h2]
      have ha := (all_so _ _ _).1 h3
      rw [ha _ (rd_mem _ h1)]
      have ht : ((kidsI l p).drop 1).all (fun q => (rd_T56 l q).f0 == 24 && so q == 2) = true := by
        rw [List.all_eq_true]
        intro q hq
        have h5 := ha q (mem_drop hq)
        have h6 : ¬ ((rd_T56 l q).f0 == 23) = true := fun h => by
          have : ((kidsI l p).drop 1).any (fun p => (rd_T56 l p).f0 == 23) = true := List.any_eq_true.2 ⟨q, hq, h⟩
          rw [h4] at this
          cases this
        rw [Bool.and_eq_true]
        refine ⟨?_, by simpa using h5⟩
        rcases hC q with h | h | h | h
        · omega
        · omega
        · rcases h.2.1 with h7 | h7
          · exact absurd (by simpa using h7) h6
          · simpa using h7
        · omega
      rw [ht]; rfl
theorem cover (l : List ND) : ∀ (d : Nat) (p : Int), (∀ j ∈ steps l p d, endI l j ≠ 0) → ∀ i : Int, p ≤ i → i < after l p d → ∃ j ∈ steps l p d, j ≤ i ∧ i < endI l j
  | 0, p, h, i, h0, h1 => by
    rw [after] at h1
    omega
  | d + 1, p, h, i, h0, h1 => by
    by_cases hi : i < endI l p
    · exact ⟨p, by simp [steps], h0, hi⟩
    · rw [after] at h1
      obtain ⟨j, hj, h2⟩ := cover l d (endI l p) (fun j hj => h j (by simp [steps, hj])) i (by omega) h1
      exact ⟨j, by simp [steps, hj], h2⟩
theorem leaf_end {l : List ND} {j : Int} (h : endI l j ≠ 0) (h4 : (rd_T56 l j).f4 = 0) : endI l j = j + 1 ∧ kidsI l j = [] := by
  have h1 := kids_end h
  rw [h4] at h1
  refine ⟨h1.symm, ?_⟩
  rw [kids_at h, h4]
  rfl
theorem cond_good (l : List ND) (so : Int → Int) (hC : Sorts l so) : ∀ (m : Nat) (p : Int), endI l p ≠ 0 → condF l (kidsI l) so m p = true → ∀ i : Int, p ≤ i → i < endI l p → so i ≠ 0 ∧ ftI l so i = true
  | 0, p, he, h, i, h0, h1 => by cases h
  | m + 1, p, he, h, i, h0, h1 => by
    obtain ⟨p0, p1, _⟩ := endI_pos he
    have hkg := kids_good he
    have hke := kids_end he
    have hka := kids_at he
    rw [condF, Bool.and_eq_true] at h
    obtain ⟨hs, h⟩ := h
    have hs1 : so p = 1 := by simpa using hs
    have hop : 11 ≤ (rd_T56 l p).f0 ∧ (rd_T56 l p).f0 ≤ 22 := by
      rcases hC p with h | h | h | h <;> omega
    -- the place itself, and each kid
    have both : ftI l so p = true ∧ ∀ q ∈ kidsI l p, (so q = 2 ∨ so q = 3) ∨ condF l (kidsI l) so m q = true := by
      unfold ftI fitsB
      rw [List.length_map]
      by_cases o1 : (rd_T56 l p).f0 = 11 ∨ (rd_T56 l p).f0 = 12
      · rw [if_pos o1] at h
        rw [if_pos (by omega)]
        refine ⟨h, fun q hq => ?_⟩
        have : (kidsI l p).length = 0 := by simpa using h
        rw [List.length_eq_zero_iff.1 this] at hq
        cases hq
      rw [if_neg o1] at h
      rw [if_neg (by omega)]
      have kidsTrue : (kidsI l p).all (condF l (kidsI l) so m) = true → (∀ q ∈ kidsI l p, so q = 1) ∧ ∀ q ∈ kidsI l p, (so q = 2 ∨ so q = 3) ∨ condF l (kidsI l) so m q = true := fun ha => by
        rw [List.all_eq_true] at ha
        refine ⟨fun q hq => ?_, fun q hq => .inr (ha q hq)⟩
        have := ha q hq
        cases m with
        | zero => cases this
        | succ m =>
          rw [condF, Bool.and_eq_true] at this
          simpa using this.1
      by_cases o2 : (rd_T56 l p).f0 = 13
      · rw [if_pos o2, Bool.and_eq_true] at h
        rw [if_pos o2, h.1, (all_so _ _ _).2 (kidsTrue h.2).1]
        exact ⟨rfl, (kidsTrue h.2).2⟩
      rw [if_neg o2] at h ⊢
      by_cases o3 : (rd_T56 l p).f0 = 14 ∨ (rd_T56 l p).f0 = 15
      · rw [if_pos o3, Bool.and_eq_true] at h
        rw [if_pos o3, h.1, (all_so _ _ _).2 (kidsTrue h.2).1]
        exact ⟨rfl, (kidsTrue h.2).2⟩
      rw [if_neg o3] at h ⊢
      by_cases o4 : (rd_T56 l p).f0 = 16 ∨ (rd_T56 l p).f0 = 17
      · rw [if_pos o4, Bool.and_eq_true, Bool.or_eq_true, all_so2, all_so2] at h
        rw [if_pos o4, h.1]
        rcases h.2 with ha | ha
        · rw [(all_so _ _ _).2 ha]
          exact ⟨rfl, fun q hq => .inl (.inl (ha q hq))⟩
        · rw [(all_so _ _ _).2 ha, Bool.or_true]
          exact ⟨rfl, fun q hq => .inl (.inr (ha q hq))⟩
      rw [if_neg o4] at h ⊢
      by_cases o5 : (rd_T56 l p).f0 = 18 ∨ (rd_T56 l p).f0 = 19 ∨ (rd_T56 l p).f0 = 20 ∨ (rd_T56 l p).f0 = 21
      · rw [if_pos o5, Bool.and_eq_true, all_so2] at h
        rw [if_pos o5, h.1, (all_so _ _ _).2 h.2]
        exact ⟨rfl, fun q hq => .inl (.inr (h.2 q hq))⟩
      rw [if_neg o5] at h ⊢
      by_cases o6 : (rd_T56 l p).f0 = 22
      · rw [if_pos o6, Bool.and_eq_true, Bool.and_eq_true, Bool.and_eq_true] at h
        obtain ⟨⟨⟨ha, hb⟩, hc⟩, hd⟩ := h
        have h2 : 2 ≤ (kidsI l p).length := of_decide_eq_true ha
        rw [List.all_eq_true] at hd
        have all2 : ∀ q ∈ kidsI l p, so q = 2 := fun q hq => by
          rcases cons_mem h2 hq with rfl | hq
          · simpa using hc
          · have := hd q hq
            rw [Bool.and_eq_true] at this
            simpa using this.2
        have hany : ((kidsI l p).drop 1).any (fun p => (rd_T56 l p).f0 == 23) = false := by
          rw [Bool.eq_false_iff]
          intro hx
          obtain ⟨q, hq, hx⟩ := List.any_eq_true.1 hx
          have := hd q hq
          rw [Bool.and_eq_true] at this
          have h24 : (rd_T56 l q).f0 = 24 := by simpa using this.1
          have h23 : (rd_T56 l q).f0 = 23 := by simpa using hx
          omega
        rw [if_pos o6, ha, hb, (all_so _ _ _).2 all2, hany]
        exact ⟨rfl, fun q hq => .inl (.inl (all2 q hq))⟩
      · omega
    by_cases hip : i = p
    · subst hip
      exact ⟨by omega, both.1⟩
    · obtain ⟨j, hj, h2, h3⟩ := cover l (rd_T56 l p).f4.toNat (p + 1) (fun j hj => by rw [← hka] at hj; exact (hkg j hj).1) i (by omega) (by rw [hke]; exact h1)
      rw [← hka] at hj
      have hg := hkg j hj
      rcases both.2 j hj with hq | hq
      · have hleaf : (rd_T56 l j).f4 = 0 ∧ ((rd_T56 l j).f0 = 23 ∨ (rd_T56 l j).f0 = 24 ∨ (rd_T56 l j).f0 = 25 ∨ (rd_T56 l j).f0 = 26) := by
          rcases hC j with h | h | h | h <;> omega
        obtain ⟨e1, e2⟩ := leaf_end hg.1 hleaf.1
        have : i = j := by omega
        subst this
        refine ⟨by omega, ?_⟩
        unfold ftI fitsB
        rw [e2, if_pos (by omega)]
        rfl
      · exact cond_good l so hC m j hg.1 hq i h2 h3
theorem bad_iff (so : Int → Int) (ft : Int → Bool) : ∀ (n i : Nat), Conds.badAt so ft n i = false ↔ ∀ k : Nat, i ≤ k → k < i + n → so (k : Int) ≠ 0 ∧ ft (k : Int) = true
  | 0, i => by
    rw [Conds.badAt]
    exact ⟨fun _ k h1 h2 => by omega, fun _ => rfl⟩
  | n + 1, i => by
    rw [Conds.badAt, Bool.or_eq_false_iff, Bool.or_eq_false_iff, bad_iff so ft n (i + 1)]
    constructor
    · rintro ⟨⟨h1, h2⟩, h3⟩ k hk1 hk2
      by_cases hki : k = i
      · subst hki
        exact ⟨by simpa using h1, by simpa using h2⟩
      · exact h3 k (by omega) (by omega)
    · intro h
      have h0 := h i (Nat.le_refl _) (by omega)
      exact ⟨⟨by simpa using h0.1, by simpa using h0.2⟩, fun k h1 h2 => h k (by omega) (by omega)⟩
/-- Both words of a right condition are one. -/
theorem cond_same (l : List ND) (so : Int → Int) (hC : Sorts l so) (hw : endI l 0 = l.length) (h0 : 0 < l.length) (dp : Option Int) :
    Conds.condE true so (ftI l so) l.length dp = if condF l (kidsI l) so l.length 0 then dp else some 130 := by
  have he : endI l 0 ≠ 0 := by omega
  unfold Conds.condE
  cases hc : condF l (kidsI l) so l.length 0 with
  | true =>
    have hg := cond_good l so hC l.length 0 he hc
    have hs : so 0 = 1 := by
      obtain ⟨n, hn⟩ : ∃ n, l.length = n + 1 := ⟨l.length - 1, by omega⟩
      rw [hn, condF, Bool.and_eq_true] at hc
      simpa using hc.1
    have hb : Conds.badAt so (ftI l so) l.length 0 = false := (bad_iff _ _ _ _).2 (fun k h1 h2 => hg k (by omega) (by omega))
    rw [hs, hb]
    rfl
  | false =>
    by_cases hs : so 0 = 1
    · cases hb : Conds.badAt so (ftI l so) l.length 0 with
      | true => rw [hs]; rfl
      | false =>
        have hg := (bad_iff _ _ _ _).1 hb
        have ht := cond_true l so hC (fun i h1 h2 => by
          have := hg i.toNat (by omega) (by omega)
          rw [show ((i.toNat : Nat) : Int) = i by omega] at this
          exact this) l.length 0 (by omega) he hs
        rw [hc] at ht
        cases ht
    · have : (so 0 == 1) = false := by simpa using hs
      rw [this]
      rfl
end Go.Proofs.YtlbjfomcgbiagaaGreatDoor.CondSame
