/- AstCopies, walked on the abstract machine: C9. -/
import Derived.Test.YtoglcipagladmaaGreatDoorAm4
import Derived.Test.YtoglcipagladmaaGreatDoorC8
set_option linter.unusedVariables false
namespace Go.Am
open Go.Proofs Go
set_option linter.unusedSimpArgs false
theorem f38_2 : fieldT Tryz.prog 38 2 = some (2, 9) := by kernel_rfl
theorem f38_3 : fieldT Tryz.prog 38 3 = some (3, 2) := by kernel_rfl

/-- A row that may be written. -/
def WrR (H : AH) (lo hi s : Nat) (v : Value) (n : Nat) : Prop := ∃ xs, Gb H lo hi s v xs ∧ xs.length = n ∧ ∀ x ∈ xs, x.length = s
theorem WrR.mono {H H' : AH} {lo hi s n : Nat} {v : Value} (hx : Agr (fun b => lo ≤ b ∧ b < hi) H H') (h : WrR H lo hi s v n) : WrR H' lo hi s v n :=
  let ⟨xs, h1, h2, h3⟩ := h; ⟨xs, h1.mono hx, h2, h3⟩
theorem WrR.val {H : AH} {lo hi s n : Nat} {v : Value} (h : WrR H lo hi s v n) : ∃ a, v = .slice a n n := by
  obtain ⟨xs, h1, rfl, _⟩ := h; exact h1.val
theorem set_len {xs : List (List Value)} {s t j : Nat} {x : List Value} {u : Value} (h : ∀ y ∈ xs, y.length = s) (hx : x.length = s) : ∀ y ∈ xs.set t (x.set j u), y.length = s := by
  intro y hy
  rcases List.mem_or_eq_of_mem_set hy with h1 | h1
  · exact h y h1
  · rw [h1, List.length_set, hx]
theorem WrR.step {H : AH} {lo hi s n : Nat} {v : Value} (h : WrR H lo hi s v n) (hbase : H.base ≤ lo) {t j : Nat} (ht : t < n) (hj : j < s) {u : Value} (hu : oneCell u = true) :
    ∃ b, v = .slice (some ⟨b, 0, none⟩) n n ∧ ∃ H', H.stores b (t * s + j) [u] = some H' ∧ WrR H' lo hi s v n ∧ ∀ p : Nat → Prop, (∀ b, p b → ¬ (lo ≤ b ∧ b < hi)) → Agr p H H' := by
  obtain ⟨xs, h1, rfl, h3⟩ := h
  have hx : xs[t]? = some (xs[t]'ht) := List.getElem?_eq_getElem ht
  obtain ⟨b, hv, H', h4, _, h5, h6⟩ := h1.set h3 hbase hx hj hu
  exact ⟨b, hv, H', h4, ⟨_, h5, by rw [List.length_set], set_len h3 (h3 _ (List.getElem_mem _))⟩, h6⟩
/-- The items' row: where each one's tree lies is known. -/
def IW (H : AH) (L h0 : Nat) (v : Value) (n : Nat) (tv : Nat → Value) : Prop :=
  ∃ ys, Gb H L h0 4 v ys ∧ ys.length = n ∧ (∀ y ∈ ys, y.length = 4) ∧ ∀ i, i < n → ∃ y, ys[i]? = some y ∧ y[0]? = some (tv i)
theorem IW.mono {H H' : AH} {L h0 n : Nat} {v : Value} {tv : Nat → Value} (hx : Agr (fun b => L ≤ b ∧ b < h0) H H') (h : IW H L h0 v n tv) : IW H' L h0 v n tv :=
  let ⟨ys, h1, h2⟩ := h; ⟨ys, h1.mono hx, h2⟩
theorem IW.val {H : AH} {L h0 n : Nat} {v : Value} {tv : Nat → Value} (h : IW H L h0 v n tv) : ∃ a, v = .slice a n n := by
  obtain ⟨ys, h1, rfl, _⟩ := h; exact h1.val
theorem IW.at {H : AH} {L h0 n : Nat} {v : Value} {tv : Nat → Value} (h : IW H L h0 v n tv) {i : Nat} (hi : i < n) : ∃ b, v = .slice (some ⟨b, 0, none⟩) n n ∧ H.cell b (i * 4) = some (tv i) := by
  obtain ⟨ys, h1, rfl, h3, h4⟩ := h
  obtain ⟨y, k1, k2⟩ := h4 i hi
  obtain ⟨b, k3, _, _, _, _, k4⟩ := h1.at h3 k1
  exact ⟨b, k3, by have := k4 0 (by omega); rw [Nat.add_zero] at this; rw [this, k2]⟩
theorem IW.step {H : AH} {L h0 n : Nat} {v : Value} {tv : Nat → Value} (h : IW H L h0 v n tv) (hbase : H.base ≤ L) {t j : Nat} (ht : t < n) (hj : j < 4) (hj0 : j ≠ 0) {u : Value} (hu : oneCell u = true) :
    ∃ b, v = .slice (some ⟨b, 0, none⟩) n n ∧ ∃ H', H.stores b (t * 4 + j) [u] = some H' ∧ IW H' L h0 v n tv ∧ ∀ p : Nat → Prop, (∀ b, p b → ¬ (L ≤ b ∧ b < h0)) → Agr p H H' := by
  obtain ⟨ys, h1, rfl, h3, h4⟩ := h
  have hx : ys[t]? = some (ys[t]'ht) := List.getElem?_eq_getElem ht
  obtain ⟨b, hv, H', h5, _, h6, h7⟩ := h1.set h3 hbase hx hj hu
  refine ⟨b, hv, H', h5, ⟨_, h6, by rw [List.length_set], set_len h3 (h3 _ (List.getElem_mem _)), fun i hi => ?_⟩, h7⟩
  obtain ⟨y, k1, k2⟩ := h4 i hi
  by_cases e : i = t
  · subst e
    refine ⟨_, List.getElem?_set_self hi, ?_⟩
    rw [hx] at k1
    cases k1
    rw [List.getElem?_set_ne hj0]
    exact k2
  · exact ⟨y, by rw [List.getElem?_set_ne (fun h => e h.symm)]; exact k1, k2⟩

/-- While the copy is written over: what stays. -/
structure Jn (A G : AH) (L M n : Nat) (Q : Qd) (vi vw vg : Value) (tv : Nat → Value) (lo hi : Nat → Nat) (h0 l1 h1 h2 : Nat) : Prop where
  agr : Agr (fun b => b < L ∨ b = M) A G
  its : IW G L h0 vi n tv
  trees : ∀ (i : Nat) (it : List (List Value) × ByteArray × Int × Int), Q.its[i]? = some it → WrR G (lo i) (hi i) 6 (tv i) it.1.length
  wh : WrR G l1 h1 6 vw Q.wh.length
  gr : WrR G h1 h2 2 vg Q.gr.length
/-- the ranges' order -/
structure Rg (L M : Nat) (Q : Qd) (lo hi : Nat → Nat) (h0 l1 h1 h2 : Nat) : Prop where
  a : L ≤ h0
  b : ∀ (i : Nat) (it : List (List Value) × ByteArray × Int × Int), Q.its[i]? = some it → h0 ≤ lo i ∧ hi i ≤ l1 ∧ ∀ k, k < i → hi k ≤ lo i
  c : h0 ≤ l1
  d : l1 ≤ h1
  e : h1 ≤ h2
  f : h2 ≤ M
end Go.Am
