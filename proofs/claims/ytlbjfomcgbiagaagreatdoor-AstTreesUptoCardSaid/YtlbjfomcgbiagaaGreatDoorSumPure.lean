/- The text of a right sum, the text of a right condition: there is one, and it is short. -/
import Derived.Test.YtlbjfomcgbiagaaGreatDoorSumT
import Derived.Test.YtlbjfomcgbiagaaGreatDoorNameEq
import Derived.Test.YtlbjfomcgbiagaaGreatDoorEnds3
import Derived.Lib.ItoaLen
set_option linter.unusedVariables false
set_option linter.unusedSimpArgs false
namespace Go.Proofs.YtlbjfomcgbiagaaGreatDoor.SumPure
open Go Go.RowKit Go.Proofs.YtlbjfomcgbiagaaGreatDoorW.PrintWords Go.Proofs Go.Proofs.YtlbjfomcgbiagaaGreatDoor Go.Proofs.YtlbjfomcgbiagaaGreatDoor.Base Go.Proofs.YtlbjfomcgbiagaaGreatDoor.Print Go.Proofs.YtlbjfomcgbiagaaGreatDoor.CondT Go.Proofs.YtlbjfomcgbiagaaGreatDoor.SumT Go.Proofs.YtlbjfomcgbiagaaGreatDoor.Nodes Go.Proofs.YtlbjfomcgbiagaaGreatDoor.Ends Go.Proofs.YtlbjfomcgbiagaaGreatDoor.WalksPure Go.Proofs.YtlbjfomcgbiagaaGreatDoor.DepthPure

/-- How many bytes a node may have of a text. -/
def wt (n : ND) : Nat := 2 * n.f2.size + 64
def pre (l : List ND) (i : Int) : Nat := ((l.take i.toNat).map wt).sum
theorem rd_getE (l : List ND) (i : Int) (h0 : 0 ≤ i) (h1 : i < l.length) : rd_T56 l i = l[i.toNat]'(by omega) := by
  unfold rd_T56
  rw [List.getD_eq_getElem?_getD, List.getElem?_eq_getElem (by omega)]
  rfl
theorem pre_step (l : List ND) (i : Int) (h0 : 0 ≤ i) (h1 : i < l.length) : pre l (i + 1) = pre l i + wt (rd_T56 l i) := by
  unfold pre
  rw [show (i + 1).toNat = i.toNat + 1 by omega, List.take_add_one, List.getElem?_eq_getElem (by omega), List.map_append, List.sum_append, rd_getE l i h0 h1]
  simp
theorem pre_le (l : List ND) (i : Int) : pre l i ≤ (l.map wt).sum := by
  unfold pre
  conv => rhs; rw [← List.take_append_drop i.toNat l]
  rw [List.map_append, List.sum_append]
  omega
def tot (ks : List ByteArray) : Nat := (ks.map (·.size)).sum
theorem tot_mem {ks : List ByteArray} {t : ByteArray} (h : t ∈ ks) : t.size ≤ tot ks := by
  unfold tot
  induction ks with
  | nil => cases h
  | cons x r ih =>
    rw [List.map_cons, List.sum_cons]
    rcases List.mem_cons.1 h with rfl | h
    · omega
    · have := ih h
      omega
theorem forest (l : List ND) (P : Int → ByteArray → Prop) : ∀ (d : Nat) (p : Int), (∀ j ∈ steps l p d, ∃ s, P j s ∧ s.size + 16 + pre l j ≤ pre l (endI l j)) →
    ∃ ks : List ByteArray, ks.length = d ∧ (∀ (j : Nat) (q : Int) (t : ByteArray), (steps l p d)[j]? = some q → ks[j]? = some t → P q t) ∧ tot ks + 16 * d + pre l p ≤ pre l (after l p d)
  | 0, p, h => ⟨[], rfl, fun j q t hj => by simp [steps] at hj, by simp [tot, after]⟩
  | d + 1, p, h => by
    obtain ⟨s, hs, hz⟩ := h p (by simp [steps])
    obtain ⟨ks, hl, hk, ht⟩ := forest l P d (endI l p) (fun j hj => h j (by simp [steps, hj]))
    refine ⟨s :: ks, by simp [hl], fun j q t hj ht2 => ?_, ?_⟩
    · cases j with
      | zero =>
        simp [steps] at hj ht2
        subst hj; subst ht2
        exact hs
      | succ j => exact hk j q t (by simpa [steps] using hj) (by simpa using ht2)
    · have e : tot (s :: ks) = s.size + tot ks := by simp [tot]
      rw [e, after]
      omega
theorem itoa_at (n : Int) (h0 : -9223372036854775808 ≤ n) (h1 : n ≤ 9223372036854775807) : ∃ s, strconv_FormatInt.f n 10 = some s ∧ s.size ≤ 21 := by
  unfold strconv_FormatInt.f
  rw [if_pos ⟨rfl, h0, h1⟩]
  refine ⟨_, rfl, ?_⟩
  show (Lib.itoa n).toArray.size ≤ 21
  rw [List.size_toArray]
  exact Lib.itoa_length_le n h0 h1
theorem name_at (f : Int) (h0 : 1 ≤ f) (h1 : f ≤ 8) : ∃ g, ast_name.f f = some g ∧ g.size ≤ 6 := by
  rcases SumT.eight h0 h1 with rfl | rfl | rfl | rfl | rfl | rfl | rfl | rfl <;> exact ⟨_, rfl, by decide⟩
theorem sgn_some (o : Int) (h0 : 4 ≤ o) (h1 : o ≤ 8) : ∃ g, ast_sign.f o = some g ∧ g.size ≤ 1 := by
  rcases SumT.eight (show 1 ≤ o by omega) h1 with rfl | rfl | rfl | rfl | rfl | rfl | rfl | rfl <;> first | omega | exact ⟨_, rfl, by decide⟩
theorem sgn_cmp (o : Int) (h0 : 16 ≤ o) (h1 : o ≤ 21) : ∃ g, ast_sign.f o = some g ∧ g.size ≤ 2 := by
  have : o = 16 ∨ o = 17 ∨ o = 18 ∨ o = 19 ∨ o = 20 ∨ o = 21 := by omega
  rcases this with rfl | rfl | rfl | rfl | rfl | rfl <;> exact ⟨_, rfl, by decide⟩
/-- What the list is: short, its numbers in range. -/
structure Small (l : List ND) : Prop where
  len : l.length ≤ 1048576
  fine : ∀ n ∈ l, Fine n
  txt : ∀ n ∈ l, n.f2.size ≤ 1048576
  sum : (l.map wt).sum ≤ 1073741824
theorem Small.rd {l : List ND} (h : Small l) (i : Int) (h0 : 0 ≤ i) (h1 : i < l.length) : rd_T56 l i ∈ l := by
  rw [rd_getE l i h0 h1]
  exact List.getElem_mem _
/-- What an op of a sum's node is, of sumB. -/
theorem sumB_cases {a0 a1 : Int} {a2 : ByteArray} {a3 a4 : Int} {b : Bool} (h : sumB a0 a1 a2 a3 a4 b = true) :
    (a0 = 1 ∧ a4 = 0) ∨ (a0 = 2 ∧ a4 = 0 ∧ 1 ≤ a1 ∧ a1 ≤ 8) ∨ (a0 = 3 ∧ a4 = 1) ∨ ((4 ≤ a0 ∧ a0 ≤ 8) ∧ a4 = 2) := by
  unfold sumB at h
  split at h
  · rename_i e
    simp at h
    exact .inl ⟨e, h.1.2⟩
  · split at h
    · rename_i e
      simp at h
      exact .inr (.inl ⟨e, h.1.1.1.2, h.1.1.2, h.1.2⟩)
    · split at h
      · rename_i e
        simp at h
        exact .inr (.inr (.inl ⟨e, h.2⟩))
      · split at h
        · rename_i e
          simp at h
          exact .inr (.inr (.inr ⟨e, h.2⟩))
        · cases h
theorem steps_zero (l : List ND) (p : Int) : steps l p 0 = [] := rfl
theorem steps_one (l : List ND) (p : Int) : steps l p 1 = [p] := rfl
theorem steps_two (l : List ND) (p : Int) : steps l p 2 = [p, endI l p] := rfl
theorem kids_at {l : List ND} {i : Int} (h : endI l i ≠ 0) : kidsI l i = steps l (i + 1) (rd_T56 l i).f4.toNat := by
  unfold kidsI
  rw [if_neg h]
theorem kids_good {l : List ND} {i : Int} (h : endI l i ≠ 0) : ∀ j ∈ kidsI l i, endI l j ≠ 0 ∧ i < j ∧ j < l.length := by
  intro j hj
  obtain ⟨p0, p1, _⟩ := endI_pos h
  have hf := kids_fine h
  rw [kids_at h] at hj
  have hw := kids_whole l (rd_T56 l i).f4.toNat (i.toNat + 1) (by omega) (by
    have e : ((rd_T56 l i).f4.toNat : Int) = (rd_T56 l i).f4 := by omega
    rw [e]
    intro h2
    have := hf.2.2
    rw [h2] at this
    exact h this.symm) j (by
    have e : ((i.toNat + 1 : Nat) : Int) = i + 1 := by omega
    rw [e]
    exact hj)
  exact ⟨hw.1, by omega, (endI_pos hw.1).2.1⟩
theorem sum_text (l : List ND) (hS : Small l) (K : Nat) (hK : ∀ i : Int, ast_Kids.f K l i = some (kidsI l i)) (wd : ByteArray → Bool) (hB : ∀ i : Int, 0 ≤ i → i < l.length → sumB (rd_T56 l i).f0 (rd_T56 l i).f1 (rd_T56 l i).f2 (rd_T56 l i).f3 (rd_T56 l i).f4 (wd (rd_T56 l i).f2) = true) :
    ∀ (m : Nat) (p : Int), l.length - p ≤ m → endI l p ≠ 0 → ∃ s, ST l p s ∧ s.size + 16 + pre l p ≤ pre l (endI l p)
  | 0, p, hm, he => by
    have := (endI_pos he).2.1
    omega
  | m + 1, p, hm, he => by
    obtain ⟨p0, p1, _⟩ := endI_pos he
    have hf := kids_fine he
    have hke := kids_end he
    have hkg := kids_good he
    have hn := hS.rd p p0 p1
    have hfn := hS.fine _ hn
    have htx := hS.txt _ hn
    have hps := pre_step l p p0 p1
    have hend := pre_le l (endI l p)
    have hsm := hS.sum
    obtain ⟨n, hnn⟩ : ∃ n, rd_T56 l p = n := ⟨_, rfl⟩
    have hb := sumB_cases (hB p p0 p1)
    have hka := kids_at he
    obtain ⟨ks, hl, hk, ht⟩ := forest l (ST l) (rd_T56 l p).f4.toNat (p + 1) (fun j hj => by
      rw [← hka] at hj
      have hg := hkg j hj
      exact sum_text l hS K hK wd hB m j (by omega) hg.1)
    rw [hke] at ht
    rw [← hka] at hk
    rw [hnn] at hf hfn htx hps hb hl ht hka
    have hw : wt n = 2 * n.f2.size + 64 := rfl
    have hkl : ks.length = (kidsI l p).length := by rw [hka, steps_length, hl]
    have hops : ∀ q ∈ kidsI l p, (0 ≤ q ∧ q < l.length) ∧ 1 ≤ (rd_T56 l q).f0 ∧ (rd_T56 l q).f0 ≤ 8 := fun q hq => by
      have hg := hkg q hq
      have hc := sumB_cases (hB q (by omega) hg.2.2)
      refine ⟨⟨by omega, hg.2.2⟩, ?_, ?_⟩ <;> omega
    have mk : ∀ s : ByteArray, s.size + 16 + pre l p ≤ pre l (endI l p) → SBody l n (kidsI l p) ks s → ∃ s, ST l p s ∧ s.size + 16 + pre l p ≤ pre l (endI l p) := fun s hz hbody =>
      ⟨s, .mk p s (kidsI l p) ks p0 p1 K (hK p) hkl hk (by rw [hnn]; exact hbody), hz⟩
    have hks : ∀ t ∈ ks, t.size ≤ 1099511627776 := fun t h => by
      have := tot_mem h
      omega
    rcases hb with ⟨o, o4⟩ | ⟨o, o4, o1, o2⟩ | ⟨o, o4⟩ | ⟨⟨o, o'⟩, o4⟩
    · obtain ⟨s, hs, hz⟩ := itoa_at n.f3 hfn.num.1 hfn.num.2
      refine mk s (by omega) ⟨hks, by omega, hops, .inl ⟨o, hs⟩⟩
    · obtain ⟨q, hq, _, hqz⟩ := Quotes.quote_both n.f2 htx (n.f2.size + 3) (by omega)
      obtain ⟨g, hg, hgz⟩ := name_at n.f1 o1 o2
      have e1 : (⟨#[40]⟩ : ByteArray).size = 1 := rfl
      have e2 : (⟨#[41]⟩ : ByteArray).size = 1 := rfl
      have hz : (g ++ (⟨#[40]⟩ : ByteArray) ++ q ++ (⟨#[41]⟩ : ByteArray)).size = g.size + 1 + q.size + 1 := by simp only [ByteArray.size_append, e1, e2]
      exact mk _ (by omega) ⟨hks, by omega, hops, .inr (.inl ⟨o, _, q, g, hq, hg, by omega, by omega, rfl⟩)⟩
    · rw [o4] at hka hl ht
      obtain ⟨t, rfl⟩ : ∃ t, ks = [t] := by
        match ks, hl with
        | [t], _ => exact ⟨t, rfl⟩
      have hka1 : kidsI l p = [p + 1] := hka
      have hbz := brk_size t ((rd_T56 l (p + 1)).f0 != 2)
      have e1 : (⟨#[45]⟩ : ByteArray).size = 1 := rfl
      have hz : ((⟨#[45]⟩ : ByteArray) ++ brk t ((rd_T56 l (p + 1)).f0 != 2)).size = 1 + (brk t ((rd_T56 l (p + 1)).f0 != 2)).size := by rw [ByteArray.size_append, e1]
      have htt : tot [t] = t.size := by simp [tot]
      have e3 : ((1 : Int).toNat) = 1 := rfl
      rw [htt, e3] at ht
      exact mk _ (by omega) ⟨hks, by omega, hops, .inr (.inr (.inl ⟨o, p + 1, t, hka1, rfl, rfl⟩))⟩
    · rw [o4] at hka hl ht
      obtain ⟨t, u, rfl⟩ : ∃ t u, ks = [t, u] := by
        match ks, hl with
        | [t, u], _ => exact ⟨t, u, rfl⟩
      have hka1 : kidsI l p = [p + 1, endI l (p + 1)] := hka
      obtain ⟨g, hg, hgz⟩ := sgn_some n.f0 o o'
      obtain ⟨T, hT⟩ : ∃ T, brk t (decide (bindS (rd_T56 l (p + 1)).f0 < bindS n.f0)) = T := ⟨_, rfl⟩
      obtain ⟨U, hU⟩ : ∃ U, brk u (decide (bindS (rd_T56 l (endI l (p + 1))).f0 ≤ bindS n.f0)) = U := ⟨_, rfl⟩
      have hTz : T.size ≤ t.size + 2 := by rw [← hT]; exact brk_size _ _
      have hUz : U.size ≤ u.size + 2 := by rw [← hU]; exact brk_size _ _
      have e1 : (⟨#[32]⟩ : ByteArray).size = 1 := rfl
      have hz : (T ++ (⟨#[32]⟩ : ByteArray) ++ g ++ (⟨#[32]⟩ : ByteArray) ++ U).size = T.size + 1 + g.size + 1 + U.size := by simp only [ByteArray.size_append, e1]
      have htt : tot [t, u] = t.size + u.size := by simp [tot]
      have e3 : ((2 : Int).toNat) = 2 := rfl
      rw [htt, e3] at ht
      exact mk (T ++ (⟨#[32]⟩ : ByteArray) ++ g ++ (⟨#[32]⟩ : ByteArray) ++ U) (by omega) ⟨hks, by omega, hops, .inr (.inr (.inr ⟨⟨o, o'⟩, p + 1, endI l (p + 1), t, u, g, hka1, rfl, hg, hgz, by rw [hT, hU]⟩))⟩
end Go.Proofs.YtlbjfomcgbiagaaGreatDoor.SumPure
