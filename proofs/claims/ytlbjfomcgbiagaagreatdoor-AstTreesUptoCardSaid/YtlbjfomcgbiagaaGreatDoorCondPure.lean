/- The text of a right condition; both packages' words of a right condition are one. -/
import Derived.Test.YtlbjfomcgbiagaaGreatDoorSumPure
import Derived.Test.YtlbjfomcgbiagaaGreatDoorFits
import Derived.Test.YtlbjfomcgbiagaaGreatDoorCondW
set_option linter.unusedVariables false
set_option linter.unusedSimpArgs false
namespace Go.Proofs.YtlbjfomcgbiagaaGreatDoor.CondPure
open Go Go.RowKit Go.Proofs.YtlbjfomcgbiagaaGreatDoorW.PrintWords Go.Proofs Go.Proofs.YtlbjfomcgbiagaaGreatDoor Go.Proofs.YtlbjfomcgbiagaaGreatDoor.Base Go.Proofs.YtlbjfomcgbiagaaGreatDoor.Print Go.Proofs.YtlbjfomcgbiagaaGreatDoor.CondT Go.Proofs.YtlbjfomcgbiagaaGreatDoor.SumT Go.Proofs.YtlbjfomcgbiagaaGreatDoor.Nodes Go.Proofs.YtlbjfomcgbiagaaGreatDoor.Ends Go.Proofs.YtlbjfomcgbiagaaGreatDoor.WalksPure Go.Proofs.YtlbjfomcgbiagaaGreatDoor.DepthPure Go.Proofs.YtlbjfomcgbiagaaGreatDoor.SumPure Go.Proofs.YtlbjfomcgbiagaaGreatDoor.Fits Go.Proofs.YtlbjfomcgbiagaaGreatDoor.CondW

/-- What a place is, by itself. -/
def soI (l : List ND) (wd td : ByteArray → Bool) (i : Int) : Int := sortI (rd_T56 l i).f0 (rd_T56 l i).f1 (rd_T56 l i).f2 (rd_T56 l i).f3 (rd_T56 l i).f4 (wd (rd_T56 l i).f2) (td (rd_T56 l i).f2)
def ftI (l : List ND) (so : Int → Int) (i : Int) : Bool := fitsB (rd_T56 l i).f0 ((kidsI l i).map so) (((kidsI l i).drop 1).any fun p => (rd_T56 l p).f0 == 23)
theorem sort_cases {a0 a1 : Int} {a2 : ByteArray} {a3 a4 : Int} {b d : Bool} : (sortI a0 a1 a2 a3 a4 b d = 0) ∨ (sortI a0 a1 a2 a3 a4 b d = 1 ∧ 11 ≤ a0 ∧ a0 ≤ 22) ∨ (sortI a0 a1 a2 a3 a4 b d = 2 ∧ (a0 = 23 ∨ a0 = 24) ∧ a4 = 0) ∨ (sortI a0 a1 a2 a3 a4 b d = 3 ∧ (a0 = 25 ∨ a0 = 26) ∧ a4 = 0) := by
  unfold sortI
  split
  · rename_i e
    split
    · rename_i h
      simp at h
      exact .inr (.inr (.inl ⟨rfl, .inl e, h.1.1⟩))
    · exact .inl rfl
  split
  · rename_i e
    split
    · rename_i h
      simp at h
      exact .inr (.inr (.inl ⟨rfl, .inr e, h.1.1⟩))
    · exact .inl rfl
  split
  · rename_i e
    split
    · rename_i h
      simp at h
      exact .inr (.inr (.inr ⟨rfl, .inl e, h.1.1⟩))
    · exact .inl rfl
  split
  · rename_i e
    split
    · rename_i h
      simp at h
      exact .inr (.inr (.inr ⟨rfl, .inr e, h.1.1⟩))
    · exact .inl rfl
  split
  · rename_i e
    split
    · exact .inr (.inl ⟨rfl, e.1, e.2⟩)
    · exact .inl rfl
  · exact .inl rfl
theorem lens_sum : ∀ L : List (List UInt8), Lib.lens L = (L.map (·.length)).sum
  | [] => rfl
  | x :: r => by
    have ih := lens_sum r
    simp [Lib.lens] at ih ⊢
    try omega
theorem join_le (g : List UInt8) : ∀ L : List (List UInt8), (Lib.join L g).length ≤ (L.map (·.length)).sum + g.length * L.length
  | [] => by simp [Lib.join]
  | x :: r => by
    rw [Lib.join_length, lens_sum, List.length_cons, Nat.mul_add]
    omega
theorem zip_le (f : Int → ByteArray → ByteArray) (hf : ∀ p t, (f p t).size ≤ t.size + 2) : ∀ (ps : List Int) (ks : List ByteArray), (((List.zipWith f ps ks).map (·.data.toList)).map (·.length)).sum ≤ tot ks + 2 * ks.length
  | [], ks => by simp
  | _ :: _, [] => by simp [tot]
  | p :: ps, t :: ks => by
    have ih := zip_le f hf ps ks
    have h := hf p t
    have e : tot (t :: ks) = t.size + tot ks := by simp [tot]
    have e2 : (f p t).data.toList.length = (f p t).size := Array.length_toList
    simp only [List.zipWith_cons_cons, List.map_cons, List.sum_cons, List.length_cons] at ih ⊢
    rw [e, e2]
    omega
theorem map_tot (ks : List ByteArray) : ((ks.map (·.data.toList)).map (·.length)).sum = tot ks := by
  unfold tot
  rw [List.map_map]
  congr 1
theorem text_at (s : ByteArray) (hs : s.size ≤ 1048576) : ∃ r, lex_inQuotes.f s ⟨#[39]⟩ = some r ∧ r.size ≤ 2 * s.size + 2 := by
  unfold lex_inQuotes.f
  rw [if_pos (by omega), if_neg (by decide), if_pos rfl]
  refine ⟨_, rfl, ?_⟩
  show (Rep.inQ 39 s.data.toList).toArray.size ≤ _
  have h1 := Rep.esc_length 39 s.data.toList
  have h2 := Quotes.cnt_le 39 s.data.toList
  have h3 : s.data.toList.length = s.size := Array.length_toList
  rw [List.size_toArray, Rep.inQ, List.length_cons, List.length_append, h1, List.length_singleton]
  omega
/-- What the kids' number is, of fitsB. -/
theorem fits_cases {op : Int} {ss : List Int} {tg : Bool} (h : fitsB op ss tg = true) :
    ((op = 11 ∨ op = 12 ∨ op = 23 ∨ op = 24 ∨ op = 25 ∨ op = 26) ∧ ss.length = 0) ∨ (op = 13 ∧ ss.length = 1 ∧ ss.all (· == 1) = true) ∨ ((op = 14 ∨ op = 15) ∧ 2 ≤ ss.length ∧ ss.all (· == 1) = true) ∨
    ((op = 16 ∨ op = 17) ∧ ss.length = 2 ∧ (ss.all (· == 2) || ss.all (· == 3)) = true) ∨ ((op = 18 ∨ op = 19 ∨ op = 20 ∨ op = 21) ∧ ss.length = 2 ∧ ss.all (· == 3) = true) ∨ (op = 22 ∧ 2 ≤ ss.length ∧ ss.length ≤ 65 ∧ ss.all (· == 2) = true ∧ tg = false) := by
  unfold fitsB at h
  split at h
  · rename_i e
    exact .inl ⟨e, by simpa using h⟩
  split at h
  · rename_i e
    rw [Bool.and_eq_true] at h
    exact .inr (.inl ⟨e, by simpa using h.1, h.2⟩)
  split at h
  · rename_i e
    rw [Bool.and_eq_true] at h
    exact .inr (.inr (.inl ⟨e, by simpa using h.1, h.2⟩))
  split at h
  · rename_i e
    rw [Bool.and_eq_true] at h
    exact .inr (.inr (.inr (.inl ⟨e, by simpa using h.1, h.2⟩)))
  split at h
  · rename_i e
    rw [Bool.and_eq_true] at h
    exact .inr (.inr (.inr (.inr (.inl ⟨e, by simpa using h.1, h.2⟩))))
  split at h
  · rename_i e
    rw [Bool.and_eq_true, Bool.and_eq_true, Bool.and_eq_true] at h
    exact .inr (.inr (.inr (.inr (.inr ⟨e, by simpa using h.1.1.1, by simpa using h.1.1.2, h.1.2, by simpa using h.2⟩))))
  · cases h
theorem cond_text (l : List ND) (hS : Small l) (K : Nat) (hK : ∀ i : Int, ast_Kids.f K l i = some (kidsI l i)) (so : Int → Int) (hF : ∀ i : Int, 0 ≤ i → i < l.length → ftI l so i = true) :
    ∀ (m : Nat) (p : Int), l.length - p ≤ m → endI l p ≠ 0 → ∃ s, CT l p s ∧ s.size + 16 + pre l p ≤ pre l (endI l p)
  | 0, p, hm, he => by
    have := (endI_pos he).2.1
    omega
  | m + 1, p, hm, he => by
    obtain ⟨p0, p1, _⟩ := endI_pos he
    have hf := kids_fine he
    have hke := kids_end he
    have hkg := kids_good he
    have hn := hS.rd p p0 p1
    have hfn := hS.fine _ hn
    have htx := hS.txt _ hn
    have hps := pre_step l p p0 p1
    have hend := pre_le l (endI l p)
    have hsm := hS.sum
    have hln := hS.len
    have hkm := kids_len l p
    obtain ⟨n, hnn⟩ : ∃ n, rd_T56 l p = n := ⟨_, rfl⟩
    have hb := fits_cases (hF p p0 p1)
    rw [List.length_map] at hb
    have hka := kids_at he
    obtain ⟨ks, hl, hk, ht⟩ := forest l (CT l) (rd_T56 l p).f4.toNat (p + 1) (fun j hj => by
      rw [← hka] at hj
      have hg := hkg j hj
      exact cond_text l hS K hK so hF m j (by omega) hg.1)
    have hkl : ks.length = (kidsI l p).length := by rw [hka, steps_length, hl]
    rw [hke] at ht
    rw [← hka] at hk
    rw [← hl] at ht
    have hw : wt n = 2 * n.f2.size + 64 := rfl
    rw [hnn] at hfn htx hps hb
    rw [hw] at hps
    clear hl hka hke hf
    obtain ⟨places, hpp⟩ : ∃ places, kidsI l p = places := ⟨_, rfl⟩
    rw [hpp] at hkl hk hkg hb hkm
    have mk : ∀ s : ByteArray, s.size + 16 + pre l p ≤ pre l (endI l p) → (s.size ≤ 1099511627776 → Body l p places ks s) → ∃ s, CT l p s ∧ s.size + 16 + pre l p ≤ pre l (endI l p) := fun s hz hbody =>
      ⟨s, .mk p s places ks p0 p1 K (by rw [hK p, hpp]) hkl hk (hbody (by omega)), hz⟩
    have hks : ∀ t ∈ ks, t.size ≤ 1099511627776 := fun t h => by
      have := tot_mem h
      omega
    have body : ∀ s : ByteArray, s.size ≤ 1099511627776 → _ → Body l p places ks s := fun s hz h => ⟨by omega, hks, hz, fun q hq => ⟨by have := hkg q hq; omega, (hkg q hq).2.2⟩, h⟩
    rw [hnn] at body
    rcases hb with ⟨o, h0⟩ | ⟨o, h1, _⟩ | ⟨o, h1, _⟩ | ⟨o, h1, _⟩ | ⟨o, h1, _⟩ | ⟨o, h1, h2, _⟩
    · rcases o with o | o | o | o | o | o
      · exact mk ⟨#[84, 82, 85, 69]⟩ (by have e : (⟨#[84, 82, 85, 69]⟩ : ByteArray).size = 4 := rfl; omega) (fun hz => body _ hz (.inl ⟨o, rfl⟩))
      · exact mk ⟨#[70, 65, 76, 83, 69]⟩ (by have e : (⟨#[70, 65, 76, 83, 69]⟩ : ByteArray).size = 5 := rfl; omega) (fun hz => body _ hz (.inr (.inl ⟨o, rfl⟩)))
      · obtain ⟨q, hq, _, hqz⟩ := Quotes.quote_both n.f2 htx (n.f2.size + 3) (by omega)
        exact mk q (by omega) (fun hz => body _ hz (.inr (.inr (.inl ⟨o, _, hq⟩))))
      · obtain ⟨q, hq, hqz⟩ := text_at n.f2 htx
        exact mk q (by omega) (fun hz => body _ hz (.inr (.inr (.inr (.inl ⟨o, hq⟩)))))
      · exact mk ⟨#[116, 105, 109, 101]⟩ (by have e : (⟨#[116, 105, 109, 101]⟩ : ByteArray).size = 4 := rfl; omega) (fun hz => body _ hz (.inr (.inr (.inr (.inr (.inl ⟨o, rfl⟩))))))
      · obtain ⟨s, hs, hz⟩ := itoa_at n.f3 hfn.num.1 hfn.num.2
        exact mk s (by omega) (fun hz => body _ hz (.inr (.inr (.inr (.inr (.inr (.inl ⟨o, hs⟩)))))))
    · obtain ⟨q, hq⟩ : ∃ q, places = [q] := by
        match places, h1 with
        | [q], _ => exact ⟨q, rfl⟩
      obtain ⟨t, htk⟩ : ∃ t, ks = [t] := by
        rw [hq] at hkl
        match ks, hkl with
        | [t], _ => exact ⟨t, rfl⟩
      have hbz := brk_size t (rowOp (rd_T56 l q).f0)
      have e1 : (⟨#[78, 79, 84, 32]⟩ : ByteArray).size = 4 := rfl
      have hz2 : ((⟨#[78, 79, 84, 32]⟩ : ByteArray) ++ brk t (rowOp (rd_T56 l q).f0)).size = 4 + (brk t (rowOp (rd_T56 l q).f0)).size := by rw [ByteArray.size_append, e1]
      have htt : tot ks = t.size := by rw [htk]; simp [tot]
      exact mk ((⟨#[78, 79, 84, 32]⟩ : ByteArray) ++ brk t (rowOp (rd_T56 l q).f0)) (by omega) (fun hz => body _ hz (.inr (.inr (.inr (.inr (.inr (.inr (.inl ⟨o, q, t, hq, htk, rfl⟩))))))))
    · have hne : ks ≠ [] := fun e => by rw [e] at hkl; simp at hkl; omega
      rcases o with o | o
      · have hj := join_le [32, 65, 78, 68, 32] ((List.zipWith (fun (p : Int) (t : ByteArray) => brk t (rowOp (rd_T56 l p).f0)) places ks).map (·.data.toList))
        have hzl := zip_le (fun (p : Int) (t : ByteArray) => brk t (rowOp (rd_T56 l p).f0)) (fun p t => brk_size _ _) places ks
        rw [List.length_map, List.length_zipWith, hkl, Nat.min_self] at hj
        have e5 : ([32, 65, 78, 68, 32] : List UInt8).length = 5 := rfl
        rw [e5] at hj
        rw [hkl] at hzl
        exact mk ⟨(Lib.join ((List.zipWith (fun (p : Int) (t : ByteArray) => brk t (rowOp (rd_T56 l p).f0)) places ks).map (·.data.toList)) [32, 65, 78, 68, 32]).toArray⟩ (by
          show (Lib.join _ _).toArray.size + _ + _ ≤ _
          rw [List.size_toArray]
          omega) (fun hz => body _ hz (.inr (.inr (.inr (.inr (.inr (.inr (.inr (.inr (.inl ⟨o, hne, rfl⟩))))))))))
      · have hj := join_le [32, 79, 82, 32] ((List.zipWith (fun (p : Int) (t : ByteArray) => brk t ((rd_T56 l p).f0 == 15)) places ks).map (·.data.toList))
        have hzl := zip_le (fun (p : Int) (t : ByteArray) => brk t ((rd_T56 l p).f0 == 15)) (fun p t => brk_size _ _) places ks
        rw [List.length_map, List.length_zipWith, hkl, Nat.min_self] at hj
        have e5 : ([32, 79, 82, 32] : List UInt8).length = 4 := rfl
        rw [e5] at hj
        rw [hkl] at hzl
        exact mk ⟨(Lib.join ((List.zipWith (fun (p : Int) (t : ByteArray) => brk t ((rd_T56 l p).f0 == 15)) places ks).map (·.data.toList)) [32, 79, 82, 32]).toArray⟩ (by
          show (Lib.join _ _).toArray.size + _ + _ ≤ _
          rw [List.size_toArray]
          omega) (fun hz => body _ hz (.inr (.inr (.inr (.inr (.inr (.inr (.inr (.inr (.inr (.inl ⟨o, hne, rfl⟩)))))))))))
    all_goals try
      obtain ⟨t, u, htk⟩ : ∃ t u, ks = [t, u] := by
        rw [h1] at hkl
        match ks, hkl with
        | [t, u], _ => exact ⟨t, u, rfl⟩
      obtain ⟨g, hg, hgz⟩ := sgn_cmp n.f0 (by omega) (by omega)
      have e1 : (⟨#[32]⟩ : ByteArray).size = 1 := rfl
      have hz2 : (t ++ (⟨#[32]⟩ : ByteArray) ++ g ++ (⟨#[32]⟩ : ByteArray) ++ u).size = t.size + 1 + g.size + 1 + u.size := by simp only [ByteArray.size_append, e1]
      have htt : tot ks = t.size + u.size := by rw [htk]; simp [tot]
      exact mk (t ++ (⟨#[32]⟩ : ByteArray) ++ g ++ (⟨#[32]⟩ : ByteArray) ++ u) (by omega) (fun hz => body _ hz (.inr (.inr (.inr (.inr (.inr (.inr (.inr (.inr (.inr (.inr ⟨by omega, t, u, htk, g, hg, rfl⟩)))))))))))
    · obtain ⟨t, r, htk, hrn⟩ : ∃ t r, ks = t :: r ∧ r ≠ [] := by
        match ks, hkl with
        | [], hkl => simp at hkl; omega
        | [t], hkl => simp at hkl; omega
        | t :: u :: r, _ => exact ⟨t, u :: r, rfl, by simp⟩
      have hj := join_le [44, 32] (r.map (·.data.toList))
      rw [map_tot, List.length_map] at hj
      have htt : tot ks = t.size + tot r := by rw [htk]; simp [tot]
      have hrl : ks.length = r.length + 1 := by rw [htk]; rfl
      have e2 : ([44, 32] : List UInt8).length = 2 := rfl
      have e5 : (⟨#[32, 73, 78, 32, 40]⟩ : ByteArray).size = 5 := rfl
      have e1 : (⟨#[41]⟩ : ByteArray).size = 1 := rfl
      rw [e2] at hj
      obtain ⟨J, hJ⟩ : ∃ J : ByteArray, J = ⟨(Lib.join (r.map (·.data.toList)) [44, 32]).toArray⟩ := ⟨_, rfl⟩
      have hJz : J.size = (Lib.join (r.map (·.data.toList)) [44, 32]).length := by rw [hJ]; exact List.size_toArray
      have hz2 : (t ++ (⟨#[32, 73, 78, 32, 40]⟩ : ByteArray) ++ J ++ (⟨#[41]⟩ : ByteArray)).size = t.size + 5 + J.size + 1 := by simp only [ByteArray.size_append, e5, e1]
      exact mk (t ++ (⟨#[32, 73, 78, 32, 40]⟩ : ByteArray) ++ J ++ (⟨#[41]⟩ : ByteArray)) (by omega) (fun hz => body _ hz (.inr (.inr (.inr (.inr (.inr (.inr (.inr (.inl ⟨o, t, r, hrn, htk, by rw [hJ]⟩)))))))))
end Go.Proofs.YtlbjfomcgbiagaaGreatDoor.CondPure
