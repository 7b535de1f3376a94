/- AstTrees: what the functions tell of a short list, put together. -/
import Derived.Test.YtlbjfomcgbiagaaGreatDoorCondSame
import Derived.Test.YtlbjfomcgbiagaaGreatDoorTreesLaw
set_option linter.unusedVariables false
set_option linter.unusedSimpArgs false
namespace Go.Proofs.YtlbjfomcgbiagaaGreatDoor.TreesPure
open Go Go.RowKit Go.Proofs.YtlbjfomcgbiagaaGreatDoorW.PrintWords Go.Proofs Go.Proofs.YtlbjfomcgbiagaaGreatDoor Go.Proofs.YtlbjfomcgbiagaaGreatDoor.Base Go.Proofs.YtlbjfomcgbiagaaGreatDoor.Print Go.Proofs.YtlbjfomcgbiagaaGreatDoor.CondT Go.Proofs.YtlbjfomcgbiagaaGreatDoor.SumT Go.Proofs.YtlbjfomcgbiagaaGreatDoor.Nodes Go.Proofs.YtlbjfomcgbiagaaGreatDoor.Ends Go.Proofs.YtlbjfomcgbiagaaGreatDoor.WalksPure Go.Proofs.YtlbjfomcgbiagaaGreatDoor.DepthPure Go.Proofs.YtlbjfomcgbiagaaGreatDoor.SumPure Go.Proofs.YtlbjfomcgbiagaaGreatDoor.Fits Go.Proofs.YtlbjfomcgbiagaaGreatDoor.CondW Go.Proofs.YtlbjfomcgbiagaaGreatDoor.CondPure Go.Proofs.YtlbjfomcgbiagaaGreatDoor.CondSame Go.Proofs.YtlbjfomcgbiagaaGreatDoor.SameT Go.Proofs.YtlbjfomcgbiagaaGreatDoor.Conds Go.Proofs.YtlbjfomcgbiagaaGreatDoor.TreesLaw

def wd (s : ByteArray) : Bool := (ast_word.f s).getD false
def td (s : ByteArray) : Bool := ((key_Text.f s).getD none).isNone
theorem wd_f (s : ByteArray) (hs : s.size ≤ 1048576) : ast_word.f s = some (wd s) ∧ ∀ k, s.size + 12 < k → weirref05_IsWord.f k s = some (wd s) := by
  obtain ⟨b, h1, _⟩ := Words.word_f s hs (s.size + 13) (by omega)
  have e : wd s = b := by unfold wd; rw [h1]; rfl
  refine ⟨by rw [e]; exact h1, fun k hk => ?_⟩
  obtain ⟨b2, h3, h4⟩ := Words.word_f s hs k hk
  rw [h1] at h3
  rw [e, Option.some.inj h3]
  exact h4
theorem td_f (s : ByteArray) (hs : s.size ≤ 1048576) : (∃ e : Option Int, key_Text.f s = some e ∧ e.isNone = td s) ∧ ∀ k, s.size + 12 < k → weirref05_IsText.f k s = some (td s) := by
  obtain ⟨b, h1, _⟩ := Words.text_f s hs (s.size + 13) (by omega)
  have e : td s = b.isNone := by unfold td; rw [h1]; rfl
  refine ⟨⟨b, h1, e.symm⟩, fun k hk => ?_⟩
  obtain ⟨b2, h3, h4⟩ := Words.text_f s hs k hk
  rw [h1] at h3
  rw [e, Option.some.inj h3]
  exact h4
def sumN (n : ND) : Bool := sumB n.f0 n.f1 n.f2 n.f3 n.f4 (wd n.f2)
theorem wrong_f : ∀ (l : List ND), (∀ n ∈ l, n.f2.size ≤ 1048576) → ast_Sum.wrong l = some (!l.all sumN)
  | [], _ => rfl
  | n :: l, h => by
    rw [ast_Sum.wrong]
    unfold ast_summed.f
    rw [(wd_f n.f2 (h n (by simp))).1, Option.bind_some, Option.bind_some, wrong_f l (fun m hm => h m (by simp [hm])), List.all_cons]
    cases hb : sumB n.f0 n.f1 n.f2 n.f3 n.f4 (wd n.f2) with
    | true => rw [if_pos rfl, show sumN n = true from hb, Bool.true_and]
    | false => rw [if_neg (by decide), show sumN n = false from hb, Bool.false_and]; rfl
def whB (l : List ND) : Bool := decide ((l.length : Int) > 0 ∧ endI l 0 = l.length)
def dpE (l : List ND) : Option Int := if depthI l > 64 then some 141 else none
def rsOf (l : List ND) : Option Int := if whB l then (if l.all sumN then dpE l else some 130) else some 130
theorem deep_f {l : List ND} {K : Nat} (h : ast_Depth.f K l = some (depthI l)) : ast_deep.f K l = some (dpE l) := by
  unfold ast_deep.f dpE
  rw [h, Option.bind_some]
  split
  · rfl
  · rfl
theorem sum_f {l : List ND} (hS : Small l) {K : Nat} (hK : l.length + 2 ≤ K) (h : ast_Depth.f K l = some (depthI l)) : ast_Sum.f K l = some (rsOf l) := by
  unfold ast_Sum.f rsOf
  rw [whole_f l hS.len K hK, wrong_f l hS.txt, deep_f h]
  simp only [Option.bind_some]
  cases hw : decide ((l.length : Int) > 0 ∧ endI l 0 = l.length) with
  | true =>
    rw [if_pos rfl, show whB l = true from hw, if_pos rfl]
    cases l.all sumN <;> rfl
  | false => rw [if_neg (by decide), show whB l = false from hw, if_neg (by decide)]
theorem istree_f {l : List ND} {K : Nat} (hE : weirtree_End.f K l 0 = some (endI l 0)) : weirtree_IsTree.f K l = some (whB l) := by
  unfold weirtree_IsTree.f whB
  by_cases h : (l.length : Int) > 0
  · rw [if_pos h, hE, Option.bind_some]
    congr 1
    rw [Bool.eq_iff_iff]
    simp
    omega
  · rw [if_neg h, decide_eq_false (fun h2 => h h2.1)]
theorem wsum_l0 {l : List ND} (hS : Small l) (B : Nat) (hB : 1048600 ≤ B) (hT : ∀ k, B ≤ k → weirtree_IsTree.f k l = some (whB l)) : ∀ (n i k : Nat), i + n = l.length → B + n < k → weirtree_Sum.l0 k l (i : Int) = some ((l.drop i).all sumN && whB l)
  | 0, i, k, hi, hk => by
    obtain ⟨k, rfl⟩ : ∃ m, k = m + 1 := ⟨k - 1, by omega⟩
    rw [weirtree_Sum.l0, if_neg (by omega), hT k (by omega), List.drop_eq_nil_of_le (by omega)]
    rfl
  | n + 1, i, k, hi, hk => by
    obtain ⟨k, rfl⟩ : ∃ m, k = m + 1 := ⟨k - 1, by omega⟩
    have hm := hS.rd (i : Int) (by omega) (by omega)
    have htx := hS.txt _ hm
    have hln := hS.len
    rw [weirtree_Sum.l0, if_pos (by omega), if_pos (by omega)]
    unfold weirtree_sum.f
    rw [(wd_f _ htx).2 k (by omega), Option.bind_some, Option.bind_some, List.drop_eq_getElem_cons (by omega), List.all_cons]
    have e : l[i]'(by omega) = rd_T56 l (i : Int) := by rw [rd_getE l i (by omega) (by omega)]; simp
    rw [e]
    cases hb : sumN (rd_T56 l (i : Int)) with
    | true =>
      unfold sumN at hb
      rw [hb, if_pos rfl, Bool.true_and]
      have e2 : wrap64 ((i : Int) + 1) = ((i + 1 : Nat) : Int) := by unfold wrap64; omega
      rw [e2]
      exact wsum_l0 hS B hB hT n (i + 1) k (by omega) (by omega)
    | false =>
      unfold sumN at hb
      rw [hb, if_neg (by decide)]
      rfl
theorem rsum_f {l : List ND} (hS : Small l) {K B : Nat} (hB : 1048600 ≤ B) (hT : ∀ k, B ≤ k → weirtree_IsTree.f k l = some (whB l)) (hD : weirtree_Depth.f K l = some (depthI l)) (hK : B + l.length < K) : weirref13_Sum.f K l = some (codeOf (rsOf l), 0, 0, false, false) := by
  unfold weirref13_Sum.f weirtree_Sum.f
  have h := wsum_l0 hS B hB hT l.length 0 K (by omega) hK
  rw [show ((0 : Nat) : Int) = 0 from rfl, List.drop_zero] at h
  rw [h, hD]
  simp only [Option.bind_some]
  unfold rsOf codeOf dpE
  cases whB l <;> cases l.all sumN
  · rfl
  · rfl
  · rfl
  · by_cases hd : depthI l > 64
    · simp only [Bool.and_self, if_true, if_pos hd]; rfl
    · simp only [Bool.and_self, if_true, if_neg hd]; rfl
theorem same_of {r : Option Int} (hr : r = none ∨ r = some 130 ∨ r = some 141) (W : World) (hG : Globs W) : Calls Tryz.prog 13 #[errW r, badV (codeOf r)] W fun e w' => e = .returned (.bool true) ∧ Below W.heap.size W w' := by
  rcases hr with rfl | rfl | rfl
  · rw [errW_none]
    exact same_none W
  · rw [errW_some]
    exact same_bad 130 (by decide) W hG
  · rw [errW_some]
    exact same_bad 141 (by decide) W hG
theorem dpE_is (l : List ND) : dpE l = none ∨ dpE l = some 130 ∨ dpE l = some 141 := by
  unfold dpE
  split
  · exact .inr (.inr rfl)
  · exact .inl rfl
theorem rs_is (l : List ND) : rsOf l = none ∨ rsOf l = some 130 ∨ rsOf l = some 141 := by
  unfold rsOf
  split
  · split
    · exact dpE_is l
    · exact .inr (.inl rfl)
  · exact .inr (.inl rfl)
def rcOf (l : List ND) : Option Int := condE (whB l) (soI l wd td) (ftI l (soI l wd td)) l.length (dpE l)
theorem rc_is (l : List ND) : rcOf l = none ∨ rcOf l = some 130 ∨ rcOf l = some 141 := by
  unfold rcOf condE
  split
  · split
    · exact .inr (.inl rfl)
    · exact dpE_is l
  · exact .inr (.inl rfl)
theorem nz {r : Option Int} (hr : r = none ∨ r = some 130 ∨ r = some 141) : ∀ x, r = some x → (x == 0) = false := by
  rcases hr with rfl | rfl | rfl <;> intro x hx <;> cases hx <;> rfl
theorem sorts (l : List ND) : Sorts l (soI l wd td) := fun i => sort_cases
theorem wh_end {l : List ND} (h : whB l = true) : 0 < l.length ∧ endI l 0 = l.length := by
  unfold whB at h
  have := of_decide_eq_true h
  omega
theorem timed_any (a0 a1 : Int) (a2 : ByteArray) (a3 a4 : Int) (b d : Bool) : (sortI a0 a1 a2 a3 a4 false false == 3) = (sortI a0 a1 a2 a3 a4 b d == 3) := by
  unfold sortI
  split
  · repeat' split
    all_goals rfl
  · split
    · repeat' split
      all_goals rfl
    · rfl
theorem bare_any (a0 a1 : Int) (a2 : ByteArray) (a3 a4 : Int) (b d : Bool) (o1 : 11 ≤ a0) (o2 : a0 ≤ 22) : (a1 == 0 && (a2.toList.isEmpty && (a3 == 0))) = (sortI a0 a1 a2 a3 a4 b d == 1) := by
  unfold sortI
  rw [if_neg (by omega), if_neg (by omega), if_neg (by omega), if_neg (by omega), if_pos ⟨o1, o2⟩, ← Bool.and_assoc]
  cases (a1 == 0 && a2.toList.isEmpty && a3 == 0) <;> rfl
theorem tells (l : List ND) (hS : Small l) : ∃ s c, Tells l (rsOf l) (rcOf l) s c := by
  have hln := hS.len
  have hx : ∀ i, (rd_T56 l i).f4 ≤ 9223372036854775807 := rd_fine (fun n hn => ⟨hS.fine n hn, by have := hS.txt n hn; unfold maxLen; omega⟩)
  obtain ⟨K0, hK0⟩ := DepthPure.law l hS.len hx
  obtain ⟨B, hBe⟩ : ∃ B, B = K0 + 1048600 := ⟨_, rfl⟩
  obtain ⟨K, hKe⟩ : ∃ K, K = B + 3 * l.length + 1048700 := ⟨_, rfl⟩
  obtain ⟨hKids, hDa, hDw⟩ := hK0 K (by omega)
  have hTree : ∀ k, B ≤ k → weirtree_IsTree.f k l = some (whB l) := fun k hk => istree_f (((hK0 k (by omega)).1 0).2.2.2)
  have hAK : ∀ i : Int, ast_Kids.f K l i = some (kidsI l i) := fun i => (hKids i).1
  have kidsGen : ∀ a places, (∃ K, ast_Kids.f K l a = some places) → places = kidsI l a := fun a places ⟨K1, h1⟩ => by
    have h2 := Quotes.up (fun k => ast_Kids.mono l a k) h1 (K1 + K) (by omega)
    have h3 := Quotes.up (fun k => ast_Kids.mono l a k) (hAK a) (K1 + K) (by omega)
    rw [h2] at h3
    exact Option.some.inj h3
  -- the texts
  have hST : ∃ s, rsOf l = none → ST l 0 s := by
    by_cases h : rsOf l = none
    · have hh := h
      unfold rsOf at hh
      cases hw : whB l with
      | false => rw [hw] at hh; cases hh
      | true =>
        rw [hw, if_pos rfl] at hh
        cases ha : l.all sumN with
        | false => rw [ha] at hh; cases hh
        | true =>
          have he := wh_end hw
          rw [List.all_eq_true] at ha
          obtain ⟨s, hs, _⟩ := sum_text l hS K hAK wd (fun i h0 h1 => ha _ (hS.rd i h0 h1)) l.length 0 (by omega) (by omega)
          exact ⟨s, fun _ => hs⟩
    · exact ⟨⟨#[]⟩, fun h2 => absurd h2 h⟩
  have good : rcOf l = none → (0 < l.length ∧ endI l 0 = l.length) ∧ ∀ i : Int, 0 ≤ i → i < l.length → soI l wd td i ≠ 0 ∧ ftI l (soI l wd td) i = true := fun h => by
    unfold rcOf condE at h
    cases hw : whB l with
    | false => rw [hw] at h; cases h
    | true =>
      rw [hw] at h
      split at h
      · split at h
        · cases h
        · rename_i hb
          have hb2 := (bad_iff _ _ _ _).1 (Bool.eq_false_iff.2 hb)
          refine ⟨wh_end hw, fun i h0 h1 => ?_⟩
          have := hb2 i.toNat (by omega) (by omega)
          rw [show ((i.toNat : Nat) : Int) = i by omega] at this
          exact this
      · cases h
  have hCT : ∃ c, rcOf l = none → CT l 0 c := by
    by_cases h : rcOf l = none
    · have hg := good h
      obtain ⟨c, hc, _⟩ := cond_text l hS K hAK (soI l wd td) (fun i h0 h1 => (hg.2 i h0 h1).2) l.length 0 (by omega) (by omega)
      exact ⟨c, fun _ => hc⟩
    · exact ⟨⟨#[]⟩, fun h2 => absurd h2 h⟩
  obtain ⟨s, hs⟩ := hST
  obtain ⟨c, hc⟩ := hCT
  have cSum := fun (A : Option Addr) (k : Nat) (W : World) (hr : Kd.C k56 W A l.length l) (hk : l.length ≤ k) (hG : Globs W) => ast_Sum.calls K A k l (rsOf l) W hr hk hG (sum_f hS (by omega) hDa)
  have cRSum := fun (A : Option Addr) (k : Nat) (W : World) (hr : Kd.C k56 W A l.length l) (hk : l.length ≤ k) => weirref13_Sum.calls K A k l (codeOf (rsOf l)) 0 0 false false W hr hk (rsum_f hS (by omega) hTree hDw (by omega))
  have hWord := fun (p : Int) (h0 : 0 ≤ p) (h1 : p < l.length) => wd_f _ (hS.txt _ (hS.rd p h0 h1))
  have hText := fun (p : Int) (h0 : 0 ≤ p) (h1 : p < l.length) => td_f _ (hS.txt _ (hS.rd p h0 h1))
  have hSort : ∀ p : Int, 0 ≤ p → p < l.length → ast_sortOf.f (rd_T56 l p).f0 (rd_T56 l p).f1 (rd_T56 l p).f2 (rd_T56 l p).f3 (rd_T56 l p).f4 (rd_T56 l p).f5 = some (soI l wd td p) := fun p h0 h1 => by
    unfold ast_sortOf.f soI
    obtain ⟨e, he, hn⟩ := (hText p h0 h1).1
    rw [(hWord p h0 h1).1, he, Option.bind_some, Option.bind_some, hn]
  have kidsIn : ∀ (p q : Int), q ∈ kidsI l p → p < q ∧ q < l.length ∧ 0 ≤ q := fun p q hq => by
    by_cases he : endI l p = 0
    · unfold kidsI at hq
      rw [if_pos he] at hq
      cases hq
    · have := kids_good he q hq
      have := (endI_pos he).1
      omega
  have cCond := fun (A : Option Addr) (k : Nat) (W : World) (hr : Kd.C k56 W A l.length l) (hk : l.length ≤ k) (hG : Globs W) =>
    show Calls Tryz.prog 16 #[.slice A l.length k] W fun e w' => e = .returned (errW (rcOf l)) ∧ Below W.heap.size W w' from
    ast_condE A k l hk (whB l) (soI l wd td) (ftI l (soI l wd td)) (dpE l) W hr (fun h => (wh_end h).1)
      ((ast_whole.calls K A k l (whB l) W hr hk (whole_f l hS.len K (by omega))).mono (fun e w' h => ⟨h.1, h.2.below⟩))
      (fun p h0 h1 W' hW' => ast_sortOf.calls _ _ _ _ _ _ (soI l wd td p) W' (hG.below hW') (hSort p h0 h1))
      (fun p h0 h1 W' hW' => fits_any A k l hk W' (Kd.C_below hr hW') (hG.below hW') p h0 h1 K (kidsI l p) (hAK p) (by have := kids_len l p; omega) (soI l wd td) (fun q hq => by
        have h2 := kidsIn p q hq
        exact ⟨by omega, hSort q (by omega) (by omega)⟩))
      (fun W' hW' => ast_deep.calls K A k l (dpE l) W' (Kd.C_below hr hW') hk (deep_f hDa))
  have cTree := fun (A : Option Addr) (k : Nat) (W : World) (hr : Kd.C k56 W A l.length l) (hk : l.length ≤ k) =>
    tree_cond A k l (whB l) (condF l (kidsI l) (soI l wd td) l.length 0) W ((weirtree_IsTree.calls K A k l (whB l) W hr hk (hTree K (by omega))).mono (fun e w' h => ⟨h.1, h.2.below⟩))
      (fun hw W' hW' => CondW.cond_any A k l hk W hr K (kidsI l) (soI l wd td)
        (fun a h0 h1 => ⟨(hKids a).2.1, by have := kids_len l a; omega, fun p hp => ⟨(kidsIn a p hp).1, (kidsIn a p hp).2.1⟩⟩)
        (fun p h0 h1 => by
          have hb := sort_cases (a0 := (rd_T56 l p).f0) (a1 := (rd_T56 l p).f1) (a2 := (rd_T56 l p).f2) (a3 := (rd_T56 l p).f3) (a4 := (rd_T56 l p).f4) (b := wd (rd_T56 l p).f2) (d := td (rd_T56 l p).f2)
          have htx := hS.txt _ (hS.rd p h0 h1)
          refine ⟨?_, ?_⟩
          · unfold weirtree_worded.f soI
            rw [(hWord p h0 h1).2 K (by omega), (hText p h0 h1).2 K (by omega)]
            rfl
          · unfold weirtree_timed.f soI
            congr 1
            exact timed_any _ _ _ _ _ _ _)
        (fun p h0 h1 o1 o2 => by
          unfold soI
          exact bare_any _ _ _ _ _ _ _ o1 o2)
        l.length 0 (by omega) (by have := (wh_end hw).1; omega) (by omega) W' hW')
  have cRCond := fun (A : Option Addr) (k : Nat) (W : World) (hr : Kd.C k56 W A l.length l) (hk : l.length ≤ k) =>
    ref_condE A k l (whB l && condF l (kidsI l) (soI l wd td) l.length 0) (depthI l) W (fun W' hW' => cTree A k W' (Kd.C_below hr hW') hk) (fun W' hW' => weirtree_Depth.calls K A k l (depthI l) W' (Kd.C_below hr hW') hk hDw)
  have hCode : (if (whB l && condF l (kidsI l) (soI l wd td) l.length 0) then (if decide (depthI l > 64) then (141 : Int) else 0) else 130) = codeOf (rcOf l) := by
    unfold rcOf
    cases hw : whB l with
    | false => rfl
    | true =>
      have he := wh_end hw
      rw [cond_same l _ (sorts l) he.2 he.1, Bool.true_and]
      cases condF l (kidsI l) (soI l wd td) l.length 0 with
      | false => rfl
      | true =>
        unfold dpE
        by_cases hd : depthI l > 64
        · rw [decide_eq_true hd, if_pos hd]; rfl
        · rw [decide_eq_false hd, if_neg hd]; rfl
  rw [hCode] at cRCond
  have hKK : ∀ a places, (∃ K, ast_Kids.f K l a = some places) → ∃ K, weirtree_Kids.f K l a = some places := fun a places h => ⟨K, by rw [kidsGen a places h]; exact (hKids a).2.1⟩
  refine ⟨s, c, ?_⟩
  exact {
    sum := cSum
    psum := fun A k W hr hk hG => print_sum A k l (rsOf l) s W (cSum A k W hr hk hG) (fun h W' hW' => sum_any A k l hk W hr hG 0 s (hs h) W' hW')
    rsum := fun A k W hr hk hG => cRSum A k W hr hk
    rpsum := fun A k W hr hk hG => ref_sum A k l (rsOf l) (nz (rs_is l)) s W (fun W' hW' => cRSum A k W' (Kd.C_below hr hW') hk) (fun h W' hW' => sum_ref A k l hk W hr hG hKK Quotes.quote_gen 0 s (hs h) W' hW')
    cond := cCond
    pcond := fun A k W hr hk hG => print_cond A k l (rcOf l) c W (cCond A k W hr hk hG) (fun h W' hW' => CondT.cond_any A k l hk W hr hG 0 c (hc h) W' hW')
    rcond := fun A k W hr hk hG => cRCond A k W hr hk
    rpcond := fun A k W hr hk hG => ref_cond A k l (rcOf l) (nz (rc_is l)) c W (fun W' hW' => cRCond A k W' (Kd.C_below hr hW') hk) (fun h W' hW' => CondR.cond_ref A k l hk W hr hG hKK Quotes.quote_gen Quotes.text_gen
      (fun a places p hp hpm _ => by
        rw [kidsGen a places hp] at hpm
        have h2 := kidsIn a p hpm
        have hgp := ((good h).2 p (by omega) (by omega)).1
        rcases sorts l p with h3 | h3 | h3 | h3 <;> omega) 0 c (hc h) W' hW')
    same1 := same_of (rs_is l)
    same2 := same_of (rc_is l) }
end Go.Proofs.YtlbjfomcgbiagaaGreatDoor.TreesPure
