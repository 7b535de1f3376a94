/- Plain law of AstWalks, second half: Depth of both packages. -/
import Derived.Test.YtabhhfpfdndidaaGreatDoorPrint5
import Derived.Test.YtabhhfpfdndidaaGreatDoorPrint15
import Derived.Test.YtabhhfpfdndidaaGreatDoorWalksPure
namespace Go.Proofs.YtabhhfpfdndidaaGreatDoor.DepthPure
open Go.RowKit Go.Proofs.YtabhhfpfdndidaaGreatDoorW.PrintWords Go.Proofs.YtabhhfpfdndidaaGreatDoorW.PrintMore Go.Proofs.YtabhhfpfdndidaaGreatDoor.Print Go.Proofs.YtabhhfpfdndidaaGreatDoor.Nodes Go.Proofs.YtabhhfpfdndidaaGreatDoor.Ends Go.Proofs.YtabhhfpfdndidaaGreatDoor.WalksPure
/-- What stands of the levels (the deepest first) behind a node. -/
def next : List Int → List Int
  | [] => []
  | c :: S => if c = 0 then next S else (c - 1) :: S
theorem next_length : ∀ st : List Int, (next st).length ≤ st.length
  | [] => Nat.le_refl _
  | c :: S => by
    unfold next
    split
    · have := next_length S
      simp only [List.length_cons]; omega
    · simp
theorem l1_next (l : List S35) (n deep i r : Int) (B : Nat) : ∀ (st : List Int), (∀ x ∈ st, 0 ≤ x ∧ x ≤ 1048576) → st.length ≤ 1048577 → (∀ k, B ≤ k → ast_Depth.l0 k deep (next st).reverse l n (wrap64 (i + 1)) = some r) →
    ∀ k, B + st.length + 1 ≤ k → ast_Depth.l1 k deep st.reverse l n i = some r
  | [], _, _, h, k, hk => by
    obtain ⟨k, rfl⟩ : ∃ m, k = m + 1 := ⟨k - 1, by omega⟩
    rw [ast_Depth.l1, if_neg (by simp)]
    exact h k (by simp at hk; omega)
  | c :: S, hb, hl, h, k, hk => by
    obtain ⟨k, rfl⟩ : ∃ m, k = m + 1 := ⟨k - 1, by omega⟩
    have hc := hb c (List.mem_cons_self ..)
    simp only [List.length_cons] at hl hk
    have hlen : ((c :: S).reverse.length : Int) = (S.length : Int) + 1 := by simp
    have hw : wrap64 ((S.length : Int) + 1 - 1) = (S.length : Int) := by rw [w64 (by omega) (by omega)]; omega
    have hrev : (c :: S).reverse = S.reverse ++ [c] := List.reverse_cons
    have hrd : rd (c :: S).reverse (S.length : Int) = c := by
      rw [hrev]
      have := rd_mid S.reverse c []
      rw [List.length_reverse] at this
      exact this
    rw [ast_Depth.l1, hlen, hw, if_pos (by omega), if_pos (by omega), if_pos (by omega), hrd]
    unfold next at h
    by_cases h0 : c = 0
    · rw [if_pos h0, if_pos (by omega)]
      rw [if_pos h0] at h
      have ht : (c :: S).reverse.take ((S.length : Int)).toNat = S.reverse := by
        rw [hrev, Int.toNat_natCast]
        rw [List.take_append_of_le_length (by simp)]
        exact List.take_of_length_le (by simp)
      rw [ht]
      exact l1_next l n deep i r B S (fun x hx => hb x (List.mem_cons_of_mem _ hx)) (by omega) h k (by omega)
    · rw [if_neg h0, w64 (x := c - 1) (by omega) (by omega)]
      rw [if_neg h0, List.reverse_cons] at h
      have ht : (c :: S).reverse.set ((S.length : Int)).toNat (c - 1) = S.reverse ++ [c - 1] := by
        rw [hrev, Int.toNat_natCast, List.set_append_right _ _ (by simp)]
        simp
      rw [ht]
      exact h k (by omega)
/-- With rounds enough it tells r. -/
def Ev {α : Type} (f : Nat → Option α) (r : α) : Prop := ∃ B, ∀ k, B ≤ k → f k = some r
/-- One node: its kids are pushed, the deepest is told, the stack goes on. -/
theorem step (l : List S35) (deep r : Int) (p : Nat) (hp : p < l.length) (hL : l.length ≤ 1048576) (st : List Int) (hb : ∀ x ∈ st, 0 ≤ x ∧ x ≤ 1048576) (hl : st.length ≤ 1048576) (hx : 0 ≤ (rd_T35 l p).f4 ∧ (rd_T35 l p).f4 ≤ 1048576)
    (h : Ev (fun k => ast_Depth.l0 k (mx deep ((st.length : Int) + 1)) (next ((rd_T35 l p).f4 :: st)).reverse l l.length ((p + 1 : Nat) : Int)) r) : Ev (fun k => ast_Depth.l0 k deep st.reverse l l.length (p : Int)) r := by
  obtain ⟨B, hB⟩ := h
  refine ⟨B + st.length + 3, fun k hk => ?_⟩
  obtain ⟨k, rfl⟩ : ∃ m, k = m + 1 := ⟨k - 1, by omega⟩
  have hrev : st.reverse ++ [(rd_T35 l p).f4] = ((rd_T35 l p).f4 :: st).reverse := List.reverse_cons.symm
  have hlen : ((((rd_T35 l p).f4 :: st).reverse.length : Nat) : Int) = (st.length : Int) + 1 := by simp
  have hw : wrap64 ((p : Int) + 1) = ((p + 1 : Nat) : Int) := by rw [w64 (by omega) (by omega)]; rfl
  show ast_Depth.l0 (k + 1) deep st.reverse l l.length (p : Int) = some r
  rw [ast_Depth.l0, if_pos (by omega), if_pos (by omega), if_pos (by omega), if_pos (by simp; omega), Option.bind_some, hrev, hlen]
  refine l1_next l l.length (mx deep ((st.length : Int) + 1)) p r B ((rd_T35 l p).f4 :: st) ?_ (by simp; omega) ?_ k (by simp; omega)
  · intro x hx2
    rcases List.mem_cons.1 hx2 with rfl | h2
    · exact hx
    · exact hb x h2
  · rw [hw]
    exact hB
/-- The greatest of f over places. -/
def topF (f : Int → Int) : List Int → Int → Int
  | [], d => d
  | j :: js, d => topF f js (if f j > d then f j else d)
/-- How many levels the tree at a place has (n: more than its nodes). -/
def lev (l : List S35) : Nat → Int → Int
  | 0, _ => 0
  | n + 1, i => topF (lev l n) (kidsI l i) 0 + 1
/-- The deepest, kid by kid, each beginning at height h. -/
def dp (f : Int → Int) (h : Int) : List Int → Int → Int
  | [], x => x
  | j :: js, x => dp f h js (mx x (h + f j))
theorem dp_top (f : Int → Int) (h deep : Int) : ∀ (js : List Int) (t : Int), dp f h js (mx deep (h + t)) = mx deep (h + topF f js t)
  | [], t => rfl
  | j :: js, t => by
    unfold dp topF
    rw [← dp_top f h deep js]
    congr 1
    unfold mx
    by_cases h1 : f j > t
    · rw [if_pos h1]
      repeat' split
      all_goals omega
    · rw [if_neg h1]
      repeat' split
      all_goals omega
/-- The machine over one whole tree. -/
def TreeLaw (l : List S35) (m : Nat) : Prop := ∀ p : Nat, l.length - p ≤ m → endI l p ≠ 0 → ∀ (st : List Int) (deep r : Int), (∀ x ∈ st, 0 ≤ x ∧ x ≤ 1048576) → st.length + (l.length - p) ≤ 1048576 →
  Ev (fun k => ast_Depth.l0 k (mx deep ((st.length : Int) + lev l m p)) (next st).reverse l l.length (endI l p)) r → Ev (fun k => ast_Depth.l0 k deep st.reverse l l.length (p : Int)) r
theorem forest (l : List S35) (hL : l.length ≤ 1048576) (m : Nat) (T : TreeLaw l m) : ∀ (d p : Nat), 1 ≤ p → l.length - p ≤ m → fin l.length (l.drop p) p ((d + 1 : Nat) : Int) ≠ 0 → d ≤ 1048576 → ∀ (S : List Int) (deep r : Int), (∀ x ∈ S, 0 ≤ x ∧ x ≤ 1048576) → S.length + 1 + (l.length - p) ≤ 1048576 →
    Ev (fun k => ast_Depth.l0 k (dp (lev l m) ((S.length : Int) + 1) (steps l p (d + 1)) deep) (next S).reverse l l.length ((fin l.length (l.drop p) p ((d + 1 : Nat) : Int) : Nat) : Int)) r → Ev (fun k => ast_Depth.l0 k deep ((d : Int) :: S).reverse l l.length (p : Int)) r := by
  intro d
  induction d with
  | zero =>
    intro p hp hm hf hd S deep r hb hl h
    have hlt : p < l.length := by
      rcases Nat.lt_or_ge p l.length with h3 | h3
      · exact h3
      · rw [List.drop_eq_nil_of_le h3] at hf; simp [fin] at hf
    have he : endI l p = fin l.length (l.drop p) p 1 := by
      unfold endI
      rw [if_neg (by omega)]
      rfl
    refine T p hm (by rw [he]; exact_mod_cast hf) (((0 : Nat) : Int) :: S) deep r ?_ (by simp; omega) ?_
    · intro x hx
      rcases List.mem_cons.1 hx with rfl | h2
      · exact ⟨Int.le_refl _, by decide⟩
      · exact hb x h2
    · rw [he]
      have e1 : ((((0 : Nat) : Int) :: S).length : Int) = (S.length : Int) + 1 := by simp
      have e2 : next (((0 : Nat) : Int) :: S) = next S := by
        rw [next, if_pos (show ((0 : Nat) : Int) = 0 from rfl)]
      rw [e1, e2]
      exact h
  | succ d ih =>
    intro p hp hm hf hd S deep r hb hl h
    have hc : ((d + 1 + 1 : Nat) : Int) = 1 + ((d + 1 : Nat) : Int) := by omega
    rw [hc] at hf h
    obtain ⟨h1, h2⟩ := fin_add l.length (l.drop p) p 1 ((d + 1 : Nat) : Int) (by omega) (by omega) hf hp
    have hlt : p < l.length := by
      rcases Nat.lt_or_ge p l.length with h3 | h3
      · exact h3
      · rw [List.drop_eq_nil_of_le h3] at h1; simp [fin] at h1
    have he : endI l p = fin l.length (l.drop p) p 1 := by
      unfold endI
      rw [if_neg (by omega)]
      rfl
    have hg := fin_ge l.length (l.drop p) p 1 h1
    rw [List.drop_drop, show p + (fin l.length (l.drop p) p 1 - p) = fin l.length (l.drop p) p 1 by omega] at h2
    refine T p hm (by rw [he]; omega) (((d + 1 : Nat) : Int) :: S) deep r ?_ (by simp; omega) ?_
    · intro x hx
      rcases List.mem_cons.1 hx with rfl | h2
      · omega
      · exact hb x h2
    · rw [he]
      have e1 : ((((d + 1 : Nat) : Int) :: S).length : Int) = (S.length : Int) + 1 := by simp
      have e2 : next (((d + 1 : Nat) : Int) :: S) = (d : Int) :: S := by
        rw [next, if_neg (by omega)]
        congr 1
        omega
      rw [e1, e2]
      refine ih (fin l.length (l.drop p) p 1) (by omega) (by omega) (by rw [h2]; exact hf) (by omega) S _ r hb (by omega) ?_
      rw [h2]
      have e3 : steps l p (d + 1 + 1) = (p : Int) :: steps l (fin l.length (l.drop p) p 1 : Nat) (d + 1) := by
        rw [steps, he]
      rw [e3, dp] at h
      exact h
theorem tree (l : List S35) (hL : l.length ≤ 1048576) : ∀ m, TreeLaw l m
  | 0 => fun p hm he st deep r hb hl h => by
    obtain ⟨h0, h1, _⟩ := endI_pos he
    omega
  | m + 1 => fun p hm he st deep r hb hl h => by
    have T := tree l hL m
    obtain ⟨h0, h1, _⟩ := endI_pos he
    obtain ⟨h2, h3, h4⟩ := kids_fine he
    have hlt : p < l.length := by omega
    rw [Int.toNat_natCast] at h4
    have hkids : kidsI l p = steps l ((p : Int) + 1) (rd_T35 l p).f4.toNat := by
      unfold kidsI
      rw [if_neg he]
    rw [lev, hkids] at h
    refine step l deep r p hlt hL st hb (by omega) ⟨h2, by omega⟩ ?_
    cases hq : (rd_T35 l p).f4.toNat with
    | zero =>
      have hz : (rd_T35 l p).f4 = 0 := by omega
      rw [hq] at h
      rw [hz] at h4 ⊢
      have e0 : fin l.length (l.drop (p + 1)) (p + 1) 0 = p + 1 := by
        cases l.drop (p + 1) with
        | nil => simp [fin]
        | cons n s => simp [fin]
      rw [e0] at h4
      have e2 : next ((0 : Int) :: st) = next st := by rw [next, if_pos rfl]
      rw [e2, h4]
      exact h
    | succ d =>
      have hz : (rd_T35 l p).f4 = ((d + 1 : Nat) : Int) := by omega
      rw [hq] at h
      rw [hz] at h4 ⊢
      have e2 : next (((d + 1 : Nat) : Int) :: st) = (d : Int) :: st := by
        rw [next, if_neg (by omega)]
        congr 1
        omega
      rw [e2]
      refine forest l hL m T d (p + 1) (by omega) (by omega) (by omega) (by omega) st _ r hb (by omega) ?_
      rw [h4]
      have e3 := dp_top (lev l m) ((st.length : Int) + 1) deep (steps l (((p + 1 : Nat)) : Int) (d + 1)) 0
      rw [Int.add_zero] at e3
      rw [e3, show ((st.length : Int) + 1 + topF (lev l m) (steps l (((p + 1 : Nat)) : Int) (d + 1)) 0) = (st.length : Int) + (topF (lev l m) (steps l ((p : Int) + 1) (d + 1)) 0 + 1) by
        rw [show (((p + 1 : Nat)) : Int) = (p : Int) + 1 from rfl]; omega]
      exact h
/-- The depth of a list. -/
def depthI (l : List S35) : Int := if (l.length : Int) > 0 ∧ endI l 0 = l.length then lev l l.length 0 else 0
theorem lev_pos (l : List S35) (m : Nat) (i : Int) : 0 ≤ lev l m i := by
  have top : ∀ (f : Int → Int) (js : List Int) (d : Int), 0 ≤ d → 0 ≤ topF f js d := by
    intro f js
    induction js with
    | nil => intro d hd; exact hd
    | cons j js ih =>
      intro d hd
      unfold topF
      refine ih _ ?_
      split <;> omega
  cases m with
  | zero => exact Int.le_refl _
  | succ m => have := top (lev l m) (kidsI l i) 0 (Int.le_refl _); unfold lev; omega
theorem whole_f (l : List S35) (hL : l.length ≤ 1048576) (k : Nat) (hk : l.length + 2 ≤ k) : ast_whole.f k l = some (decide ((l.length : Int) > 0 ∧ endI l 0 = l.length)) := by
  unfold ast_whole.f
  by_cases h : (l.length : Int) > 0
  · rw [if_pos h, end_f l hL 0 k hk, Option.bind_some]
    by_cases h2 : endI l 0 = (l.length : Int)
    · rw [beq_iff_eq.mpr h2, decide_eq_true ⟨h, h2⟩]
    · rw [beq_eq_false_iff_ne.mpr h2, decide_eq_false (fun h3 => h2 h3.2)]
  · rw [if_neg h, decide_eq_false (fun h3 => h h3.1)]
theorem depth_f (l : List S35) (hL : l.length ≤ 1048576) : Ev (fun k => ast_Depth.f k l) (depthI l) := by
  by_cases h : (l.length : Int) > 0 ∧ endI l 0 = l.length
  · have ht := tree l hL l.length 0 (by omega) (by rw [show ((0 : Nat) : Int) = 0 from rfl, h.2]; omega) [] 0 (lev l l.length 0) (fun x hx => by cases hx) (by simp; omega) ⟨1, fun k hk => by
      obtain ⟨k, rfl⟩ : ∃ m, k = m + 1 := ⟨k - 1, by omega⟩
      have hp := lev_pos l l.length 0
      show ast_Depth.l0 (k + 1) _ _ l l.length (endI l ((0 : Nat) : Int)) = _
      rw [show ((0 : Nat) : Int) = 0 from rfl, h.2, ast_Depth.l0, if_neg (by omega)]
      congr 1
      unfold mx
      simp only [List.length_nil]
      split <;> omega⟩
    obtain ⟨B, hB⟩ := ht
    refine ⟨B + l.length + 2, fun k hk => ?_⟩
    show ast_Depth.f k l = _
    unfold ast_Depth.f depthI
    rw [whole_f l hL k (by omega), decide_eq_true h, Option.bind_some, if_pos rfl, if_pos h]
    exact hB k (by omega)
  · refine ⟨l.length + 2, fun k hk => ?_⟩
    show ast_Depth.f k l = _
    unfold ast_Depth.f depthI
    rw [whole_f l hL k (by omega), decide_eq_false h, Option.bind_some, if_neg (by simp), if_neg h]
theorem kids_whole (l : List S35) : ∀ (d p : Nat), 1 ≤ p → fin l.length (l.drop p) p d ≠ 0 → ∀ j ∈ steps l p d, endI l j ≠ 0 ∧ (p : Int) ≤ j
  | 0, p, _, _, j, hj => by simp [steps] at hj
  | d + 1, p, hp, h, j, hj => by
    have hc : ((d + 1 : Nat) : Int) = 1 + (d : Int) := by omega
    rw [hc] at h
    obtain ⟨h1, h2⟩ := fin_add l.length (l.drop p) p 1 d (by omega) (by omega) h hp
    have hlt : p < l.length := by
      rcases Nat.lt_or_ge p l.length with h3 | h3
      · exact h3
      · rw [List.drop_eq_nil_of_le h3] at h1; simp [fin] at h1
    have he : endI l p = fin l.length (l.drop p) p 1 := by
      unfold endI
      rw [if_neg (by omega)]
      rfl
    have hg := fin_ge l.length (l.drop p) p 1 h1
    rw [List.drop_drop, show p + (fin l.length (l.drop p) p 1 - p) = fin l.length (l.drop p) p 1 by omega] at h2
    rw [steps] at hj
    rcases List.mem_cons.1 hj with rfl | hj2
    · exact ⟨by rw [he]; omega, Int.le_refl _⟩
    · rw [he] at hj2
      have ih := kids_whole l d _ (by omega) (by rw [h2]; exact h) j hj2
      exact ⟨ih.1, by omega⟩
theorem levels_l0 (l : List S35) (f : Int → Int) (hf : ∀ j, 0 ≤ f j ∧ f j ≤ 1048576) : ∀ (js pre : List Int) (acc : Int), (∀ j ∈ js, Ev (fun k => weirtree_levels.f k l j) (f j)) → 0 ≤ acc → acc ≤ 1048576 → pre.length + js.length ≤ 1048576 →
    Ev (fun k => weirtree_levels.l0 k l acc (pre ++ js) (pre.length : Int)) (topF f js acc + 1)
  | [], pre, acc, _, h0, h1, _ => ⟨1, fun k hk => by
      obtain ⟨k, rfl⟩ : ∃ m, k = m + 1 := ⟨k - 1, by omega⟩
      show weirtree_levels.l0 (k + 1) _ _ _ _ = _
      rw [weirtree_levels.l0, if_neg (by simp), w64 (by omega) (by omega)]
      rfl⟩
  | j :: js, pre, acc, h, h0, h1, hl => by
    obtain ⟨B1, hB1⟩ := h j (List.mem_cons_self ..)
    simp only [List.length_cons] at hl
    have hfj := hf j
    obtain ⟨B2, hB2⟩ := levels_l0 l f hf js (pre ++ [j]) (if f j > acc then f j else acc) (fun x hx => h x (List.mem_cons_of_mem _ hx)) (by split <;> omega) (by split <;> omega) (by simp; omega)
    refine ⟨B1 + B2 + 1, fun k hk => ?_⟩
    obtain ⟨k, rfl⟩ : ∃ m, k = m + 1 := ⟨k - 1, by omega⟩
    show weirtree_levels.l0 (k + 1) _ _ _ _ = _
    have h3 := hB2 k (by omega)
    have h4 : weirtree_levels.f k l j = some (f j) := hB1 k (by omega)
    simp only [List.append_assoc, List.singleton_append, List.length_append, List.length_singleton] at h3
    rw [weirtree_levels.l0, if_pos (by simp; omega), if_pos (by omega), rd_mid, h4, Option.bind_some, w64 (by omega) (by omega), topF, ← h3]
    by_cases h5 : f j > acc
    · rw [if_pos h5, if_pos h5]; rfl
    · rw [if_neg h5, if_neg h5]; rfl
theorem topF_le (f : Int → Int) (M : Int) (hf : ∀ j, f j ≤ M) : ∀ (js : List Int) (d : Int), d ≤ M → topF f js d ≤ M
  | [], d, hd => hd
  | j :: js, d, hd => by
    rw [topF]
    refine topF_le f M hf js _ ?_
    have := hf j
    split <;> omega
theorem lev_le (l : List S35) : ∀ (m : Nat) (i : Int), lev l m i ≤ m
  | 0, i => Int.le_refl _
  | m + 1, i => by
    have := topF_le (lev l m) m (lev_le l m) (kidsI l i) 0 (by omega)
    rw [lev]
    omega
theorem levels_f (l : List S35) (hL : l.length ≤ 1048576) (hx : ∀ i, (rd_T35 l i).f4 ≤ 9223372036854775807) : ∀ (m : Nat), m ≤ 1048576 → ∀ i : Int, endI l i ≠ 0 → l.length - i ≤ m → Ev (fun k => weirtree_levels.f k l i) (lev l m i)
  | 0, hm, i, he, hi => by
    obtain ⟨h0, h1, _⟩ := endI_pos he
    omega
  | m + 1, hm, i, he, hi => by
    obtain ⟨h0, h1, _⟩ := endI_pos he
    obtain ⟨h2, h3, h4⟩ := kids_fine he
    have hkids : kidsI l i = steps l ((i.toNat + 1 : Nat) : Int) (rd_T35 l i).f4.toNat := by
      unfold kidsI
      rw [if_neg he, show (((i.toNat + 1 : Nat)) : Int) = i + 1 by omega]
    have hw := kids_whole l (rd_T35 l i).f4.toNat (i.toNat + 1) (by omega) (by rw [show (((rd_T35 l i).f4.toNat : Nat) : Int) = (rd_T35 l i).f4 by omega]; omega)
    rw [← hkids] at hw
    have hlen : (kidsI l i).length ≤ 1048576 := by rw [hkids, steps_length]; omega
    obtain ⟨B, hB⟩ := levels_l0 l (lev l m) (fun j => ⟨lev_pos l m j, by have := lev_le l m j; omega⟩) (kidsI l i) [] 0 (fun j hj => levels_f l hL hx m (by omega) j (hw j hj).1 (by have := (hw j hj).2; omega)) (by omega) (by omega) (by simpa using hlen)
    refine ⟨B + 3 * l.length + 13, fun k hk => ?_⟩
    obtain ⟨k, rfl⟩ : ∃ m, k = m + 1 := ⟨k - 1, by omega⟩
    show weirtree_levels.f (k + 1) l i = _
    rw [weirtree_levels.f, wkids_f l hL hx i k (by omega), Option.bind_some, lev]
    exact hB k (by omega)
theorem wdepth_f (l : List S35) (hL : l.length ≤ 1048576) (hx : ∀ i, (rd_T35 l i).f4 ≤ 9223372036854775807) : Ev (fun k => weirtree_Depth.f k l) (depthI l) := by
  have ht : ∀ k, 2 * l.length + 4 ≤ k → weirtree_IsTree.f k l = some (decide ((l.length : Int) > 0 ∧ endI l 0 = l.length)) := by
    intro k hk
    unfold weirtree_IsTree.f
    by_cases h : (l.length : Int) > 0
    · rw [if_pos h, wend_f l hL 0 k hk, Option.bind_some]
      by_cases h2 : endI l 0 = (l.length : Int)
      · rw [beq_iff_eq.mpr h2, decide_eq_true ⟨h, h2⟩]
      · rw [beq_eq_false_iff_ne.mpr h2, decide_eq_false (fun h3 => h2 h3.2)]
    · rw [if_neg h, decide_eq_false (fun h3 => h h3.1)]
  by_cases h : (l.length : Int) > 0 ∧ endI l 0 = l.length
  · obtain ⟨B, hB⟩ := levels_f l hL hx l.length hL 0 (by rw [h.2]; omega) (by omega)
    refine ⟨B + 2 * l.length + 4, fun k hk => ?_⟩
    have h4 : weirtree_levels.f k l 0 = some (lev l l.length 0) := hB k (by omega)
    show weirtree_Depth.f k l = _
    unfold weirtree_Depth.f depthI
    rw [ht k (by omega), decide_eq_true h, Option.bind_some, if_pos rfl, h4, Option.bind_some, if_pos h]
  · refine ⟨2 * l.length + 4, fun k hk => ?_⟩
    show weirtree_Depth.f k l = _
    unfold weirtree_Depth.f depthI
    rw [ht k hk, decide_eq_false h, Option.bind_some, if_neg (by simp), if_neg h]
theorem law (l : List S35) (hL : l.length ≤ 1048576) (hx : ∀ i, (rd_T35 l i).f4 ≤ 9223372036854775807) : ∃ K, (∀ i : Int, ast_Kids.f K l i = some (kidsI l i) ∧ weirtree_Kids.f K l i = some (kidsI l i) ∧ ast_End.f K l i = some (endI l i) ∧ weirtree_End.f K l i = some (endI l i) ∧ weirmem_SameInts.f K (kidsI l i) (kidsI l i) = some true) ∧
    ast_Depth.f K l = some (depthI l) ∧ weirtree_Depth.f K l = some (depthI l) ∧ weirlaw13_live.f K = some true := by
  obtain ⟨B1, h1⟩ := depth_f l hL
  obtain ⟨B2, h2⟩ := wdepth_f l hL hx
  refine ⟨B1 + B2 + 3 * l.length + 60, fun i => ⟨kids_f l hL i _ (by omega), wkids_f l hL hx i _ (by omega), end_f l hL i _ (by omega), wend_f l hL i _ (by omega), ?_⟩, h1 _ (by omega), h2 _ (by omega), live_true _ (by omega)⟩
  have hk : (kidsI l i).length ≤ l.length := by
    unfold kidsI
    by_cases h : endI l i = 0
    · rw [if_pos h]; simp
    · rw [if_neg h, steps_length]
      have := kids_fine h
      omega
  exact same_f _ (by omega) _ (by omega)
theorem rd_fine {l : List S35} (h : ∀ n ∈ l, Fine n ∧ n.f2.size ≤ maxLen) (i : Int) : (rd_T35 l i).f4 ≤ 9223372036854775807 := by
  unfold rd_T35
  rw [List.getD_eq_getElem?_getD]
  cases hq : l[i.toNat]? with
  | none => decide
  | some n => exact (h n (List.mem_of_getElem? hq)).1.kids.2
end Go.Proofs.YtabhhfpfdndidaaGreatDoor.DepthPure
