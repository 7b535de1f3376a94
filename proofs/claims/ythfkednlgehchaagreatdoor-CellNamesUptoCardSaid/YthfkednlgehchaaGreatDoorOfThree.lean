/- cell.Of and weirref23.Of: their contracts. -/
import Derived.Test.YthfkednlgehchaaGreatDoorOfTwo
set_option linter.unusedVariables false
set_option linter.unusedSimpArgs false
namespace Go.Proofs.YthfkednlgehchaaGreatDoor.Of
open Go Go.RowKit Go.Proofs Go.Am Go.Proofs.YthfkednlgehchaaGreatDoor.Base Go.Proofs.YthfkednlgehchaaGreatDoor.Name Go.Joins
open Go.Proofs.YthfkednlgehchaaGreatDoor.Parse (alloc_new)
open Go.Proofs.YthfkednlgehchaaGreatDoor.RefEsc (fine badOf)

theorem slice_strs {w : World} {v : Value} {gs : List ByteArray} (h : Strs w v gs) : ∃ a m c, v = .slice a m c := by
  rcases strs_shape h with ⟨_, A, c, rfl⟩ | ⟨_, b, o, c, rfl, _⟩
  · exact ⟨_, _, _, rfl⟩
  · exact ⟨_, _, _, rfl⟩
theorem slice_tags {w : World} {v : Value} {ts : List (ByteArray × ByteArray)} (h : Tags w v ts) : ∃ a m c, v = .slice a m c := by
  rcases h.shape with ⟨_, A, c, rfl⟩ | ⟨_, b, o, c, rfl, _⟩
  · exact ⟨_, _, _, rfl⟩
  · exact ⟨_, _, _, rfl⟩
/-- The cells of an empty cell. -/
def CellBox (w : World) (b : Nat) : Prop := w.heap[b]? = some (.cells #[.int .i64 0, .slice none 0 0] 27 (0, 0))
theorem CellBox.below {w w' : World} {b : Nat} (h : CellBox w b) (hb : Below w.heap.size w w') : CellBox w' b := (hb.block b (Array.getElem?_eq_some_iff.1 h).1).trans h
theorem CellBox.facts {w : World} {b : Nat} (h : CellBox w b) : w.cell? ⟨b, 0, none⟩ = some (.int .i64 0) ∧ w.cell? ⟨b, 1, none⟩ = some (.slice none 0 0) ∧ w.frozen? ⟨b, 0, none⟩ = false ∧ w.frozen? ⟨b, 1, none⟩ = false :=
  ⟨by rw [Lib.cell_of_heap h]; rfl, by rw [Lib.cell_of_heap h]; rfl, Lib.frozen_of_heap h 0, Lib.frozen_of_heap h 1⟩
theorem two {w0 w : World} {b : Nat} (h : Below w0.heap.size w0 w) (hb : w0.heap.size ≤ b) (u0 u1 : Value) : Below w0.heap.size w0 ((w.setCell ⟨b, 0, none⟩ u0).setCell ⟨b, 1, none⟩ u1) :=
  (h.setCell (p := ⟨b, 0, none⟩) hb _).setCell (p := ⟨b, 1, none⟩) hb _
theorem seven {w0 w : World} (h : Below w0.heap.size w0 w) (v0 v1 u0 u1 u2 u3 u4 : Value) :
    Below w0.heap.size w0 (((((((w.setCell ⟨w0.heap.size, 0, none⟩ v0).setCell ⟨w0.heap.size, 1, none⟩ v1).setCell ⟨w0.heap.size + 1, 0, none⟩ u0).setCell ⟨w0.heap.size + 1, 1, none⟩ u1).setCell ⟨w0.heap.size + 1, 2, none⟩ u2).setCell ⟨w0.heap.size + 1, 3, none⟩ u3).setCell ⟨w0.heap.size + 1, 4, none⟩ u4) :=
  five (two h (Nat.le_refl _) v0 v1) (by omega) _ _ _ _ _
/-- A block that holds no text is written over: the texts stay. -/
def NoText (w : World) (b : Nat) : Prop := ∀ i g, w.cell? ⟨b, i, none⟩ ≠ some (.string g)
theorem cell_other {w : World} {a : Addr} {v : Value} {b o : Nat} (h : b ≠ a.block) : (w.setCell a v).cell? ⟨b, o, none⟩ = w.cell? ⟨b, o, none⟩ := by
  unfold World.cell?
  simp only [heap_setCell_other w a b v h]
theorem CellBox.noText {w : World} {b : Nat} (h : CellBox w b) : NoText w b := by
  intro i g hc
  rw [Lib.cell_of_heap h] at hc
  match i, hc with
  | 0, hc => cases hc
  | 1, hc => cases hc
  | k + 2, hc => simp at hc
theorem BadBox.noText {w : World} {b : Nat} (h : BadBox w b) : NoText w b := by
  intro i g hc
  rw [Lib.cell_of_heap h] at hc
  match i, hc with
  | 0, hc => cases hc
  | 1, hc => cases hc
  | 2, hc => cases hc
  | 3, hc => cases hc
  | 4, hc => cases hc
  | k + 5, hc => simp at hc
/-- Texts lie in blocks of their own. -/
def Apart (v : Value) (gs : List ByteArray) (d : Nat) : Prop := ∀ b o c, v = .slice (some ⟨b, o, none⟩) gs.length c → gs ≠ [] → b ≠ d
theorem apart {w : World} {v : Value} {gs : List ByteArray} {d : Nat} (h : Strs w v gs) (hd : NoText w d) : Apart v gs d := by
  rintro b o c rfl hne rfl
  rcases strs_shape h with ⟨h1, _⟩ | ⟨_, b2, o2, c2, e, _, hA⟩
  · exact hne h1
  · cases e
    cases gs with
    | nil => exact hne rfl
    | cons g gs => exact hd _ g (hA 0 g rfl)
theorem strs_set {w : World} {v : Value} {gs : List ByteArray} {a : Addr} (h : Strs w v gs) (hd : Apart v gs a.block) (u : Value) : Strs (w.setCell a u) v gs := by
  obtain ⟨b, o, cp, h1, h3⟩ := h
  refine ⟨b, o, cp, h1, ?_⟩
  rcases h3 with h3 | ⟨h3, h4, h5⟩
  · exact .inl h3
  · refine .inr ⟨h3, by simpa using h4, fun i g hi => ?_⟩
    have hne : gs ≠ [] := by rintro rfl; simp at hi
    rw [cell_other (hd b o cp h3 hne)]
    exact h5 i g hi
theorem strs_two {w : World} {v : Value} {gs : List ByteArray} {b : Nat} (h : Strs w v gs) (hb : CellBox w b) (u0 u1 : Value) : Strs ((w.setCell ⟨b, 0, none⟩ u0).setCell ⟨b, 1, none⟩ u1) v gs := by
  have ha := apart h hb.noText
  have h1 := strs_set (a := ⟨b, 0, none⟩) h ha u0
  exact strs_set (a := ⟨b, 1, none⟩) h1 ha u1
theorem strs_five {w : World} {v : Value} {gs : List ByteArray} {d : Nat} (h : Strs w v gs) (hc : Apart v gs d) (u0 u1 u2 u3 u4 : Value) :
    Strs (((((w.setCell ⟨d, 0, none⟩ u0).setCell ⟨d, 1, none⟩ u1).setCell ⟨d, 2, none⟩ u2).setCell ⟨d, 3, none⟩ u3).setCell ⟨d, 4, none⟩ u4) v gs := by
  have h1 := strs_set (a := ⟨d, 0, none⟩) h hc u0
  have h2 := strs_set (a := ⟨d, 1, none⟩) h1 hc u1
  have h3 := strs_set (a := ⟨d, 2, none⟩) h2 hc u2
  have h4 := strs_set (a := ⟨d, 3, none⟩) h3 hc u3
  exact strs_set (a := ⟨d, 4, none⟩) h4 hc u4
theorem strs_seven {w : World} {v : Value} {gs : List ByteArray} {b d : Nat} (h : Strs w v gs) (hb : CellBox w b) (hd : BadBox w d) (v0 v1 u0 u1 u2 u3 u4 : Value) :
    Strs (((((((w.setCell ⟨b, 0, none⟩ v0).setCell ⟨b, 1, none⟩ v1).setCell ⟨d, 0, none⟩ u0).setCell ⟨d, 1, none⟩ u1).setCell ⟨d, 2, none⟩ u2).setCell ⟨d, 3, none⟩ u3).setCell ⟨d, 4, none⟩ u4) v gs :=
  strs_five (strs_two h hb v0 v1) (apart h hd.noText) u0 u1 u2 u3 u4

/-- What Of gives. -/
def OfPost (e o t : Int) (gs : List ByteArray) (w : World) (r : Ending) (w' : World) : Prop := Below w.heap.size w w' ∧ match ofP e o t with
  | .error c => r = .returned (.tuple #[.agg #[.int .i64 0, .slice none 0 0], .iface 32 (.int .i64 c)])
  | .ok s => ∃ sl, r = .returned (.tuple #[.agg #[.int .i64 s, sl], .nilIface]) ∧ Strs w' sl gs
/-- What the document's gives. -/
def RefOfPost (e o t : Int) (gs : List ByteArray) (w : World) (r : Ending) (w' : World) : Prop := Below w.heap.size w w' ∧ match ofP e o t with
  | .error c => r = .returned (.tuple #[.agg #[.int .i64 0, .slice none 0 0], badOf c])
  | .ok s => ∃ sl, r = .returned (.tuple #[.agg #[.int .i64 s, sl], fine]) ∧ Strs w' sl gs

set_option maxHeartbeats 8000000 in
set_option maxRecDepth 100000 in
theorem cell_of (e o t : Int) (sg st : Value) (gs : List ByteArray) (ts : List (ByteArray × ByteArray)) (w : World) (he : I64 e) (ho : I64 o) (ht : I64 t) (hg : Strs w sg gs) (hgl : gs.length ≤ 2097152) (hT : Tags w st ts) (hl : ts.length ≤ 9223372036854775807) :
    Calls Tryz.prog 4 #[.int .i64 e, .int .i64 o, sg, st, .int .i64 t] w (OfPost e o t (grp ts gs) w) := by
  obtain ⟨ag, mg, cg, rfl⟩ := slice_strs hg
  obtain ⟨at1, mt, ct, rfl⟩ := slice_tags hT
  have HB0 := Lib.hid ((Below.refl _ w).alloc (Nat.le_refl _) (.cells #[.int .i64 0, .slice none 0 0] 27))
  have HC0 : Hid (CellBox (w.alloc (.cells #[.int .i64 0, .slice none 0 0] 27)) w.heap.size) := Lib.hid (alloc_new _ _)
  by_cases hbad : e < 1 ∨ 288230376151711744 < e ∨ o < 0 ∨ e ≤ o
  · have hp : ofP e o t = .error 155 := if_pos hbad
    have hb4 : (decide (e < 1) = true) ∨ (decide (e < 1) = false ∧ decide (e > 288230376151711744) = true) ∨ (decide (e < 1) = false ∧ decide (e > 288230376151711744) = false ∧ decide (o < 0) = true) ∨ (decide (e < 1) = false ∧ decide (e > 288230376151711744) = false ∧ decide (o < 0) = false ∧ decide (o ≥ e) = true) := by
      simp only [decide_eq_true_eq, decide_eq_false_iff_not]
      omega
    have HP := Lib.hid hp
    clear hp hbad hg hT
    rcases hb4 with g0 | ⟨g0, g1⟩ | ⟨g0, g1, g2⟩ | ⟨g0, g1, g2, g3⟩
    all_goals
      go_enter Tryz.func4, Tryz.ntmps4
      go_wp2_with (go_at_call 13; refine (num_newR 155 (by decide) _).mono ?_)
      rintro e1 w5 hret
      obtain ⟨rfl, hb5⟩ := hret
      have HC5 := HC0.out.below hb5
      have HB5 := Lib.hid (HB0.out.trans (hb5.mono HB0.out.size))
      obtain ⟨r0, r1, r2, r3⟩ := HC5.facts
      clear hb5 HC5
      go_wp2
      refine bodyPost_ret (v := .tuple #[.agg #[.int .i64 0, .slice none 0 0], .iface 32 (.int .i64 155)]) (by simp [results, Tryz.results4, go_sem, r0, r1]) rfl ?_
      refine ⟨two HB5.out (Nat.le_refl _) _ _, ?_⟩
      rw [HP.out]
  · have g0 : decide (e < 1) = false := by simp; omega
    have g1 : decide (e > 288230376151711744) = false := by simp; omega
    have g2 : decide (o < 0) = false := by simp; omega
    have g3 : decide (o ≥ e) = false := by simp; omega
    have HW := Lib.hid (num_win t e o ht (by omega) (by omega) (by omega) (by omega))
    have hp : ofP e o t = match subP t (back t e o) with
      | none => .error 2
      | some s => .ok s := if_neg hbad
    have HP := Lib.hid hp
    have HG := Lib.hid hg
    have HT := Lib.hid hT
    clear hp hbad hg hT
    go_enter Tryz.func4, Tryz.ntmps4
    go_wp2_with (go_at_call 14; refine (HW.out _).mono ?_)
    rintro e1 w2 hret
    obtain ⟨hb2, hm⟩ := hret
    have HC2 := Lib.hid (HC0.out.below hb2)
    have HB2 := Lib.hid (HB0.out.trans (hb2.mono HB0.out.size))
    have hz2 := hb2.size
    clear hb2
    cases hs : subP t (back t e o) with
    | none =>
      rw [hs] at hm
      obtain ⟨v, rfl⟩ := hm
      have HE : Hid (ofP e o t = .error 2) := Lib.hid (by rw [HP.out, hs])
      go_wp2_with (go_at_call 13; refine (num_newR 2 (by decide) _).mono ?_)
      rintro e1 w5 hret
      obtain ⟨rfl, hb5⟩ := hret
      have HC5 := HC2.out.below hb5
      have HB5 := Lib.hid (HB2.out.trans (hb5.mono HB2.out.size))
      obtain ⟨r0, r1, r2, r3⟩ := HC5.facts
      clear hb5 HC5
      go_wp2
      refine bodyPost_ret (v := .tuple #[.agg #[.int .i64 0, .slice none 0 0], .iface 32 (.int .i64 2)]) (by simp [results, Tryz.results4, go_sem, r0, r1]) rfl ?_
      refine ⟨two HB5.out (Nat.le_refl _) _ _, ?_⟩
      rw [HE.out]
    | some d =>
      rw [hs] at hm
      simp only at hm
      subst hm
      have HE : Hid (ofP e o t = .ok d) := Lib.hid (by rw [HP.out, hs])
      go_wp2_with (go_at_call 15; refine (key_group _ _ ts gs _ (HT.out.below HB2.out) hl (Strs.below HG.out HB2.out) hgl).mono ?_)
      rintro e1 w5 hret
      obtain ⟨hb5, sl, rfl, hst⟩ := hret
      have HST := Lib.hid hst
      obtain ⟨va, vn, vc, rfl⟩ := slice_strs hst
      have HC5 := HC2.out.below hb5
      have HB5 := Lib.hid (HB2.out.trans (hb5.mono HB2.out.size))
      have HC5h := Lib.hid HC5
      obtain ⟨r0, r1, r2, r3⟩ := HC5.facts
      clear hb5 HC5 hst
      go_wp2
      refine bodyPost_ret (v := .tuple #[.agg #[.int .i64 d, .slice va vn vc], .nilIface]) (by simp [results, Tryz.results4, go_sem, r0, r1]) rfl ?_
      refine ⟨two HB5.out (Nat.le_refl _) _ _, ?_⟩
      rw [HE.out]
      exact ⟨_, rfl, strs_two HST.out HC5h.out _ _⟩

set_option maxHeartbeats 8000000 in
set_option maxRecDepth 100000 in
theorem ref_of (e o t : Int) (sg st : Value) (gs : List ByteArray) (ts : List (ByteArray × ByteArray)) (w : World) (he : I64 e) (ho : I64 o) (ht : I64 t) (hg : Strs w sg gs) (hgl : gs.length ≤ 2097152) (hT : Tags w st ts) (hl : ts.length ≤ 9223372036854775807) :
    Calls Tryz.prog 5 #[.int .i64 e, .int .i64 o, sg, st, .int .i64 t] w (RefOfPost e o t (grp ts gs) w) := by
  obtain ⟨ag, mg, cg, rfl⟩ := slice_strs hg
  obtain ⟨at1, mt, ct, rfl⟩ := slice_tags hT
  have HB0 := Lib.hid (((Below.refl _ w).alloc (Nat.le_refl _) (.cells #[.int .i64 0, .slice none 0 0] 27)).alloc (by simp) (.cells #[.int .i64 0, .int .i64 0, .int .i64 0, .bool false, .bool false] 34))
  have HC0 : Hid (CellBox ((w.alloc (.cells #[.int .i64 0, .slice none 0 0] 27)).alloc (.cells #[.int .i64 0, .int .i64 0, .int .i64 0, .bool false, .bool false] 34)) w.heap.size) := Lib.hid (by unfold CellBox; rw [Lib.alloc_old _ _ _ (by simp)]; exact alloc_new _ _)
  have HD0 : Hid (BadBox ((w.alloc (.cells #[.int .i64 0, .slice none 0 0] 27)).alloc (.cells #[.int .i64 0, .int .i64 0, .int .i64 0, .bool false, .bool false] 34)) (w.heap.size + 1)) := Lib.hid (by unfold BadBox; simpa using alloc_new (w.alloc (.cells #[.int .i64 0, .slice none 0 0] 27)) (.cells #[.int .i64 0, .int .i64 0, .int .i64 0, .bool false, .bool false] 34))
  by_cases hbad : e < 1 ∨ 288230376151711744 < e ∨ o < 0 ∨ e ≤ o
  · have hp : ofP e o t = .error 155 := if_pos hbad
    have hb4 : (decide (e < 1) = true) ∨ (decide (e < 1) = false ∧ decide (e > 288230376151711744) = true) ∨ (decide (e < 1) = false ∧ decide (e > 288230376151711744) = false ∧ decide (o < 0) = true) ∨ (decide (e < 1) = false ∧ decide (e > 288230376151711744) = false ∧ decide (o < 0) = false ∧ decide (o ≥ e) = true) := by
      simp only [decide_eq_true_eq, decide_eq_false_iff_not]
      omega
    have HP := Lib.hid hp
    clear hp hbad hg hT
    rcases hb4 with g0 | ⟨g0, g1⟩ | ⟨g0, g1, g2⟩ | ⟨g0, g1, g2, g3⟩
    all_goals
      go_enter Tryz.func5, Tryz.ntmps5
      go_wp2_with (go_at_call 16; refine (ref_newR 155 _).mono ?_)
      rintro e1 w5 hret
      obtain ⟨rfl, hb5⟩ := hret
      have HC5 := HC0.out.below hb5
      have HD5 := HD0.out.below hb5
      have HB5 := Lib.hid (HB0.out.trans (hb5.mono HB0.out.size))
      obtain ⟨r0, r1, r2, r3⟩ := HC5.facts
      obtain ⟨s0, s1, s2, s3, s4, q0, q1, q2, q3, q4⟩ := HD5.facts
      clear hb5 HC5 HD5
      go_wp2
      refine bodyPost_ret (v := .tuple #[.agg #[.int .i64 0, .slice none 0 0], badOf 155]) (by simp [results, Tryz.results5, go_sem, r0, r1, s0, s1, s2, s3, s4]) rfl ?_
      refine ⟨seven HB5.out _ _ _ _ _ _ _, ?_⟩
      rw [HP.out]
  · have g0 : decide (e < 1) = false := by simp; omega
    have g1 : decide (e > 288230376151711744) = false := by simp; omega
    have g2 : decide (o < 0) = false := by simp; omega
    have g3 : decide (o ≥ e) = false := by simp; omega
    have HW := Lib.hid (ref_win t e o ht (by omega) (by omega) (by omega) (by omega))
    have hp : ofP e o t = match subP t (back t e o) with
      | none => .error 2
      | some s => .ok s := if_neg hbad
    have HP := Lib.hid hp
    have HG := Lib.hid hg
    have HT := Lib.hid hT
    clear hp hbad hg hT
    go_enter Tryz.func5, Tryz.ntmps5
    go_wp2_with (go_at_call 17; refine (HW.out _).mono ?_)
    rintro e1 w2 hret
    obtain ⟨hb2, hm⟩ := hret
    have HC2 := Lib.hid (HC0.out.below hb2)
    have HD2 := Lib.hid (HD0.out.below hb2)
    have HB2 := Lib.hid (HB0.out.trans (hb2.mono HB0.out.size))
    have hz2 := hb2.size
    clear hb2
    cases hs : subP t (back t e o) with
    | none =>
      rw [hs] at hm
      simp only at hm
      subst hm
      have HE : Hid (ofP e o t = .error 2) := Lib.hid (by rw [HP.out, hs])
      have HC2b := Lib.hid (HC2.out.below ((Below.refl _ w2).alloc (Nat.le_refl _) (.cells #[.int .i64 20, .int .i64 0, .int .i64 0, .bool false, .bool false] 34)))
      have HD2b := Lib.hid (HD2.out.below ((Below.refl _ w2).alloc (Nat.le_refl _) (.cells #[.int .i64 20, .int .i64 0, .int .i64 0, .bool false, .bool false] 34)))
      have HB2b := Lib.hid (HB2.out.alloc HB2.out.size (.cells #[.int .i64 20, .int .i64 0, .int .i64 0, .bool false, .bool false] 34))
      go_wp2_with (go_at_call 16; refine (ref_newR 2 _).mono ?_)
      rintro e1 w5 hret
      obtain ⟨rfl, hb5⟩ := hret
      have HC5 := HC2b.out.below hb5
      have HD5 := HD2b.out.below hb5
      have HB5 := Lib.hid (HB2b.out.trans (hb5.mono HB2b.out.size))
      obtain ⟨r0, r1, r2, r3⟩ := HC5.facts
      obtain ⟨s0, s1, s2, s3, s4, q0, q1, q2, q3, q4⟩ := HD5.facts
      clear hb5 HC5 HD5
      go_wp2
      refine bodyPost_ret (v := .tuple #[.agg #[.int .i64 0, .slice none 0 0], badOf 2]) (by simp [results, Tryz.results5, go_sem, r0, r1, s0, s1, s2, s3, s4]) rfl ?_
      refine ⟨seven HB5.out _ _ _ _ _ _ _, ?_⟩
      rw [HE.out]
    | some d =>
      rw [hs] at hm
      simp only at hm
      subst hm
      have HE : Hid (ofP e o t = .ok d) := Lib.hid (by rw [HP.out, hs])
      have HC2b := Lib.hid (HC2.out.below ((Below.refl _ w2).alloc (Nat.le_refl _) (.cells #[.int .i64 0, .int .i64 0, .int .i64 0, .bool false, .bool false] 34)))
      have HD2b := Lib.hid (HD2.out.below ((Below.refl _ w2).alloc (Nat.le_refl _) (.cells #[.int .i64 0, .int .i64 0, .int .i64 0, .bool false, .bool false] 34)))
      have HB2b := Lib.hid (HB2.out.alloc HB2.out.size (.cells #[.int .i64 0, .int .i64 0, .int .i64 0, .bool false, .bool false] 34))
      go_wp2_with (go_at_call 18; refine (ref_group _ _ ts gs _ (HT.out.below HB2b.out) hl (Strs.below HG.out HB2b.out) hgl).mono ?_)
      rintro e1 w5 hret
      obtain ⟨hb5, sl, rfl, hst⟩ := hret
      have HST := Lib.hid hst
      obtain ⟨va, vn, vc, rfl⟩ := slice_strs hst
      have HC5 := HC2b.out.below hb5
      have HD5 := HD2b.out.below hb5
      have HB5 := Lib.hid (HB2b.out.trans (hb5.mono HB2b.out.size))
      have HC5h := Lib.hid HC5
      obtain ⟨r0, r1, r2, r3⟩ := HC5.facts
      have HD5h := Lib.hid HD5
      obtain ⟨s0, s1, s2, s3, s4, q0, q1, q2, q3, q4⟩ := HD5.facts
      clear hb5 HC5 hst HD5
      go_wp2
      refine bodyPost_ret (v := .tuple #[.agg #[.int .i64 d, .slice va vn vc], fine]) (by simp [results, Tryz.results5, go_sem, r0, r1, s0, s1, s2, s3, s4]) rfl ?_
      refine ⟨seven HB5.out _ _ _ _ _ _ _, ?_⟩
      rw [HE.out]
      exact ⟨_, rfl, strs_seven HST.out HC5h.out HD5h.out _ _ _ _ _ _ _⟩
end Go.Proofs.YthfkednlgehchaaGreatDoor.Of
