/- CellBack: the law's walk. -/
import Derived.Test.YtdmdmfofcaeapaaGreatDoorCmp
import Derived.Test.YtdmdmfofcaeapaaGreatDoorAmSeat2
set_option linter.unusedVariables false
set_option linter.unusedSimpArgs false
namespace Go.Proofs.YtdmdmfofcaeapaaGreatDoor.Back
open Go Go.RowKit Go.Proofs Go.Am Go.Proofs.YtdmdmfofcaeapaaGreatDoor.Esc Go.Proofs.YtdmdmfofcaeapaaGreatDoor.Base Go.Proofs.YtdmdmfofcaeapaaGreatDoor.Name Go.Proofs.YtdmdmfofcaeapaaGreatDoor.Parse

theorem strs_row {W : World} {v : Value} {gs : List ByteArray} (h : Strs W v gs) : Row W 1 v (txts gs) := by
  obtain ⟨b, o, c, h1, h2, h3⟩ := h
  have hlen : (txts gs).length = gs.length := List.length_map _
  have hone : ∀ x ∈ txts gs, x.length = 1 := by
    intro x hx
    obtain ⟨g, _, rfl⟩ := List.mem_map.1 hx
    rfl
  rcases h3 with ⟨rfl, A, rfl, hA⟩ | ⟨rfl, h4, h5⟩
  · exact ⟨A, c, rfl, h1, fun e => ⟨rfl, hA e⟩, hone, fun h => (h rfl).elim⟩
  · refine ⟨some ⟨b, o, none⟩, c, by rw [hlen], by rw [hlen]; exact h1, fun e => (by cases e), hone, fun _ => ⟨_, rfl, rfl, fun i x hx j u hu => ?_⟩⟩
    unfold txts at hx
    rw [List.getElem?_map] at hx
    cases hg : gs[i]? with
    | none => rw [hg] at hx; cases hx
    | some g =>
      rw [hg] at hx
      cases hx
      have hj : j = 0 := by
        have := (List.getElem?_eq_some_iff.1 hu).1
        simp at this; omega
      subst hj
      cases hu
      simp only [Addr.add_lit, Nat.mul_one, Nat.add_zero]
      exact h5 i g hg

theorem compare_any (n : Int) (v1 v2 : Value) (gs : List ByteArray) (hgl : gs.length ≤ 4294967296) (W : World) (hG : Globs W) (h1 : Strs W v1 gs) (h2 : Strs W v2 gs) :
    Calls Tryz.prog 6 #[.agg #[.int .i64 n, v1], .agg #[.int .i64 n, v2]] W fun e W' => e = .returned (.int .i64 0) ∧ Below W.heap.size W W' := by
  have r1 := strs_row h1
  have r2 := strs_row h2
  let cs : List (List Value) := [(txts gs).flatten, (txts gs).flatten]
  let As : List (Option Addr) := [adr v1 (txts gs), adr v2 (txts gs)]
  have hpl : ∀ ρ, ∀ x ∈ txts gs, ∀ u ∈ x, VR ρ u u := by
    intro ρ x hx u hu
    obtain ⟨g, _, rfl⟩ := List.mem_map.1 hx
    cases List.mem_singleton.1 hu
    exact .string _
  obtain ⟨hR, hW⟩ := start_of hG (cs := cs) (As := As) rfl (fun i c A hc hA => by
    match i, hc, hA with
    | 0, hc, hA =>
      cases hc; cases hA
      exact lies_plain r1 (by decide) (hpl _)
    | 1, hc, hA =>
      cases hc; cases hA
      exact lies_plain r2 (by decide) (hpl _)
    | i + 2, hc, hA => simp [cs] at hc)
  have hs1 : ∀ x ∈ txts gs, x.length = 1 := by obtain ⟨_, _, _, _, _, h, _⟩ := r1; exact h
  have hb : ∀ (k : Nat) (c : List Value), cs[k]? = some c → (heapOf cs).blk.get (12 + k) = some (.cells c 0 .ext) := by
    intro k c hk
    have : k < cs.length := (List.getElem?_eq_some_iff.1 hk).1
    simp only [heapOf]
    rw [lay_get, if_pos (by omega), Nat.add_sub_cancel_left, hk]; rfl
  have hrho : ∀ (k : Nat) (A : Option Addr) (a : Addr), As[k]? = some A → A = some a → rhoOf As (12 + k) = some ⟨a.block, a.off, 0, 0⟩ := by
    intro k A a h1 h2
    subst h2
    unfold rhoOf
    rw [if_neg (by omega), Nat.add_sub_cancel_left, h1]
  have d1 : Rd (heapOf cs) 1 (amv 12 v1 (txts gs)) (txts gs) := amv_rd hs1 (by simp only [heapOf, cs, List.length_cons, List.length_nil]; omega) (hb 0 _ rfl)
  have d2 : Rd (heapOf cs) 1 (amv (12 + 1) v2 (txts gs)) (txts gs) := amv_rd hs1 (by simp only [heapOf, cs, List.length_cons, List.length_nil]; omega) (hb 1 _ rfl)
  have e1 : VR (rhoOf As) (amv 12 v1 (txts gs)) v1 := amv_vr r1 fun a ha => hrho 0 _ a rfl ha
  have e2 : VR (rhoOf As) (amv (12 + 1) v2 (txts gs)) v2 := amv_vr r2 fun a ha => hrho 1 _ a rfl ha
  have a1 : VR (rhoOf As) (.agg #[.int .i64 n, amv 12 v1 (txts gs)]) (.agg #[.int .i64 n, v1]) := VR.agg_of (by exact .cons (.int _ _) (.cons e1 .nil))
  have a2 : VR (rhoOf As) (.agg #[.int .i64 n, amv (12 + 1) v2 (txts gs)]) (.agg #[.int .i64 n, v2]) := VR.agg_of (by exact .cons (.int _ _) (.cons e2 .nil))
  refine (Wf.told cfg_ok ⟨Tryz.f6, Tryz.func6, by decide, by kernel_rfl⟩ (compare_wf _ n _ _ gs d1 d2 hgl) hR hW (.cons a1 (.cons a2 .nil))).mono fun e w' ⟨v, H', v', ρ', hv, he, hr, hbl⟩ => ?_
  subst hv
  cases hr
  exact ⟨he, hbl⟩

theorem bytes_inj {a b : List ByteArray} (h : bytesOf a = bytesOf b) : a = b := by
  induction a generalizing b with
  | nil => cases b with
    | nil => rfl
    | cons y b => cases h
  | cons x a ih => cases b with
    | nil => cases h
    | cons y b =>
      simp only [List.map_cons, List.cons.injEq] at h
      rw [ih h.2]
      congr 1
      exact ByteArray.ext (Array.ext' h.1)

theorem strs_form {w : World} {v : Value} {gs : List ByteArray} (h : Strs w v gs) : ∃ a m c, v = .slice a m c := by
  obtain ⟨b, o, c, _, _, h3⟩ := h
  rcases h3 with ⟨_, A, rfl, _⟩ | ⟨rfl, _⟩
  · exact ⟨_, _, _, rfl⟩
  · exact ⟨_, _, _, rfl⟩
theorem cell_other {w : World} {a : Addr} {v : Value} {b o : Nat} (h : b ≠ a.block) : (w.setCell a v).cell? ⟨b, o, none⟩ = w.cell? ⟨b, o, none⟩ := by
  unfold World.cell?
  simp only [heap_setCell_other w a b v h]
/-- A cell of the call's own is written over: the texts stay. -/
theorem strs_store {w : World} {v : Value} {gs : List ByteArray} (h : Strs w v gs) {d : Nat} {x : Int} {a : Option Addr} {m c : Nat} {t : TypeId} (hd : w.heap[d]? = some (.cells #[.int .i64 x, .slice a m c] t (0, 0))) (u0 u1 : Value) : Strs ((w.setCell ⟨d, 0, none⟩ u0).setCell ⟨d, 1, none⟩ u1) v gs := by
  obtain ⟨b, o, cp, h1, h2, h3⟩ := h
  refine ⟨b, o, cp, h1, h2, ?_⟩
  rcases h3 with h3 | ⟨h3, h4, h5⟩
  · exact .inl h3
  · refine .inr ⟨h3, by simpa using h4, fun i g hi => ?_⟩
    have hc := h5 i g hi
    have hne : b ≠ d := by
      rintro rfl
      rw [Lib.cell_of_heap hd] at hc
      match hk : o + i, hc with
      | 0, hc => cases hc
      | 1, hc => cases hc
      | k + 2, hc => simp at hc
    rw [cell_other (by exact hne), cell_other (by exact hne)]
    exact hc
/-- Parse of a name. -/
theorem parse_yes (s : ByteArray) (hs : s.size ≤ 16777216) (w : World) (hG : Globs w) (n : Int) (h0 : -9223372036854775808 ≤ n) (h1 : n ≤ 9223372036854775807) (gs : List ByteArray) (h : s.data.toList = nameB n (bytesOf gs)) :
    Calls Tryz.prog 4 #[.string s] w fun e w' => ∃ a m c, e = .returned (.tuple #[.agg #[.int .i64 n, .slice a m c], .nilIface]) ∧ Strs w' (.slice a m c) gs ∧ Below w.heap.size w w' :=
  (parse_any s hs w hG).mono fun e w' ⟨hb, hm⟩ => by
    rw [h, parse_name n h0 h1] at hm
    obtain ⟨sl, gs', he, hst, hg⟩ := hm
    obtain rfl := bytes_inj hg
    obtain ⟨a, m, c, rfl⟩ := strs_form hst
    exact ⟨a, m, c, he, hst, hb⟩
theorem parse_bounds {l : List UInt8} {x : Int × List (List UInt8)} (h : parseB l = some x) : -9223372036854775808 ≤ x.1 ∧ x.1 ≤ 9223372036854775807 := by
  unfold parseB at h
  split at h
  · rename_i n hn
    have hb := Lib.parseIntB_bounds hn
    have e : (2 : Nat) ^ (64 - 1) = 9223372036854775808 := by decide
    rw [e] at hb
    split at h
    · split at h
      · cases h
        simp only
        omega
      · cases h
    · cases h
  · cases h
/-- Parse of any text. -/
def ParseAny (s : ByteArray) (w : World) (e : Ending) (w' : World) : Prop := Below w.heap.size w w' ∧
  ((∃ m a k c gs, e = .returned (.tuple #[.agg #[.int .i64 m, .slice a k c], .nilIface]) ∧ Strs w' (.slice a k c) gs ∧ -9223372036854775808 ≤ m ∧ m ≤ 9223372036854775807 ∧ s.data.toList = nameB m (bytesOf gs)) ∨
    ∃ t v, e = .returned (.tuple #[.agg #[.int .i64 0, .slice none 0 0], .iface t v]))
theorem parse_or (s : ByteArray) (hs : s.size ≤ 16777216) (w : World) (hG : Globs w) : Calls Tryz.prog 4 #[.string s] w (ParseAny s w) :=
  (parse_any s hs w hG).mono fun e w' ⟨hb, hm⟩ => by
    refine ⟨hb, ?_⟩
    cases hp : parseB s.data.toList with
    | none =>
      rw [hp] at hm
      obtain ⟨v, he⟩ := hm
      exact .inr ⟨_, _, he⟩
    | some x =>
      rw [hp] at hm
      obtain ⟨sl, gs, he, hst, hg⟩ := hm
      obtain ⟨a, k, c, rfl⟩ := strs_form hst
      have hsaid := parse_said (n := x.1) (gs := x.2) hp
      refine .inl ⟨x.1, a, k, c, gs, he, hst, ?_, ?_, by rw [hg, hsaid]⟩
      all_goals
        have hb := parse_bounds hp
        omega

set_option maxHeartbeats 8000000 in
set_option maxRecDepth 1000000 in
theorem law_calls (n : Int) (h0 : -9223372036854775808 ≤ n) (h1 : n ≤ 9223372036854775807) (sl : Value) (gs : List ByteArray) (s : ByteArray) (hsl : s.size ≤ 16777216) (w : World) (hG : Globs w) (hs : Strs w sl gs) (hl : (nameB n (bytesOf gs)).length ≤ 16777216) :
    Calls Tryz.prog 3 #[.agg #[.int .i64 n, sl], .string s] w fun e w' => e = .returned (.bool true) ∧ Below w.heap.size w w' := by
  obtain ⟨a0, m0, c0, rfl⟩ := strs_form hs
  have hgl : gs.length ≤ 4294967296 := by
    have := tail_len (bytesOf gs)
    rw [List.length_map] at this
    unfold nameB at hl
    rw [List.length_append] at hl
    omega
  have HG := Lib.hid hG
  have HS := Lib.hid hs
  have HL := Lib.hid hl
  clear hG hs hl
  have HB0 := Lib.hid ((Below.refl _ w).alloc (Nat.le_refl _) (.cells #[.int .i64 n, .slice a0 m0 c0] 24))
  go_enter Tryz.func3, Tryz.ntmps3
  go_wp2_with (go_at_call 5; refine (name_any n h0 h1 (.slice a0 m0 c0) gs _ (Globs.below HG.out HB0.out) (Strs.below HS.out HB0.out) (Nat.le_trans HL.out (by omega))).mono ?_)
  rintro e w1 ⟨S1, rfl, hS1, hb1⟩
  have HB1 := Lib.hid (HB0.out.trans (hb1.mono HB0.out.size))
  have hS1s : S1.size ≤ 16777216 := by rw [size_list, hS1]; exact HL.out
  have HS1 := Lib.hid hS1
  have bx1 : w1.cell? ⟨w.heap.size, 0, none⟩ = some (.int .i64 n) ∧ w1.cell? ⟨w.heap.size, 1, none⟩ = some (.slice a0 m0 c0) := by
    rw [hb1.cell (p := ⟨w.heap.size, 0, none⟩) (by simp), hb1.cell (p := ⟨w.heap.size, 1, none⟩) (by simp), box_cell, box_cell]
    exact ⟨rfl, rfl⟩
  have hz1 : w.heap.size < w1.heap.size := by have := hb1.size; simp at this; omega
  have HX1 := Lib.hid bx1
  clear hS1 hb1 bx1
  go_wp2_with (go_at_call 4; refine (parse_yes S1 hS1s _ (Globs.below HG.out HB1.out) n h0 h1 gs HS1.out).mono ?_)
  rintro e w2 ⟨a1, m1, c1, rfl, hst2, hb2⟩
  have HB2 := Lib.hid (HB1.out.trans (hb2.mono HB1.out.size))
  have bx2 : w2.cell? ⟨w.heap.size, 0, none⟩ = some (.int .i64 n) ∧ w2.cell? ⟨w.heap.size, 1, none⟩ = some (.slice a0 m0 c0) := by
    rw [hb2.cell (p := ⟨w.heap.size, 0, none⟩) hz1, hb2.cell (p := ⟨w.heap.size, 1, none⟩) hz1]
    exact HX1.out
  have hz2 : w.heap.size < w2.heap.size := by have := hb2.size; omega
  have HT2 := Lib.hid hst2
  obtain ⟨p2, q2⟩ := bx2
  clear hst2 hb2
  have HB3 := Lib.hid (HB2.out.alloc (by omega) (.cells #[.int .i64 n, .slice a1 m1 c1] 24))
  have HA := Lib.hid ((Below.refl _ w2).alloc (Nat.le_refl _) (.cells #[.int .i64 n, .slice a1 m1 c1] 24))
  go_wp2_with (go_at_call 6; refine (compare_any n (.slice a0 m0 c0) (.slice a1 m1 c1) gs hgl _ (Globs.below HG.out HB3.out) (Strs.below HS.out HB3.out) (Strs.below HT2.out HA.out)).mono ?_)
  rintro e w3 ⟨rfl, hb3⟩
  have HB4 := Lib.hid (HB3.out.trans (hb3.mono HB3.out.size))
  have hz3 : w2.heap.size < w3.heap.size := by have := hb3.size; simp at this; omega
  have d3 : w3.cell? ⟨w2.heap.size, 0, none⟩ = some (.int .i64 n) ∧ w3.cell? ⟨w2.heap.size, 1, none⟩ = some (.slice a1 m1 c1) := by
    rw [hb3.cell (p := ⟨w2.heap.size, 0, none⟩) (by simp), hb3.cell (p := ⟨w2.heap.size, 1, none⟩) (by simp), box_cell, box_cell]
    exact ⟨rfl, rfl⟩
  have hd3 : w3.heap[w2.heap.size]? = some (.cells #[.int .i64 n, .slice a1 m1 c1] 24 (0, 0)) := (hb3.block _ (by simp)).trans (alloc_new _ _)
  have HD3 := Lib.hid hd3
  clear hb3 p2 q2 d3 hd3
  go_wp2_with (go_at_call 4; refine (parse_or s hsl _ (Globs.below HG.out HB4.out)).mono ?_)
  rintro e w4 ⟨hb4, hm⟩
  have HB5 := Lib.hid (HB4.out.trans (hb4.mono HB4.out.size))
  have hd4 : w4.heap[w2.heap.size]? = some (.cells #[.int .i64 n, .slice a1 m1 c1] 24 (0, 0)) := (hb4.block _ hz3).trans HD3.out
  have hz4 : w2.heap.size < w4.heap.size := by have := hb4.size; omega
  have q0 : w4.cell? ⟨w2.heap.size, 0, none⟩ = some (.int .i64 n) := by rw [Lib.cell_of_heap hd4]; rfl
  have q1 : w4.cell? ⟨w2.heap.size, 1, none⟩ = some (.slice a1 m1 c1) := by rw [Lib.cell_of_heap hd4]; rfl
  have f0 : w4.frozen? ⟨w2.heap.size, 0, none⟩ = false := Lib.frozen_of_heap hd4 0
  have f1 : w4.frozen? ⟨w2.heap.size, 1, none⟩ = false := Lib.frozen_of_heap hd4 1
  have HD4 := Lib.hid hd4
  have HM := Lib.hid hm
  clear hb4 hd4 hm
  have hst5 : ∀ u0 u1 : Value, Below w.heap.size w ((w4.setCell ⟨w2.heap.size, 0, none⟩ u0).setCell ⟨w2.heap.size, 1, none⟩ u1) := fun u0 u1 => (HB5.out.setCell (p := ⟨w2.heap.size, 0, none⟩) (by show w.heap.size ≤ w2.heap.size; omega) _).setCell (p := ⟨w2.heap.size, 1, none⟩) (by show w.heap.size ≤ w2.heap.size; omega) _
  have HW := Lib.hid hst5
  clear hst5
  rcases HM.out with ⟨m, a2, k2, c2, gs2, rfl, hst, hm0, hm1, hsn⟩ | ⟨t, v, rfl⟩
  · have HT := Lib.hid (strs_store hst HD4.out (.int .i64 m) (.slice a2 k2 c2))
    have HSN := Lib.hid hsn
    have hd5 : ((w4.setCell ⟨w2.heap.size, 0, none⟩ (.int .i64 m)).setCell ⟨w2.heap.size, 1, none⟩ (.slice a2 k2 c2)).heap[w2.heap.size]? = some (.cells #[.int .i64 m, .slice a2 k2 c2] 24 (0, 0)) := by
      rw [heap_setCell_same _ _ 1 _ _ _ (heap_setCell_same w4 _ 0 _ _ _ HD4.out)]
      rfl
    have HD5 := Lib.hid hd5
    clear hst hsn hd5
    go_wp2_with (go_at_call 7; refine (YtdmdmfofcaeapaaGreatDoor.Am.live_calls _ (Globs.below HG.out (HW.out _ _))).mono ?_)
    rintro e w6 ⟨rfl, hb6⟩
    have HB6 := Lib.hid ((HW.out (.int .i64 m) (.slice a2 k2 c2)).trans (hb6.mono (HW.out (.int .i64 m) (.slice a2 k2 c2)).size))
    have HT6 := Lib.hid (Strs.below HT.out hb6)
    have hd6 := (hb6.block _ (Array.getElem?_eq_some_iff.1 HD5.out).1).trans HD5.out
    have r0 : w6.cell? ⟨w2.heap.size, 0, none⟩ = some (.int .i64 m) := by rw [Lib.cell_of_heap hd6]; rfl
    have r1 : w6.cell? ⟨w2.heap.size, 1, none⟩ = some (.slice a2 k2 c2) := by rw [Lib.cell_of_heap hd6]; rfl
    clear hb6 hd6 q0 q1 f0 f1
    go_wp2_with (go_at_call 5; refine (name_any m hm0 hm1 (.slice a2 k2 c2) gs2 _ (Globs.below HG.out HB6.out) HT6.out (by rw [← HSN.out, ← size_list]; omega)).mono ?_)
    rintro e w7 ⟨S3, rfl, hS3, hb7⟩
    have hE : S3 = s := ByteArray.ext (Array.ext' (hS3.trans HSN.out.symm))
    have HB7 := Lib.hid (HB6.out.trans (hb7.mono HB6.out.size))
    clear hS3 hb7 HSN
    subst hE
    go_wp2
    go_ret
    exact ⟨rfl, HB7.out⟩
  · go_wp2_with (go_at_call 7; refine (YtdmdmfofcaeapaaGreatDoor.Am.live_calls _ (Globs.below HG.out (HW.out _ _))).mono ?_)
    rintro e w6 ⟨rfl, hb6⟩
    have HB6 := Lib.hid ((HW.out (.int .i64 0) (.slice none 0 0)).trans (hb6.mono (HW.out (.int .i64 0) (.slice none 0 0)).size))
    clear hb6 q0 q1 f0 f1
    go_wp2
    go_ret
    exact ⟨rfl, HB6.out⟩
#print axioms law_calls
end Go.Proofs.YtdmdmfofcaeapaaGreatDoor.Back
