/- key.Group and weirref05.Group; cell.Of and weirref23.Of: their contracts. -/
import Derived.Test.YthfkednlgehchaaGreatDoorOf
set_option linter.unusedVariables false
set_option linter.unusedSimpArgs false
namespace Go.Proofs.YthfkednlgehchaaGreatDoor.Of
open Go Go.RowKit Go.Proofs Go.Am Go.Proofs.YthfkednlgehchaaGreatDoor.Base Go.Proofs.YthfkednlgehchaaGreatDoor.Name Go.Joins
open Go.Proofs.YthfkednlgehchaaGreatDoor.Parse (own_below own_form own_ne own_strs alloc_new)
open Go.Proofs.YthfkednlgehchaaGreatDoor.RefEsc (fine badOf)

theorem text_yes {a b : ByteArray} (h : a = b) : (a.toList == b.toList) = true := by rw [h]; simp

/-! ### groups -/
set_option maxHeartbeats 4000000 in
theorem ref_value (sl : Value) (ts : List (ByteArray × ByteArray)) (n : ByteArray) (w : World) (hT : Tags w sl ts) (hl : ts.length ≤ 9223372036854775807) :
    Calls Tryz.prog 36 #[sl, .string n] w (Ret (.string (valOf ts n)) w) := by
  rcases hT.shape with ⟨rfl, A, c, rfl⟩ | ⟨hne, b, o, c, rfl, hb0, hA⟩
  · go_enter Tryz.func36, Tryz.ntmps36
    go_wp2
    go_loopw [5] (fun i wr => i = .int .i64 0 ∧ wr = w) (fun _ _ => 0)
    case atStart => exact ⟨rfl, rfl⟩
    case round =>
      obtain ⟨rfl, rfl⟩ := hrel
      go_wp2
      go_ret
      exact ⟨rfl, Below.refl _ _⟩
  · have HA := Lib.hid hA
    clear hA
    go_enter Tryz.func36, Tryz.ntmps36
    go_wp2
    go_loopw [5] (fun i wr => ∃ k : Nat, k ≤ ts.length ∧ i = .int .i64 k ∧ wr = w ∧ Hid (valOf ts n = valOf (ts.drop k) n)) (fun i _ => ts.length - (intOf i).toNat)
    case atStart => exact ⟨0, Nat.zero_le _, rfl, rfl, Lib.hid rfl⟩
    case round =>
      obtain ⟨k, hk, rfl, rfl, HV⟩ := hrel
      by_cases hlt : k < ts.length
      · obtain ⟨t, ht⟩ : ∃ t, ts[k]? = some t := ⟨_, List.getElem?_eq_getElem hlt⟩
        obtain ⟨c0, c1⟩ := HA.out k t ht
        have Ht := Lib.hid ht
        clear ht
        by_cases he : t.1 = n
        · have g := text_yes he
          have HE := Lib.hid he
          clear he
          go_wp2
          go_ret
          refine ⟨?_, Below.refl _ _⟩
          rw [HV.out, valOf_drop_yes Ht.out HE.out]
          rfl
        · have g := text_ne he
          have HE := Lib.hid he
          clear he
          go_wp2
          go_roundw
          case rel => exact ⟨k + 1, by omega, by go_num, trivial, Lib.hid (by rw [HV.out, valOf_drop_no Ht.out HE.out])⟩
          case measure => simp [intOf]; omega
      · obtain rfl : k = ts.length := by omega
        go_wp2
        go_ret
        refine ⟨?_, Below.refl _ _⟩
        rw [HV.out, List.drop_length]
        rfl

set_option maxHeartbeats 4000000 in
theorem key_value (sl : Value) (ts : List (ByteArray × ByteArray)) (n : ByteArray) (w : World) (hT : Tags w sl ts) (hl : ts.length ≤ 9223372036854775807) :
    Calls Tryz.prog 33 #[sl, .string n] w (Ret (.string (valOf ts n)) w) := by
  rcases hT.shape with ⟨rfl, A, c, rfl⟩ | ⟨hne, b, o, c, rfl, hb0, hA⟩
  · go_enter Tryz.func33, Tryz.ntmps33
    go_wp2
    go_loopw [9] (fun i wr => i = .int .i64 0 ∧ wr = w) (fun _ _ => 0)
    case atStart => exact ⟨rfl, rfl⟩
    case round =>
      obtain ⟨rfl, rfl⟩ := hrel
      go_wp2
      go_ret
      exact ⟨rfl, Below.refl _ _⟩
  · have HA := Lib.hid hA
    clear hA
    go_enter Tryz.func33, Tryz.ntmps33
    go_wp2
    go_loopw [9] (fun i wr => ∃ k : Nat, k ≤ ts.length ∧ i = .int .i64 k ∧ Hid (Below w.heap.size w wr) ∧ Hid (valOf ts n = valOf (ts.drop k) n)) (fun i _ => ts.length - (intOf i).toNat)
    case atStart => exact ⟨0, Nat.zero_le _, rfl, Lib.hid (Below.refl _ _), Lib.hid rfl⟩
    case round =>
      obtain ⟨k, hk, rfl, HB, HV⟩ := hrel
      by_cases hlt : k < ts.length
      · obtain ⟨t, ht⟩ : ∃ t, ts[k]? = some t := ⟨_, List.getElem?_eq_getElem hlt⟩
        obtain ⟨c0, c1⟩ := HA.out k t ht
        have d0 := (HB.out.cell (p := ⟨b, o + k * 2, none⟩) hb0).trans c0
        have d1 := (HB.out.cell (p := ⟨b, o + k * 2 + 1, none⟩) hb0).trans c1
        have HB2 := Lib.hid (HB.out.alloc HB.out.size (.cells #[.string t.1, .string t.2] 143))
        have Ht := Lib.hid ht
        clear ht c0 c1
        by_cases he : t.1 = n
        · have g := text_yes he
          have HE := Lib.hid he
          clear he
          go_wp2
          go_ret
          refine ⟨?_, HB2.out⟩
          rw [HV.out, valOf_drop_yes Ht.out HE.out]
          rfl
        · have g := text_ne he
          have HE := Lib.hid he
          clear he
          go_wp2
          go_roundw
          case rel => exact ⟨k + 1, by omega, by go_num, HB2, Lib.hid (by rw [HV.out, valOf_drop_no Ht.out HE.out])⟩
          case measure => simp [intOf]; omega
      · obtain rfl : k = ts.length := by omega
        go_wp2
        go_ret
        refine ⟨?_, HB.out⟩
        rw [HV.out, List.drop_length]
        rfl

def GroupPost (gs : List ByteArray) (w : World) (e : Ending) (w' : World) : Prop := Below w.heap.size w w' ∧ ∃ sl, e = .returned sl ∧ Strs w' sl gs

set_option maxHeartbeats 4000000 in
set_option maxRecDepth 100000 in
theorem ref_group (st sg : Value) (ts : List (ByteArray × ByteArray)) (gs : List ByteArray) (w : World) (hT : Tags w st ts) (hl : ts.length ≤ 9223372036854775807) (hg : Strs w sg gs) (hgl : gs.length ≤ 2097152) :
    Calls Tryz.prog 18 #[st, sg] w (GroupPost (grp ts gs) w) := by
  rcases strs_shape hg with ⟨rfl, A, c, rfl⟩ | ⟨hne, b, o, c, rfl, hb0, hA⟩
  · go_enter Tryz.func18, Tryz.ntmps18
    go_wp2
    go_loopw [5, 6] (fun v i wr => v = .slice none 0 0 ∧ i = .int .i64 0 ∧ wr = w) (fun _ _ _ => 0)
    case atStart => exact ⟨rfl, rfl, rfl⟩
    case round =>
      obtain ⟨rfl, rfl, rfl⟩ := hrel
      go_wp2
      go_ret
      exact ⟨Below.refl _ _, _, rfl, ⟨0, 0, 0, Nat.le_refl _, .inl ⟨rfl, none, rfl, fun _ => rfl⟩⟩⟩
  · have HA := Lib.hid hA
    have HT := Lib.hid hT
    clear hA hT
    go_enter Tryz.func18, Tryz.ntmps18
    go_wp2
    go_loopw [5, 6] (fun v i wr => ∃ k : Nat, k ≤ gs.length ∧ i = .int .i64 k ∧ Hid (Below w.heap.size w wr) ∧ Hid (wr.ownsRow w.heap.size 9 1 v k ((grp ts (gs.take k)).map Value.string))) (fun _ i _ => gs.length - (intOf i).toNat)
    case atStart => exact ⟨0, Nat.zero_le _, rfl, Lib.hid (Below.refl _ _), Lib.hid (World.ownsRow_nil _ _ _ _)⟩
    case round =>
      obtain ⟨k, hk, rfl, HB, HO⟩ := hrel
      by_cases hlt : k < gs.length
      · obtain ⟨g, hgk⟩ : ∃ g, gs[k]? = some g := ⟨_, List.getElem?_eq_getElem hlt⟩
        have c0 := (HB.out.cell (p := ⟨b, o + k, none⟩) hb0).trans (HA.out k g hgk)
        have HG := Lib.hid hgk
        clear hgk
        go_wp2_with (go_at_call 36; refine (ref_value st ts g _ (HT.out.below HB.out) hl).mono ?_)
        rintro e w2 hret
        obtain ⟨rfl, hb2⟩ := hret
        have hown2 := own_below HO.out hb2
        have HB2 := Lib.hid (HB.out.trans (hb2.mono HB.out.size))
        have hz2 := HB2.out.size
        obtain ⟨va, vn, vc, rfl⟩ := own_form hown2
        obtain ⟨i0, hi, hi0, hi1, hi2⟩ := info_parts (P := Tryz.prog) (e := 9) (z := .string ByteArray.empty) (size := 1) (bytes := 16) (by kernel_rfl)
        clear hb2
        go_wp2_with (at_builtin; refine wpList_append_own _ rfl _ _ 22 rfl w.heap.size 9 i0 (.string ByteArray.empty) 1 16 Tryz.underlying22 hi hi0 hi1 hi2 rfl (by decide) _ _ _ rfl (hown2.alloc _) ⟨w2.heap.size, 0, none⟩ 1 1 [.string (valOf ts g)] rfl rfl (cell_one_new _ _ _) (fun x hx => by simp at hx; subst hx; rfl) (by unfold maxLen; omega) (by omega) (by simp; omega) ?_)
        intro v' w4 hown' hgrow _
        have HB4 := Lib.hid ((HB2.out.alloc (by omega) _).grown hgrow (by simp; omega) (fun k hk => (hown2.lt k hk).1))
        have HO4 : Hid (w4.ownsRow w.heap.size 9 1 v' (k + 1) ((grp ts (gs.take (k + 1))).map Value.string)) := Lib.hid (by
          rw [List.take_add_one, HG.out]
          simpa [grp] using hown')
        obtain ⟨vb, vm, vd, rfl⟩ := own_form hown'
        clear hown' hgrow hown2 hi hi0 hi1 hi2
        go_wp2
        go_roundw
        case rel => exact ⟨k + 1, by omega, by go_num, HB4, HO4⟩
        case measure => simp [intOf]; omega
      · obtain rfl : k = gs.length := by omega
        obtain ⟨va, vn, vc, rfl⟩ := own_form HO.out
        have hst : Strs wr (.slice va vn vc) (grp ts gs) := own_strs (by have := HO.out; rw [List.take_length] at this; simpa [grp] using this)
        have HST := Lib.hid hst
        clear hst
        go_wp2
        go_ret
        exact ⟨HB.out, _, rfl, HST.out⟩

set_option maxHeartbeats 4000000 in
set_option maxRecDepth 100000 in
theorem key_group (st sg : Value) (ts : List (ByteArray × ByteArray)) (gs : List ByteArray) (w : World) (hT : Tags w st ts) (hl : ts.length ≤ 9223372036854775807) (hg : Strs w sg gs) (hgl : gs.length ≤ 2097152) :
    Calls Tryz.prog 15 #[st, sg] w (GroupPost (grp ts gs) w) := by
  rcases strs_shape hg with ⟨rfl, A, c, rfl⟩ | ⟨hne, b, o, c, rfl, hb0, hA⟩
  · go_enter Tryz.func15, Tryz.ntmps15
    go_wp2
    go_loopw [5, 10] (fun v i wr => v = .slice none 0 0 ∧ i = .int .i64 0 ∧ wr = w) (fun _ _ _ => 0)
    case atStart => exact ⟨rfl, rfl, rfl⟩
    case round =>
      obtain ⟨rfl, rfl, rfl⟩ := hrel
      go_wp2
      go_ret
      exact ⟨Below.refl _ _, _, rfl, ⟨0, 0, 0, Nat.le_refl _, .inl ⟨rfl, none, rfl, fun _ => rfl⟩⟩⟩
  · have HA := Lib.hid hA
    have HT := Lib.hid hT
    clear hA hT
    go_enter Tryz.func15, Tryz.ntmps15
    go_wp2
    go_loopw [5, 10] (fun v i wr => ∃ k : Nat, k ≤ gs.length ∧ i = .int .i64 k ∧ Hid (Below w.heap.size w wr) ∧ Hid (wr.ownsRow w.heap.size 9 1 v k ((grp ts (gs.take k)).map Value.string))) (fun _ i _ => gs.length - (intOf i).toNat)
    case atStart => exact ⟨0, Nat.zero_le _, rfl, Lib.hid (Below.refl _ _), Lib.hid (World.ownsRow_nil _ _ _ _)⟩
    case round =>
      obtain ⟨k, hk, rfl, HB, HO⟩ := hrel
      by_cases hlt : k < gs.length
      · obtain ⟨g, hgk⟩ : ∃ g, gs[k]? = some g := ⟨_, List.getElem?_eq_getElem hlt⟩
        have c0 := (HB.out.cell (p := ⟨b, o + k, none⟩) hb0).trans (HA.out k g hgk)
        have HG := Lib.hid hgk
        clear hgk
        go_wp2_with (go_at_call 33; refine (key_value st ts g _ (HT.out.below HB.out) hl).mono ?_)
        rintro e w2 hret
        obtain ⟨rfl, hb2⟩ := hret
        have hown2 := own_below HO.out hb2
        have HB2 := Lib.hid (HB.out.trans (hb2.mono HB.out.size))
        have hz2 := HB2.out.size
        obtain ⟨va, vn, vc, rfl⟩ := own_form hown2
        obtain ⟨i0, hi, hi0, hi1, hi2⟩ := info_parts (P := Tryz.prog) (e := 9) (z := .string ByteArray.empty) (size := 1) (bytes := 16) (by kernel_rfl)
        clear hb2
        go_wp2_with (at_builtin; refine wpList_append_own _ rfl _ _ 22 rfl w.heap.size 9 i0 (.string ByteArray.empty) 1 16 Tryz.underlying22 hi hi0 hi1 hi2 rfl (by decide) _ _ _ rfl (hown2.alloc _) ⟨w2.heap.size, 0, none⟩ 1 1 [.string (valOf ts g)] rfl rfl (cell_one_new _ _ _) (fun x hx => by simp at hx; subst hx; rfl) (by unfold maxLen; omega) (by omega) (by simp; omega) ?_)
        intro v' w4 hown' hgrow _
        have HB4 := Lib.hid ((HB2.out.alloc (by omega) _).grown hgrow (by simp; omega) (fun k hk => (hown2.lt k hk).1))
        have HO4 : Hid (w4.ownsRow w.heap.size 9 1 v' (k + 1) ((grp ts (gs.take (k + 1))).map Value.string)) := Lib.hid (by
          rw [List.take_add_one, HG.out]
          simpa [grp] using hown')
        obtain ⟨vb, vm, vd, rfl⟩ := own_form hown'
        clear hown' hgrow hown2 hi hi0 hi1 hi2
        go_wp2
        go_roundw
        case rel => exact ⟨k + 1, by omega, by go_num, HB4, HO4⟩
        case measure => simp [intOf]; omega
      · obtain rfl : k = gs.length := by omega
        obtain ⟨va, vn, vc, rfl⟩ := own_form HO.out
        have hst : Strs wr (.slice va vn vc) (grp ts gs) := own_strs (by have := HO.out; rw [List.take_length] at this; simpa [grp] using this)
        have HST := Lib.hid hst
        clear hst
        go_wp2
        go_ret
        exact ⟨HB.out, _, rfl, HST.out⟩
end Go.Proofs.YthfkednlgehchaaGreatDoor.Of
