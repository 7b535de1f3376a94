/- weirref23.Name: its contract. -/
import Derived.Test.YthfkednlgehchaaGreatDoorRefEsc
import Derived.Lib.AppendIntMem
set_option linter.unusedVariables false
set_option linter.unusedSimpArgs false
namespace Go.Proofs.YthfkednlgehchaaGreatDoor.RefName
open Go Go.RowKit Go.Proofs Go.Am Go.Proofs.YthfkednlgehchaaGreatDoor.Esc Go.Proofs.YthfkednlgehchaaGreatDoor.Base Go.Proofs.YthfkednlgehchaaGreatDoor.Name

theorem esc_ref (s : ByteArray) (w : World) (hs : s.size ≤ 35184372088832) :
    Calls Tryz.prog 30 #[.string s] w fun e w' => ∃ E : ByteArray, e = .returned (.string E) ∧ E.data.toList = esc s.data.toList ∧ Below w.heap.size w w' :=
  (RefEsc.escape_any s w hs).mono fun e w' ⟨E, he, h, hw⟩ => ⟨E, he, h, hw ▸ Below.refl _ _⟩

set_option maxHeartbeats 4000000 in
set_option maxRecDepth 1000000 in
theorem name_none (n : Int) (h0 : -9223372036854775808 ≤ n) (h1 : n ≤ 9223372036854775807) (A : Option Addr) (c : Nat) (w : World) (hG : Globs w) :
    Calls Tryz.prog 12 #[.agg #[.int .i64 n, .slice A 0 c]] w fun e w' => ∃ S : ByteArray, e = .returned (.string S) ∧ S.data.toList = nameB n [] ∧ Below w.heap.size w w' := by
  have HG := Lib.hid hG
  clear hG
  go_enter Tryz.func12, Tryz.ntmps12
  go_wp2_with (go_at_call 28; refine (fmt_any n h0 h1 _ (Globs.below HG.out ((Below.refl _ w).alloc (Nat.le_refl _) _))).mono ?_)
  rintro e w1 ⟨S0, rfl, hS0, hb1⟩
  have HS0 := Lib.hid hS0
  have hz1 := hb1.size
  simp only [World.size_alloc] at hz1
  have hbox : w1.cell? ⟨w.heap.size, 1, none⟩ = some (.slice A 0 c) := by
    rw [hb1.cell (p := ⟨w.heap.size, 1, none⟩) (by simp)]
    rw [box_cell]; rfl
  have hbw1 : Below w.heap.size w w1 := ((Below.refl _ w).alloc (Nat.le_refl _) _).trans (hb1.mono (by simp))
  clear hS0 hb1
  go_wp2
  go_loopw [3, 4] (fun s i wr => s = .string S0 ∧ i = .int .i64 0 ∧ Below w.heap.size w wr ∧ wr.cell? ⟨w.heap.size, 1, none⟩ = some (.slice A 0 c)) (fun _ _ _ => 0)
  case atStart => exact ⟨rfl, rfl, hbw1, hbox⟩
  case round =>
    obtain ⟨rfl, rfl, hb, hbx⟩ := hrel
    go_wp2
    go_ret
    refine ⟨S0, rfl, ?_, hb⟩
    rw [HS0.out]
    simp [nameB, tailB]

set_option maxHeartbeats 4000000 in
set_option maxRecDepth 1000000 in
theorem name_any (n : Int) (h0 : -9223372036854775808 ≤ n) (h1 : n ≤ 9223372036854775807) (sl : Value) (gs : List ByteArray) (w : World) (hG : Globs w) (hs : Strs w sl gs) (hl : (nameB n (bytesOf gs)).length ≤ 35184372088832) :
    Calls Tryz.prog 12 #[.agg #[.int .i64 n, sl]] w fun e w' => ∃ S : ByteArray, e = .returned (.string S) ∧ S.data.toList = nameB n (bytesOf gs) ∧ Below w.heap.size w w' := by
  obtain ⟨b, o, c, hc1, hcs⟩ := hs
  rcases hcs with ⟨rfl, A, rfl, _⟩ | ⟨rfl, hb0, hA⟩
  · exact name_none n h0 h1 A c w hG
  unfold nameB at hl
  rw [List.length_append] at hl
  have hgl : gs.length ≤ 35184372088832 := by
    have := tail_len (bytesOf gs)
    rw [List.length_map] at this
    omega
  have HA := Lib.hid hA
  have HG := Lib.hid hG
  have HL := Lib.hid hl
  clear hA hG hl
  go_enter Tryz.func12, Tryz.ntmps12
  go_wp2_with (go_at_call 28; refine (fmt_any n h0 h1 _ (Globs.below HG.out ((Below.refl _ w).alloc (Nat.le_refl _) _))).mono ?_)
  rintro e w1 ⟨S0, rfl, hS0, hb1⟩
  have HS0 := Lib.hid hS0
  have hz1 := hb1.size
  simp only [World.size_alloc] at hz1
  have hbox : w1.cell? ⟨w.heap.size, 1, none⟩ = some (.slice (some ⟨b, o, none⟩) gs.length c) := by
    rw [hb1.cell (p := ⟨w.heap.size, 1, none⟩) (by simp)]
    rw [box_cell]; rfl
  have hbw1 : Below w.heap.size w w1 := ((Below.refl _ w).alloc (Nat.le_refl _) _).trans (hb1.mono (by simp))
  have HBW := Lib.hid hbw1
  clear hS0 hb1 hbw1
  go_wp2
  go_loopw [3, 4] (fun s i wr => ∃ (k : Nat) (S : ByteArray), wr.cell? ⟨w.heap.size, 1, none⟩ = some (.slice (some ⟨b, o, none⟩) gs.length c) ∧ w.heap.size < wr.heap.size ∧ k ≤ gs.length ∧ i = .int .i64 k ∧ s = .string S ∧ Hid (S.data.toList = Lib.itoa n ++ tailB (bytesOf (gs.take k))) ∧ Hid (Below w.heap.size w wr)) (fun _ i _ => gs.length - (intOf i).toNat)
  case atStart => exact ⟨0, S0, hbox, by omega, Nat.zero_le _, rfl, rfl, Lib.hid (by rw [HS0.out]; simp [tailB]), HBW⟩
  case round =>
    obtain ⟨k, S, hbx, hwl, hk, rfl, rfl, HS, HB⟩ := hrel
    by_cases hlt : k < gs.length
    · obtain ⟨g, hg⟩ : ∃ g, gs[k]? = some g := ⟨_, List.getElem?_eq_getElem hlt⟩
      have hcell : wr.cell? ⟨b, o + k, none⟩ = some (.string g) := (HB.out.cell (p := ⟨b, o + k, none⟩) hb0).trans (HA.out k g hg)
      have hr := room hg
      have hge := esc_ge g.data.toList
      have hgs : g.size ≤ 35184372088832 := by rw [size_list]; have := HL.out; omega
      have hSs : S.size ≤ 35184372088832 := by rw [size_list, HS.out, List.length_append]; have := HL.out; omega
      have HR := Lib.hid hr
      have Hg := Lib.hid hg
      clear hr hge hg
      go_wp2_with (go_at_call 30; refine (esc_ref g _ hgs).mono ?_)
      rintro e w2 ⟨E, rfl, hE, hb2⟩
      have hEs : E.size ≤ 35184372088832 := by rw [size_list, hE]; have := HL.out; have := HR.out; omega
      have HE := Lib.hid hE
      have hbx2 := (hb2.cell (p := ⟨w.heap.size, 1, none⟩) hwl).trans hbx
      have hwl2 : w.heap.size < w2.heap.size := Nat.lt_of_lt_of_le hwl hb2.size
      have HB2 := Lib.hid (HB.out.trans (hb2.mono HB.out.size))
      clear hE hb2
      go_wp2
      go_roundw
      case rel =>
        refine ⟨k + 1, _, hbx2, hwl2, by omega, by go_num, rfl, Lib.hid ?_, HB2⟩
        rw [add_list, add_list, HS.out, HE.out, bytes_take Hg.out, tail_snoc]
        simp
      case measure => simp [intOf]; omega
    · obtain rfl : k = gs.length := by omega
      go_wp2
      go_ret
      refine ⟨S, rfl, ?_, HB.out⟩
      rw [HS.out, List.take_length]
      rfl
end Go.Proofs.YthfkednlgehchaaGreatDoor.RefName
