/- cell.Name: its contract. -/
import Derived.Test.YthfkednlgehchaaGreatDoorBase3
import Derived.Test.YthfkednlgehchaaGreatDoorEsc
import Derived.Lib.AppendIntMem
set_option linter.unusedVariables false
set_option linter.unusedSimpArgs false
namespace Go.Proofs.YthfkednlgehchaaGreatDoor.Name
open Go Go.RowKit Go.Proofs Go.Am Go.Proofs.YthfkednlgehchaaGreatDoor.Esc Go.Proofs.YthfkednlgehchaaGreatDoor.Base

theorem box_cell (w : World) (cs : Array Value) (t : TypeId) (i : Nat) : (w.alloc (.cells cs t)).cell? ⟨w.heap.size, i, none⟩ = cs[i]? := by
  unfold World.cell? World.alloc
  simp
/-- A slice of texts, in a world. -/
def Strs (w : World) (sl : Value) (gs : List ByteArray) : Prop :=
  ∃ b o c, gs.length ≤ c ∧ (gs = [] ∧ (∃ A, sl = .slice A 0 c ∧ (A = none → c = 0)) ∨ (sl = .slice (some ⟨b, o, none⟩) gs.length c ∧ b < w.heap.size ∧ ∀ (i : Nat) (g : ByteArray), gs[i]? = some g → w.cell? ⟨b, o + i, none⟩ = some (.string g)))
theorem Strs.below {w w' : World} {sl : Value} {gs : List ByteArray} (h : Strs w sl gs) (hb : Below w.heap.size w w') : Strs w' sl gs := by
  obtain ⟨b, o, c, h1, h3⟩ := h
  refine ⟨b, o, c, h1, ?_⟩
  rcases h3 with h3 | ⟨h3, h4, h5⟩
  · exact .inl h3
  · exact .inr ⟨h3, Nat.lt_of_lt_of_le h4 hb.size, fun i g hi => (hb.cell (p := ⟨b, o + i, none⟩) h4).trans (h5 i g hi)⟩

theorem fmt_any (n : Int) (h0 : -9223372036854775808 ≤ n) (h1 : n ≤ 9223372036854775807) (w : World) (hG : Globs w) :
    Calls Tryz.prog 28 #[.int .i64 n, .int .i64 10] w fun e w' => ∃ S : ByteArray, e = .returned (.string S) ∧ S.data.toList = Lib.itoa n ∧ Below w.heap.size w w' :=
  (Tryz.strconv_FormatInt_10 n h0 h1 w hG.pow).mono fun e w' ⟨he, k, os, hw⟩ => ⟨_, he, rfl, by subst hw; exact Lib.below_grow _ _ (Nat.le_refl _) _ _⟩
theorem esc_any (s : ByteArray) (w : World) (hs : s.size ≤ 35184372088832) :
    Calls Tryz.prog 29 #[.string s] w fun e w' => ∃ E : ByteArray, e = .returned (.string E) ∧ E.data.toList = esc s.data.toList ∧ Below w.heap.size w w' :=
  (escape_any s w hs).mono fun e w' ⟨he, hb⟩ => ⟨_, he, rfl, hb⟩

abbrev bytesOf (gs : List ByteArray) : List (List UInt8) := gs.map fun g => g.data.toList
theorem add_list (a b : ByteArray) : (a ++ b).data.toList = a.data.toList ++ b.data.toList := by
  simp
theorem size_list (a : ByteArray) : a.size = a.data.toList.length := by rw [Array.length_toList]; rfl
theorem tail_snoc (gs : List (List UInt8)) (g : List UInt8) : tailB (gs ++ [g]) = tailB gs ++ (44 :: esc g) := by simp [tailB]
theorem tail_take (gs : List (List UInt8)) (k : Nat) : (tailB (gs.take k)).length ≤ (tailB gs).length := by
  have e : tailB gs = tailB (gs.take k) ++ tailB (gs.drop k) := by
    unfold tailB
    rw [← List.flatten_append, ← List.map_append, List.take_append_drop]
  rw [e, List.length_append]
  omega

theorem esc_ge (g : List UInt8) : g.length ≤ (esc g).length := by
  induction g with
  | nil => exact Nat.le_refl _
  | cons c r ih =>
    rw [esc]
    split <;> simp only [List.length_cons] <;> omega
theorem bytes_take {gs : List ByteArray} {k : Nat} {g : ByteArray} (h : gs[k]? = some g) : bytesOf (gs.take (k + 1)) = bytesOf (gs.take k) ++ [g.data.toList] := by
  rw [List.take_add_one, h]
  simp
theorem bytes_take2 (gs : List ByteArray) (k : Nat) : bytesOf (gs.take k) = (bytesOf gs).take k := by simp
/-- What a text's place in the name asks. -/
theorem room {gs : List ByteArray} {k : Nat} {g : ByteArray} (h : gs[k]? = some g) : (tailB (bytesOf (gs.take k))).length + 1 + (esc g.data.toList).length ≤ (tailB (bytesOf gs)).length := by
  have h1 := tail_take (bytesOf gs) (k + 1)
  rw [← bytes_take2, bytes_take h, tail_snoc, List.length_append, List.length_cons] at h1
  omega

set_option maxHeartbeats 4000000 in
set_option maxRecDepth 1000000 in
theorem name_none (n : Int) (h0 : -9223372036854775808 ≤ n) (h1 : n ≤ 9223372036854775807) (A : Option Addr) (c : Nat) (w : World) (hG : Globs w) :
    Calls Tryz.prog 11 #[.agg #[.int .i64 n, .slice A 0 c]] w fun e w' => ∃ S : ByteArray, e = .returned (.string S) ∧ S.data.toList = nameB n [] ∧ Below w.heap.size w w' := by
  have HG := Lib.hid hG
  clear hG
  go_enter Tryz.func11, Tryz.ntmps11
  go_wp2_with (go_at_call 28; refine (fmt_any n h0 h1 _ (Globs.below HG.out ((Below.refl _ w).alloc (Nat.le_refl _) _))).mono ?_)
  rintro e w1 ⟨S0, rfl, hS0, hb1⟩
  have HS0 := Lib.hid hS0
  have hz1 := hb1.size
  simp only [World.size_alloc] at hz1
  have hbox : w1.cell? ⟨w.heap.size, 1, none⟩ = some (.slice A 0 c) := by
    rw [hb1.cell (p := ⟨w.heap.size, 1, none⟩) (by simp)]
    rw [box_cell]; rfl
  have hbw1 : Below w.heap.size w w1 := ((Below.refl _ w).alloc (Nat.le_refl _) _).trans (hb1.mono (by simp))
  clear hS0 hb1
  go_wp2
  go_loopw [3, 12] (fun s i wr => s = .string S0 ∧ i = .int .i64 0 ∧ Below w.heap.size w wr) (fun _ _ _ => 0)
  case atStart => exact ⟨rfl, rfl, hbw1⟩
  case round =>
    obtain ⟨rfl, rfl, hb⟩ := hrel
    go_wp2
    go_ret
    refine ⟨S0, rfl, ?_, hb⟩
    rw [HS0.out]
    simp [nameB, tailB]

set_option maxHeartbeats 4000000 in
set_option maxRecDepth 1000000 in
theorem name_any (n : Int) (h0 : -9223372036854775808 ≤ n) (h1 : n ≤ 9223372036854775807) (sl : Value) (gs : List ByteArray) (w : World) (hG : Globs w) (hs : Strs w sl gs) (hl : (nameB n (bytesOf gs)).length ≤ 35184372088832) :
    Calls Tryz.prog 11 #[.agg #[.int .i64 n, sl]] w fun e w' => ∃ S : ByteArray, e = .returned (.string S) ∧ S.data.toList = nameB n (bytesOf gs) ∧ Below w.heap.size w w' := by
  obtain ⟨b, o, c, hc1, hcs⟩ := hs
  rcases hcs with ⟨rfl, A, rfl, _⟩ | ⟨rfl, hb0, hA⟩
  · exact name_none n h0 h1 A c w hG
  unfold nameB at hl
  rw [List.length_append] at hl
  have hgl : gs.length ≤ 35184372088832 := by
    have := tail_len (bytesOf gs)
    rw [List.length_map] at this
    omega
  have HA := Lib.hid hA
  have HG := Lib.hid hG
  have HL := Lib.hid hl
  clear hA hG hl
  go_enter Tryz.func11, Tryz.ntmps11
  go_wp2_with (go_at_call 28; refine (fmt_any n h0 h1 _ (Globs.below HG.out ((Below.refl _ w).alloc (Nat.le_refl _) _))).mono ?_)
  rintro e w1 ⟨S0, rfl, hS0, hb1⟩
  have HS0 := Lib.hid hS0
  have hz1 := hb1.size
  simp only [World.size_alloc] at hz1
  have hbox : w1.cell? ⟨w.heap.size, 1, none⟩ = some (.slice (some ⟨b, o, none⟩) gs.length c) := by
    rw [hb1.cell (p := ⟨w.heap.size, 1, none⟩) (by simp)]
    rw [box_cell]; rfl
  have hbw1 : Below w.heap.size w w1 := ((Below.refl _ w).alloc (Nat.le_refl _) _).trans (hb1.mono (by simp))
  have HBW := Lib.hid hbw1
  clear hS0 hb1 hbw1
  go_wp2
  go_loopw [3, 12] (fun s i wr => ∃ (k : Nat) (S : ByteArray), k ≤ gs.length ∧ i = .int .i64 k ∧ s = .string S ∧ Hid (S.data.toList = Lib.itoa n ++ tailB (bytesOf (gs.take k))) ∧ Hid (Below w.heap.size w wr)) (fun _ i _ => gs.length - (intOf i).toNat)
  case atStart => exact ⟨0, S0, Nat.zero_le _, rfl, rfl, Lib.hid (by rw [HS0.out]; simp [tailB]), HBW⟩
  case round =>
    obtain ⟨k, S, hk, rfl, rfl, HS, HB⟩ := hrel
    by_cases hlt : k < gs.length
    · obtain ⟨g, hg⟩ : ∃ g, gs[k]? = some g := ⟨_, List.getElem?_eq_getElem hlt⟩
      have hcell : wr.cell? ⟨b, o + k, none⟩ = some (.string g) := (HB.out.cell (p := ⟨b, o + k, none⟩) hb0).trans (HA.out k g hg)
      have hr := room hg
      have hge := esc_ge g.data.toList
      have hgs : g.size ≤ 35184372088832 := by rw [size_list]; have := HL.out; omega
      have hSs : S.size ≤ 35184372088832 := by rw [size_list, HS.out, List.length_append]; have := HL.out; omega
      have HR := Lib.hid hr
      have Hg := Lib.hid hg
      clear hr hge hg
      go_wp2_with (go_at_call 29; refine (esc_any g _ hgs).mono ?_)
      rintro e w2 ⟨E, rfl, hE, hb2⟩
      have hEs : E.size ≤ 35184372088832 := by rw [size_list, hE]; have := HL.out; have := HR.out; omega
      have HE := Lib.hid hE
      have HB2 := Lib.hid (HB.out.trans (hb2.mono HB.out.size))
      clear hE hb2
      go_wp2
      go_roundw
      case rel =>
        refine ⟨k + 1, _, by omega, by go_num, rfl, Lib.hid ?_, HB2⟩
        rw [add_list, add_list, HS.out, HE.out, bytes_take Hg.out, tail_snoc]
        simp
      case measure => simp [intOf]; omega
    · obtain rfl : k = gs.length := by omega
      go_wp2
      go_ret
      refine ⟨S, rfl, ?_, HB.out⟩
      rw [HS.out, List.take_length]
      rfl
end Go.Proofs.YthfkednlgehchaaGreatDoor.Name
