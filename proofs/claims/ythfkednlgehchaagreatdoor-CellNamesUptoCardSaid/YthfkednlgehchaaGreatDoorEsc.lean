/- key.Escape and key.Unescape: their contracts. -/
import Derived.Test.YthfkednlgehchaaGreatDoorShelfB
import Derived.Test.YthfkednlgehchaaGreatDoorShelf
import Derived.Test.YthfkednlgehchaaGreatDoorBackPure
import Derived.WalkKit
import Derived.BigCall
import Derived.OwnWalk
set_option linter.unusedVariables false
set_option linter.unusedSimpArgs false
namespace Go.Proofs.YthfkednlgehchaaGreatDoor.Esc
open Go Go.RowKit Go.Proofs Go.Am

theorem sp_no {c : UInt8} (h : sp c = false) : c.toNat ≠ 44 ∧ c.toNat ≠ 32 ∧ c.toNat ≠ 61 ∧ c.toNat ≠ 92 := by
  unfold sp at h
  simp only [Bool.or_eq_false_iff, beq_eq_false_iff_ne] at h
  obtain ⟨⟨⟨h1, h2⟩, h3⟩, h4⟩ := h
  exact ⟨fun e => h1 (UInt8.toNat_inj.1 e), fun e => h2 (UInt8.toNat_inj.1 e), fun e => h3 (UInt8.toNat_inj.1 e), fun e => h4 (UInt8.toNat_inj.1 e)⟩
theorem sp_yes {c : UInt8} (h : sp c = true) : c = 44 ∨ c = 32 ∨ c = 61 ∨ c = 92 := by
  unfold sp at h
  simp only [Bool.or_eq_true, beq_iff_eq] at h
  rcases h with ((h | h) | h) | h
  · exact .inl h
  · exact .inr (.inl h)
  · exact .inr (.inr (.inl h))
  · exact .inr (.inr (.inr h))
theorem int_ne {a b : Nat} (h : a ≠ b) : ((a : Int) == (b : Int)) = false := by simp; omega

theorem special_yes (c : UInt8) (w : World) (h : sp c = true) : Calls Tryz.prog 40 #[.int .u8 c.toNat] w fun e w' => e = .returned (.bool true) ∧ w = w' := by
  rcases sp_yes h with rfl | rfl | rfl | rfl
  all_goals
    go_enter Tryz.func40, Tryz.ntmps40
    go_wp2
    go_ret
    exact ⟨rfl, rfl⟩
theorem special_no (c : UInt8) (w : World) (h : sp c = false) : Calls Tryz.prog 40 #[.int .u8 c.toNat] w fun e w' => e = .returned (.bool false) ∧ w = w' := by
  obtain ⟨h1, h2, h3, h4⟩ := sp_no h
  have g1 : ((c.toNat : Int) == 44) = false := int_ne h1
  have g2 : ((c.toNat : Int) == 32) = false := int_ne h2
  have g3 : ((c.toNat : Int) == 61) = false := int_ne h3
  have g4 : ((c.toNat : Int) == 92) = false := int_ne h4
  clear h h1 h2 h3 h4
  go_enter Tryz.func40, Tryz.ntmps40
  go_wp2
  go_ret
  exact ⟨rfl, rfl⟩

theorem esc_append (a b : List UInt8) : esc (a ++ b) = esc a ++ esc b := by
  induction a with
  | nil => rfl
  | cons c r ih =>
    rw [List.cons_append, esc, esc, ih]
    split <;> simp
theorem take_snoc (s : ByteArray) (k : Nat) (h : k < s.size) : s.data.toList.take (k + 1) = s.data.toList.take k ++ [s[k]] := by
  rw [List.take_succ_eq_append_getElem (by simpa using h)]; rfl

set_option maxHeartbeats 4000000 in
set_option maxRecDepth 1000000 in
theorem escape_any (s : ByteArray) (w : World) (hs : s.size ≤ 35184372088832) :
    Calls Tryz.prog 29 #[.string s] w fun e w' => e = .returned (.string ⟨(esc s.data.toList).toArray⟩) ∧ Below w.heap.size w w' := by
  go_enter Tryz.func29, Tryz.ntmps29
  go_wp2
  go_loopw [7] (fun i wr => ∃ k : Nat, k ≤ s.size ∧ i = .int .i64 k ∧ Lib.IsBuilderF 105 5 w.heap.size w.heap.size (Lib.byteCells (esc (s.data.toList.take k))) wr ∧ Below w.heap.size w wr) (fun i _ => s.size - (intOf i).toNat)
  case atStart =>
    exact ⟨0, Nat.zero_le _, rfl, Lib.IsBuilderF.of (Lib.fresh_isBuilder 105 5 w), (Below.refl _ w).alloc (Nat.le_refl _) _⟩
  case round =>
    obtain ⟨k, hk, rfl, hI, hbw⟩ := hrel
    have hsz := hbw.size
    have hel := esc_len (s.data.toList.take k)
    have hl : (s.data.toList.take k).length ≤ s.size := by rw [List.length_take]; simp; omega
    by_cases hlt : k < s.size
    · have HT := Lib.hid (take_snoc s k hlt)
      cases hsp : sp s[k] with
      | true =>
        have HS := Lib.hid hsp
        clear hsp
        go_wp2_with (go_at_call 40; refine (special_yes s[k] _ HS.out).mono ?_)
        rintro e w' ⟨rfl, rfl⟩
        go_wp2_with (go_at_call 42; refine (Tryz.Builder_WriteByte_k w.heap.size w.heap.size _ 92 _ hI (by rw [Lib.byteCells_length]; omega) hsz).mono ?_)
        rintro e W1 ⟨rfl, h1, b1, _⟩
        go_wp2_with (go_at_call 42; refine (Tryz.Builder_WriteByte_k w.heap.size w.heap.size _ s[k].toNat _ (Or.inr h1) (by rw [List.length_append, Lib.byteCells_length]; simp only [List.length_cons, List.length_nil]; omega) (by have := b1.size; omega)).mono ?_)
        rintro e W2 ⟨rfl, h2, b2, _⟩
        go_wp2
        go_roundw
        case rel =>
          refine ⟨k + 1, by omega, by go_num, Or.inr ?_, (hbw.trans b1).trans b2⟩
          rw [HT.out, esc_append, Lib.byteCells_append]
          have e1 : esc [s[k]] = [92, s[k]] := by rw [esc, HS.out]; rfl
          rw [e1]
          simpa [Lib.byteCells] using h2
        case measure => simp [intOf]; omega
      | false =>
        have HS := Lib.hid hsp
        clear hsp
        go_wp2_with (go_at_call 40; refine (special_no s[k] _ HS.out).mono ?_)
        rintro e w' ⟨rfl, rfl⟩
        go_wp2_with (go_at_call 42; refine (Tryz.Builder_WriteByte_k w.heap.size w.heap.size _ s[k].toNat _ hI (by rw [Lib.byteCells_length]; omega) hsz).mono ?_)
        rintro e W2 ⟨rfl, h2, b2, _⟩
        go_wp2
        go_roundw
        case rel =>
          refine ⟨k + 1, by omega, by go_num, Or.inr ?_, hbw.trans b2⟩
          rw [HT.out, esc_append, Lib.byteCells_append]
          have e1 : esc [s[k]] = [s[k]] := by rw [esc, HS.out]; rfl
          rw [e1]
          simpa [Lib.byteCells] using h2
        case measure => simp [intOf]; omega
    · obtain rfl : k = s.size := by omega
      go_wp2_with (go_at_call 43; refine (Tryz.Builder_String_any_k w.heap.size w.heap.size _ _ hI hsz).mono ?_)
      rintro e W1 ⟨rfl, _, b1, _⟩
      go_wp2
      go_ret
      refine ⟨?_, hbw.trans b1⟩
      rw [List.take_of_length_le (by simp)]
      rfl

theorem at_any (i : Int) (w : World) : Calls Tryz.prog 41 #[.int .i64 i, .int .i64 53] w fun e w' => e = .returned (.iface 88 (.agg #[.int .i64 i, .iface 32 (.int .i64 53)])) ∧ w = w' := by
  go_enter Tryz.func41, Tryz.ntmps41
  go_wp2
  go_ret
  exact ⟨rfl, rfl⟩

/-- What Unescape gives. -/
def UnescPost (s : ByteArray) (w : World) (e : Ending) (w' : World) : Prop := Below w.heap.size w w' ∧ match unesc s.data.toList with
  | some x => e = .returned (.tuple #[.string ⟨x.1.toArray⟩, .int .i64 x.2, .nilIface])
  | none => ∃ v, e = .returned (.tuple #[.string ⟨#[]⟩, .int .i64 0, .iface 88 v])
theorem drop_cons (s : ByteArray) (k : Nat) (h : k < s.size) : s.data.toList.drop k = s[k] :: s.data.toList.drop (k + 1) := by
  rw [List.drop_eq_getElem_cons (by simpa using h)]; rfl
theorem map_map2 {α β : Type} (o : Option (List α × Nat)) (acc : List α) (k : Nat) (c : List α) (n : Nat) : (o.map fun x => (c ++ x.1, x.2 + n)).map (fun x => (acc ++ x.1, k + x.2)) = o.map fun x => ((acc ++ c) ++ x.1, (k + n) + x.2) := by
  cases o with
  | none => rfl
  | some x =>
    simp only [Option.map_some, Option.some.injEq, Prod.mk.injEq, List.append_assoc, true_and]
    omega

set_option maxHeartbeats 4000000 in
set_option maxRecDepth 1000000 in
theorem unescape_any (s : ByteArray) (w : World) (hs : s.size ≤ 35184372088832) :
    Calls Tryz.prog 21 #[.string s] w (UnescPost s w) := by
  go_enter Tryz.func21, Tryz.ntmps21
  go_wp2
  go_loopw [6] (fun i wr => ∃ (k : Nat) (acc : List UInt8), k ≤ s.size ∧ i = .int .i64 k ∧ acc.length ≤ k ∧ Lib.IsBuilderF 105 5 w.heap.size w.heap.size (Lib.byteCells acc) wr ∧ Below w.heap.size w wr ∧ Hid (unesc s.data.toList = (unesc (s.data.toList.drop k)).map fun x => (acc ++ x.1, k + x.2))) (fun i _ => s.size - (intOf i).toNat)
  case atStart =>
    refine ⟨0, [], Nat.zero_le _, rfl, Nat.le_refl _, Lib.IsBuilderF.of (Lib.fresh_isBuilder 105 5 w), (Below.refl _ w).alloc (Nat.le_refl _) _, Lib.hid ?_⟩
    rw [List.drop_zero]
    cases unesc s.data.toList with
    | none => rfl
    | some x => simp
  case round =>
    obtain ⟨k, acc, hk, rfl, hal, hI, hbw, HU⟩ := hrel
    have hsz := hbw.size
    by_cases hlt : k < s.size
    · have HD := Lib.hid (drop_cons s k hlt)
      by_cases h92 : s[k] = 92
      · -- a backslash
        have g92 : ((s[k].toNat : Int) == 92) = true := by rw [h92]; rfl
        have H92 := Lib.hid h92
        clear h92
        by_cases hl2 : k + 1 < s.size
        · have gl : (((k : Int) + 1) == (s.size : Int)) = false := by simp; omega
          have HD2 := Lib.hid (drop_cons s (k + 1) hl2)
          cases hsp : sp s[k + 1] with
          | true =>
            have HS := Lib.hid hsp
            clear hsp
            go_wp2_with (go_at_call 40; refine (special_yes s[k + 1] _ HS.out).mono ?_)
            rintro e w' ⟨rfl, rfl⟩
            go_wp2_with (go_at_call 42; refine (Tryz.Builder_WriteByte_k w.heap.size w.heap.size _ s[k + 1].toNat _ hI (by rw [Lib.byteCells_length]; omega) hsz).mono ?_)
            rintro e W2 ⟨rfl, h2, b2, _⟩
            go_wp2
            go_roundw
            case rel =>
              refine ⟨k + 2, acc ++ [s[k + 1]], by omega, by go_num, by simp; omega, Or.inr ?_, hbw.trans b2, Lib.hid ?_⟩
              · rw [Lib.byteCells_append]
                simpa [Lib.byteCells] using h2
              · rw [HU.out, HD.out, H92.out, HD2.out, unesc_bs, HS.out, if_pos rfl]
                exact map_map2 (β := UInt8) _ acc k [s[k + 1]] 2
            case measure => simp [intOf]; omega
          | false =>
            have HS := Lib.hid hsp
            clear hsp
            go_wp2_with (go_at_call 40; refine (special_no s[k + 1] _ HS.out).mono ?_)
            rintro e w' ⟨rfl, rfl⟩
            go_wp2_with (go_at_call 41; refine (at_any k _).mono ?_)
            rintro e w' ⟨rfl, rfl⟩
            go_wp2
            go_ret3
            refine ⟨hbw, ?_⟩
            rw [HU.out, HD.out, H92.out, HD2.out, unesc_bs, HS.out]
            exact ⟨_, rfl⟩
        · have gl : (((k : Int) + 1) == (s.size : Int)) = true := by simp; omega
          go_wp2_with (go_at_call 41; refine (at_any k _).mono ?_)
          rintro e w' ⟨rfl, rfl⟩
          go_wp2
          go_ret3
          refine ⟨hbw, ?_⟩
          have hd : s.data.toList.drop (k + 1) = [] := List.drop_eq_nil_of_le (by simp; omega)
          rw [HU.out, HD.out, H92.out, hd, unesc_bs_nil]
          exact ⟨_, rfl⟩
      · have g92 : ((s[k].toNat : Int) == 92) = false := int_ne fun e => h92 (UInt8.toNat_inj.1 e)
        have H92 := Lib.hid h92
        clear h92
        cases hsp : sp s[k] with
        | true =>
          have HS := Lib.hid hsp
          clear hsp
          go_wp2_with (go_at_call 40; refine (special_yes s[k] _ HS.out).mono ?_)
          rintro e w' ⟨rfl, rfl⟩
          go_wp2_with (go_at_call 43; refine (Tryz.Builder_String_any_k w.heap.size w.heap.size _ _ hI hsz).mono ?_)
          rintro e W1 ⟨rfl, _, b1, _⟩
          go_wp2
          go_ret3
          refine ⟨hbw.trans b1, ?_⟩
          rw [HU.out, HD.out, unesc_stop _ HS.out H92.out]
          simp only [Option.map_some, List.append_nil, Nat.add_zero]
          rfl
        | false =>
          have HS := Lib.hid hsp
          clear hsp
          go_wp2_with (go_at_call 40; refine (special_no s[k] _ HS.out).mono ?_)
          rintro e w' ⟨rfl, rfl⟩
          go_wp2_with (go_at_call 42; refine (Tryz.Builder_WriteByte_k w.heap.size w.heap.size _ s[k].toNat _ hI (by rw [Lib.byteCells_length]; omega) hsz).mono ?_)
          rintro e W2 ⟨rfl, h2, b2, _⟩
          go_wp2
          go_roundw
          case rel =>
            refine ⟨k + 1, acc ++ [s[k]], by omega, by go_num, by simp; omega, Or.inr ?_, hbw.trans b2, Lib.hid ?_⟩
            · rw [Lib.byteCells_append]
              simpa [Lib.byteCells] using h2
            · rw [HU.out, HD.out, unesc_step _ HS.out]
              exact map_map2 (β := UInt8) _ acc k [s[k]] 1
          case measure => simp [intOf]; omega
    · obtain rfl : k = s.size := by omega
      go_wp2_with (go_at_call 43; refine (Tryz.Builder_String_any_k w.heap.size w.heap.size _ _ hI hsz).mono ?_)
      rintro e W1 ⟨rfl, _, b1, _⟩
      go_wp2
      go_ret3
      refine ⟨hbw.trans b1, ?_⟩
      have hd : s.data.toList.drop s.size = [] := List.drop_eq_nil_of_le (by simp)
      rw [HU.out, hd, unesc_nil]
      simp only [Option.map_some, List.append_nil, Nat.add_zero]
      rfl
end Go.Proofs.YthfkednlgehchaaGreatDoor.Esc
