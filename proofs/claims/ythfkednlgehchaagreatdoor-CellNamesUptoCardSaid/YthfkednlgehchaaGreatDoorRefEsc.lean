/- weirref05.Escape and weirref05.Unescape: their contracts. -/
import Derived.Test.YthfkednlgehchaaGreatDoorName2
import Derived.Laws.DeepStrings4
set_option linter.unusedVariables false
set_option linter.unusedSimpArgs false
namespace Go.Proofs.YthfkednlgehchaaGreatDoor.RefEsc
open Go Go.RowKit Go.Proofs Go.Am Go.Proofs.YthfkednlgehchaaGreatDoor.Esc Go.Proofs.YthfkednlgehchaaGreatDoor.Base Go.Proofs.YthfkednlgehchaaGreatDoor.Name

theorem special_yes (c : UInt8) (w : World) (h : sp c = true) : Calls Tryz.prog 45 #[.int .u8 c.toNat] w fun e w' => e = .returned (.bool true) ∧ w = w' := by
  rcases sp_yes h with rfl | rfl | rfl | rfl
  all_goals
    go_enter Tryz.func45, Tryz.ntmps45
    go_wp2
    go_ret
    exact ⟨rfl, rfl⟩
theorem special_no (c : UInt8) (w : World) (h : sp c = false) : Calls Tryz.prog 45 #[.int .u8 c.toNat] w fun e w' => e = .returned (.bool false) ∧ w = w' := by
  obtain ⟨h1, h2, h3, h4⟩ := sp_no h
  have g1 : ((c.toNat : Int) == 44) = false := int_ne h1
  have g2 : ((c.toNat : Int) == 32) = false := int_ne h2
  have g3 : ((c.toNat : Int) == 61) = false := int_ne h3
  have g4 : ((c.toNat : Int) == 92) = false := int_ne h4
  clear h h1 h2 h3 h4
  go_enter Tryz.func45, Tryz.ntmps45
  go_wp2
  go_ret
  exact ⟨rfl, rfl⟩

theorem ext_one (s : ByteArray) (k : Nat) (h : k < s.size) : (s.extract k (k + 1)).data.toList = [s[k]] := by
  rw [ByteArray.data_extract, Array.toList_extract]
  have e : s.data.toList.drop k = s[k] :: s.data.toList.drop (k + 1) := drop_cons s k h
  rw [List.extract_eq_take_drop, e]
  simp
theorem esc_one_yes {c : UInt8} (h : sp c = true) : esc [c] = [92, c] := by rw [esc, h]; rfl
theorem esc_one_no {c : UInt8} (h : sp c = false) : esc [c] = [c] := by rw [esc, h]; rfl

set_option maxHeartbeats 4000000 in
set_option maxRecDepth 1000000 in
theorem escape_any (s : ByteArray) (w : World) (hs : s.size ≤ 35184372088832) :
    Calls Tryz.prog 30 #[.string s] w fun e w' => ∃ E : ByteArray, e = .returned (.string E) ∧ E.data.toList = esc s.data.toList ∧ w = w' := by
  go_enter Tryz.func30, Tryz.ntmps30
  go_wp2
  go_loopw [3, 4] (fun o i wr => ∃ (k : Nat) (O : ByteArray), k ≤ s.size ∧ i = .int .i64 k ∧ o = .string O ∧ Hid (O.data.toList = esc (s.data.toList.take k)) ∧ w = wr) (fun _ i _ => s.size - (intOf i).toNat)
  case atStart =>
    exact ⟨0, _, Nat.zero_le _, rfl, rfl, Lib.hid rfl, rfl⟩
  case round =>
    obtain ⟨k, O, hk, rfl, rfl, HO, rfl⟩ := hrel
    have hel := esc_len (s.data.toList.take k)
    have hl : (s.data.toList.take k).length ≤ s.size := by rw [List.length_take]; simp; omega
    have hOs : O.size ≤ 70368744177664 := by rw [size_list, HO.out]; omega
    clear hel hl
    by_cases hlt : k < s.size
    · have HT := Lib.hid (take_snoc s k hlt)
      have HX := Lib.hid (ext_one s k hlt)
      cases hsp : sp s[k] with
      | true =>
        have HS := Lib.hid hsp
        clear hsp
        go_wp2_with (go_at_call 45; refine (special_yes s[k] _ HS.out).mono ?_)
        rintro e w' ⟨rfl, rfl⟩
        go_wp2
        go_roundw
        case rel =>
          refine ⟨k + 1, _, by omega, by go_num, rfl, Lib.hid ?_, trivial⟩
          rw [add_list, add_list, HX.out, HT.out, esc_append, HO.out, esc_one_yes HS.out]
          simp
        case measure => simp [intOf]; omega
      | false =>
        have HS := Lib.hid hsp
        clear hsp
        go_wp2_with (go_at_call 45; refine (special_no s[k] _ HS.out).mono ?_)
        rintro e w' ⟨rfl, rfl⟩
        go_wp2
        go_roundw
        case rel =>
          refine ⟨k + 1, _, by omega, by go_num, rfl, Lib.hid ?_, trivial⟩
          rw [add_list, HX.out, HT.out, esc_append, HO.out, esc_one_no HS.out]
        case measure => simp [intOf]; omega
    · obtain rfl : k = s.size := by omega
      go_wp2
      go_ret
      refine ⟨O, rfl, ?_, rfl⟩
      rw [HO.out, List.take_of_length_le (by simp)]

theorem at_any (i : Int) (w : World) : Calls Tryz.prog 46 #[.int .i64 i, .int .i64 53] w fun e w' => e = .returned (.agg #[.int .i64 53, .int .i64 i, .int .i64 0, .bool true, .bool false]) ∧ w' = w.alloc (.cells #[.int .i64 53, .int .i64 i, .int .i64 0, .bool true, .bool false] 34) := by
  go_enter Tryz.func46, Tryz.ntmps46
  go_wp2
  refine bodyPost_ret (v := .agg #[.int .i64 53, .int .i64 i, .int .i64 0, .bool true, .bool false]) (by simp [results, Tryz.results46, go_sem]) rfl ?_
  exact ⟨rfl, rfl⟩

/-- No error. -/
abbrev fine : Value := .agg #[.int .i64 0, .int .i64 0, .int .i64 0, .bool false, .bool false]
/-- An error of a number. -/
abbrev badOf (c : Int) : Value := .agg #[.int .i64 c, .int .i64 0, .int .i64 0, .bool false, .bool false]
/-- What Unescape gives. -/
def UnescPost (s : ByteArray) (w : World) (e : Ending) (w' : World) : Prop := Below w.heap.size w w' ∧ match unesc s.data.toList with
  | some x => e = .returned (.tuple #[.string ⟨x.1.toArray⟩, .int .i64 x.2, fine])
  | none => ∃ i : Int, e = .returned (.tuple #[.string ⟨#[]⟩, .int .i64 0, .agg #[.int .i64 53, .int .i64 i, .int .i64 0, .bool true, .bool false]])

set_option maxHeartbeats 4000000 in
set_option maxRecDepth 1000000 in
theorem unescape_any (s : ByteArray) (w : World) (hs : s.size ≤ 35184372088832) :
    Calls Tryz.prog 23 #[.string s] w (UnescPost s w) := by
  go_enter Tryz.func23, Tryz.ntmps23
  go_wp2
  go_loopw [5, 6] (fun o i wr => ∃ (k : Nat) (O : ByteArray), k ≤ s.size ∧ i = .int .i64 k ∧ o = .string O ∧ O.size ≤ k ∧ wr = w.alloc (.cells #[.int .i64 0, .int .i64 0, .int .i64 0, .bool false, .bool false] 34) ∧ Hid (unesc s.data.toList = (unesc (s.data.toList.drop k)).map fun x => (O.data.toList ++ x.1, k + x.2))) (fun _ i _ => s.size - (intOf i).toNat)
  case atStart =>
    refine ⟨0, _, Nat.zero_le _, rfl, rfl, Nat.zero_le _, rfl, Lib.hid ?_⟩
    rw [List.drop_zero]
    cases unesc s.data.toList with
    | none => rfl
    | some x => simp
  case round =>
    obtain ⟨k, O, hk, rfl, rfl, hO, rfl, HU⟩ := hrel
    have HB := Lib.hid ((Below.refl _ w).alloc (Nat.le_refl _) (.cells #[.int .i64 0, .int .i64 0, .int .i64 0, .bool false, .bool false] 34))
    by_cases hlt : k < s.size
    · have HD := Lib.hid (drop_cons s k hlt)
      by_cases h92 : s[k] = 92
      · -- a backslash
        have g92 : ((s[k].toNat : Int) == 92) = true := by rw [h92]; rfl
        have H92 := Lib.hid h92
        clear h92
        by_cases hl2 : k + 1 < s.size
        · have HD2 := Lib.hid (drop_cons s (k + 1) hl2)
          have HX := Lib.hid (ext_one s (k + 1) hl2)
          cases hsp : sp s[k + 1] with
          | true =>
            have HS := Lib.hid hsp
            clear hsp
            go_wp2_with (go_at_call 45; refine (special_yes s[k + 1] _ HS.out).mono ?_)
            rintro e w' ⟨rfl, rfl⟩
            go_wp2
            go_roundw
            case rel =>
              refine ⟨k + 2, _, by omega, by go_num, rfl, ?_, trivial, Lib.hid ?_⟩
              · rw [size_list, add_list, HX.out, List.length_append, ← size_list]
                simp only [List.length_cons, List.length_nil]
                omega
              · rw [HU.out, HD.out, H92.out, HD2.out, unesc_bs, HS.out, if_pos rfl, add_list, HX.out]
                exact map_map2 (β := UInt8) _ _ k [s[k + 1]] 2
            case measure => simp [intOf]; omega
          | false =>
            have HS := Lib.hid hsp
            clear hsp
            go_wp2_with (go_at_call 45; refine (special_no s[k + 1] _ HS.out).mono ?_)
            rintro e w' ⟨rfl, rfl⟩
            go_wp2_with (go_at_call 46; refine (at_any k _).mono ?_)
            rintro e w' ⟨rfl, rfl⟩
            go_wp2
            refine bodyPost_ret (v := .tuple #[.string ⟨#[]⟩, .int .i64 0, .agg #[.int .i64 53, .int .i64 k, .int .i64 0, .bool true, .bool false]]) (by simp [results, Tryz.results23, go_sem]) rfl ?_
            refine ⟨?_, ?_⟩
            · exact ((Below.refl _ w).alloc (Nat.le_refl _) _).alloc (by simp) _
            rw [HU.out, HD.out, H92.out, HD2.out, unesc_bs, HS.out]
            exact ⟨_, rfl⟩
        · go_wp2_with (go_at_call 46; refine (at_any k _).mono ?_)
          first | rintro e w' ⟨rfl, rfl⟩ | skip
          go_wp2
          refine bodyPost_ret (v := .tuple #[.string ⟨#[]⟩, .int .i64 0, .agg #[.int .i64 53, .int .i64 k, .int .i64 0, .bool true, .bool false]]) (by simp [results, Tryz.results23, go_sem]) rfl ?_
          refine ⟨?_, ?_⟩
          · exact ((Below.refl _ w).alloc (Nat.le_refl _) _).alloc (by simp) _
          have hd : s.data.toList.drop (k + 1) = [] := List.drop_eq_nil_of_le (by simp; omega)
          rw [HU.out, HD.out, H92.out, hd, unesc_bs_nil]
          exact ⟨_, rfl⟩
      · have g92 : ((s[k].toNat : Int) == 92) = false := int_ne fun e => h92 (UInt8.toNat_inj.1 e)
        have H92 := Lib.hid h92
        clear h92
        have HX := Lib.hid (ext_one s k hlt)
        cases hsp : sp s[k] with
        | true =>
          have HS := Lib.hid hsp
          clear hsp
          go_wp2_with (go_at_call 45; refine (special_yes s[k] _ HS.out).mono ?_)
          rintro e w' ⟨rfl, rfl⟩
          go_wp2
          refine bodyPost_ret (v := .tuple #[.string O, .int .i64 k, fine]) (by simp [results, Tryz.results23, go_sem]) rfl ?_
          refine ⟨HB.out, ?_⟩
          rw [HU.out, HD.out, unesc_stop _ HS.out H92.out]
          simp only [Option.map_some, List.append_nil, Nat.add_zero]
        | false =>
          have HS := Lib.hid hsp
          clear hsp
          go_wp2_with (go_at_call 45; refine (special_no s[k] _ HS.out).mono ?_)
          rintro e w' ⟨rfl, rfl⟩
          go_wp2
          go_roundw
          case rel =>
            refine ⟨k + 1, _, by omega, by go_num, rfl, ?_, trivial, Lib.hid ?_⟩
            · rw [size_list, add_list, HX.out, List.length_append, ← size_list]
              simp only [List.length_cons, List.length_nil]
              omega
            · rw [HU.out, HD.out, unesc_step _ HS.out, add_list, HX.out]
              exact map_map2 (β := UInt8) _ _ k [s[k]] 1
          case measure => simp [intOf]; omega
    · obtain rfl : k = s.size := by omega
      go_wp2
      refine bodyPost_ret (v := .tuple #[.string O, .int .i64 s.size, fine]) (by simp [results, Tryz.results23, go_sem]) rfl ?_
      refine ⟨HB.out, ?_⟩
      have hd : s.data.toList.drop s.size = [] := List.drop_eq_nil_of_le (by simp)
      rw [HU.out, hd, unesc_nil]
      simp only [Option.map_some, List.append_nil, Nat.add_zero]
end Go.Proofs.YthfkednlgehchaaGreatDoor.RefEsc
