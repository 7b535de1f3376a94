-- Made by wip/mkprint.sh of this repo over the kit's print.
import Derived.Test.YtabhhfpfdndidaaGreatDoorPrint0
import Derived.Test.YtabhhfpfdndidaaGreatDoorPrint4
import Derived.Test.YtabhhfpfdndidaaGreatDoorPrint5
import Derived.Test.YtabhhfpfdndidaaGreatDoorPrint6
namespace Go.Proofs.YtabhhfpfdndidaaGreatDoor.Print
open Go.RowKit Go.Proofs.YtabhhfpfdndidaaGreatDoorW.PrintWords Go.Proofs.YtabhhfpfdndidaaGreatDoorW.PrintLast Go.Proofs Go.Proofs.YtabhhfpfdndidaaGreatDoor Go.Proofs.YtabhhfpfdndidaaGreatDoor.Base Go.Proofs.YtabhhfpfdndidaaGreatDoorW.PrintMore
attribute [local go_sem] max2_int min2_int max_two min_two max_three min_three max_four min_four   -- for this text's walks alone
set_option linter.unusedVariables false
set_option linter.unusedSimpArgs false

/-! ### ast_sumText: function 96 -/
def ast_sumText.f : Nat → List (S35) → Int → Option (ByteArray)
  | 0, _, _ => none
  | k + 1, l0, a1 => if 0 ≤ a1 then (if a1 < (l0.length : Int) then ((ast_Kids.f k l0 a1).bind fun t192 => (if ((rd_T35 l0 a1).f0) = 1 then ((strconv_FormatInt.f ((rd_T35 l0 a1).f3) 10).bind fun t195 => (some t195)) else (if ((rd_T35 l0 a1).f0) = 2 then ((ast_name.f ((rd_T35 l0 a1).f1)).bind fun t196 => (if t196.size + 1 ≤ 9223372036854775807 then ((lex_Quote.f k ((rd_T35 l0 a1).f2)).bind fun t197 => (if (t196 ++ (⟨#[40]⟩ : ByteArray)).size + t197.size ≤ 9223372036854775807 then (if ((t196 ++ (⟨#[40]⟩ : ByteArray)) ++ t197).size + 1 ≤ 9223372036854775807 then (some (((t196 ++ (⟨#[40]⟩ : ByteArray)) ++ t197) ++ (⟨#[41]⟩ : ByteArray))) else (none)) else (none))) else (none))) else (if ((rd_T35 l0 a1).f0) = 3 then (if 0 < (t192.length : Int) then ((ast_sumText.f k l0 (rd t192 0)).bind fun t199 => (if 0 ≤ (rd t192 0) then (if (rd t192 0) < (l0.length : Int) then ((ast_bracketed.f t199 (((rd_T35 l0 (rd t192 0)).f0) != 2)).bind fun t202 => (if 1 + t202.size ≤ 9223372036854775807 then (some ((⟨#[45]⟩ : ByteArray) ++ t202)) else (none))) else (none)) else (none))) else (none)) else ((ast_binding.f k ((rd_T35 l0 a1).f0)).bind fun t203 => (if 0 < (t192.length : Int) then ((ast_sumText.f k l0 (rd t192 0)).bind fun t205 => (if 0 ≤ (rd t192 0) then (if (rd t192 0) < (l0.length : Int) then ((ast_binding.f k ((rd_T35 l0 (rd t192 0)).f0)).bind fun t208 => ((ast_bracketed.f t205 (decide (t208 < t203))).bind fun t209 => (if 1 < (t192.length : Int) then ((ast_sumText.f k l0 (rd t192 1)).bind fun t211 => (if 0 ≤ (rd t192 1) then (if (rd t192 1) < (l0.length : Int) then ((ast_binding.f k ((rd_T35 l0 (rd t192 1)).f0)).bind fun t214 => ((ast_bracketed.f t211 (decide (t214 ≤ t203))).bind fun t215 => (if t209.size + 1 ≤ 9223372036854775807 then ((ast_sign.f ((rd_T35 l0 a1).f0)).bind fun t216 => (if (t209 ++ (⟨#[32]⟩ : ByteArray)).size + t216.size ≤ 9223372036854775807 then (if ((t209 ++ (⟨#[32]⟩ : ByteArray)) ++ t216).size + 1 ≤ 9223372036854775807 then (if (((t209 ++ (⟨#[32]⟩ : ByteArray)) ++ t216) ++ (⟨#[32]⟩ : ByteArray)).size + t215.size ≤ 9223372036854775807 then (some ((((t209 ++ (⟨#[32]⟩ : ByteArray)) ++ t216) ++ (⟨#[32]⟩ : ByteArray)) ++ t215)) else (none)) else (none)) else (none))) else (none)))) else (none)) else (none))) else (none)))) else (none)) else (none))) else (none))))))) else (none)) else (none)
theorem ast_sumText.mono_l : ∀ k, (∀ y0 y1, LeO (ast_sumText.f k y0 y1) (ast_sumText.f (k + 1) y0 y1))
  | 0 => fun _ _ r h => by simp [ast_sumText.f] at h
  | k + 1 => by
    have ih0 := ast_sumText.mono_l k
    · intro y0 y1
      unfold ast_sumText.f
      repeat' first
      | (with_reducible exact ih0 _ _)
      | (with_reducible exact ast_Kids.mono _ _ _)
      | (with_reducible exact ast_binding.mono _ _)
      | (with_reducible exact lex_Quote.mono _ _)
      | (with_reducible exact LeO.refl _)
      | (with_reducible exact LeO.none _)
      | (with_reducible refine LeO.ite ?_ ?_)
      | (with_reducible refine LeO.bind ?_ (fun _ => ?_))
      | exact ih0 _ _
      | exact ast_Kids.mono _ _ _
      | exact ast_binding.mono _ _
      | exact lex_Quote.mono _ _
      | exact LeO.none _
      | refine LeO.ite ?_ ?_
      | refine LeO.bind ?_ (fun _ => ?_)
theorem ast_sumText.mono : ∀ a0 a1 k, LeO (ast_sumText.f k a0 a1) (ast_sumText.f (k + 1) a0 a1) := by
  intro a0 a1 k
  have ih0 := ast_sumText.mono_l k
  exact ih0 a0 a1
def ast_sumText.T7 : Bool × List (List Nat × List Nat) := (true, [([], []), ([0], [0]), ([1], [1]), ([2], [2]), ([], []), ([4], [4]), ([5, 2], [5]), ([3, 6], [3, 6]), ([7], [7]), ([8, 6, 0, 1, 2, 3, 4, 5, 6, 7, 8], [8])])
def ast_sumText.B7 : List Nat := [0, 1, 3, 7, 0, 16, 55, 127, 255, 511]
theorem ast_sumText.tab7 : rtab .any (opsOf Tryz.f96 7) = ast_sumText.T7 := by kernel_rfl
theorem ast_sumText.bits7 : waitsOk ast_sumText.T7.2 ast_sumText.B7 = true := by kernel_rfl
def ast_sumText.T9 : Bool × List (List Nat × List Nat) := (true, [([], []), ([], []), ([1], [1]), ([2], [2]), ([0, 3], [0, 3]), ([], []), ([], []), ([6], [6]), ([7], [7]), ([5, 8], [5, 8]), ([9], [9]), ([10], [10]), ([11], [11]), ([4, 12, 4], [4, 12]), ([13], [13]), ([14, 13, 0, 1, 2, 3, 4, 5, 6, 7, 8, 9, 10, 11, 12, 13, 14], [14])])
def ast_sumText.B9 : List Nat := [0, 0, 2, 6, 15, 0, 0, 64, 192, 480, 992, 2016, 4064, 8191, 16383, 32767]
theorem ast_sumText.tab9 : rtab .any (opsOf Tryz.f96 9) = ast_sumText.T9 := by kernel_rfl
theorem ast_sumText.bits9 : waitsOk ast_sumText.T9.2 ast_sumText.B9 = true := by kernel_rfl
def ast_sumText.T11 : Bool × List (List Nat × List Nat) := (true, [([], []), ([], []), ([1], [1]), ([2], [2]), ([0, 3], [0, 3]), ([], []), ([], []), ([6], [6]), ([7], [7]), ([5, 8], [5, 8]), ([9], [9]), ([10], [10]), ([11, 4], [11]), ([], []), ([12, 13], [12, 13]), ([4, 14, 12], [4, 14]), ([15, 15, 0, 1, 2, 3, 4, 5, 6, 7, 8, 9, 10, 11, 12, 13, 14, 15], [15])])
def ast_sumText.B11 : List Nat := [0, 0, 2, 6, 15, 0, 0, 64, 192, 480, 992, 2016, 4095, 0, 16383, 32767, 65535]
theorem ast_sumText.tab11 : rtab .any (opsOf Tryz.f96 11) = ast_sumText.T11 := by kernel_rfl
theorem ast_sumText.bits11 : waitsOk ast_sumText.T11.2 ast_sumText.B11 = true := by kernel_rfl
def ast_sumText.T12 : Bool × List (List Nat × List Nat) := (true, [([], []), ([], []), ([1], [1]), ([2], [2]), ([0, 3], [0, 3]), ([], []), ([], []), ([6], [6]), ([7], [7]), ([5, 8], [5, 8]), ([9], [9]), ([10], [10]), ([11, 4], [11]), ([], []), ([12, 13], [12, 13]), ([4, 14, 12], [4, 14]), ([15, 15, 0, 1, 2, 3, 4, 5, 6, 7, 8, 9, 10, 11, 12, 13, 14, 15], [15])])
def ast_sumText.B12 : List Nat := [0, 0, 2, 6, 15, 0, 0, 64, 192, 480, 992, 2016, 4095, 0, 16383, 32767, 65535]
theorem ast_sumText.tab12 : rtab .any (opsOf Tryz.f96 12) = ast_sumText.T12 := by kernel_rfl
theorem ast_sumText.bits12 : waitsOk ast_sumText.T12.2 ast_sumText.B12 = true := by kernel_rfl
set_option maxHeartbeats 8000000 in
set_option maxRecDepth 100000 in
theorem ast_sumText.calls (k : Nat) : ∀ (A0 : Option Addr) (c0 : Nat) (l0 : List (S35)) (a1 : Int) (r : ByteArray) (w : World) (hr0 : Kd.C k35 w A0 l0.length l0) (hc0 : l0.length ≤ c0) (hG : Globs w) (h : ast_sumText.f k l0 a1 = some r),
    Calls Tryz.prog 96 #[.slice A0 l0.length c0, .int .i64 a1] w fun e w' => e = .returned (.string r) ∧ Below w.heap.size w w' := by
  induction k using Nat.strongRecOn with
  | _ k ih =>
  intro A0 c0 l0 a1 r w hr0 hc0 hG h
  cases k with
  | zero => exact absurd h (by simp [ast_sumText.f])
  | succ k =>
  simp only [ast_sumText.f] at h
  have hu35 := Tryz.underlying35
  have HG := Aside0.mk hG
  clear hG
  have HR0 := Aside0.mk hr0
  have HC0 := Aside0.mk hc0
  clear hr0 hc0
  have HB := Aside0.mk (Below.refl w.heap.size w)
  have H : (if 0 ≤ a1 then (if a1 < (l0.length : Int) then ((ast_Kids.f k l0 a1).bind fun t192 => (if ((rd_T35 l0 a1).f0) = 1 then ((strconv_FormatInt.f ((rd_T35 l0 a1).f3) 10).bind fun t195 => (some t195)) else (if ((rd_T35 l0 a1).f0) = 2 then ((ast_name.f ((rd_T35 l0 a1).f1)).bind fun t196 => (if t196.size + 1 ≤ 9223372036854775807 then ((lex_Quote.f k ((rd_T35 l0 a1).f2)).bind fun t197 => (if (t196 ++ (⟨#[40]⟩ : ByteArray)).size + t197.size ≤ 9223372036854775807 then (if ((t196 ++ (⟨#[40]⟩ : ByteArray)) ++ t197).size + 1 ≤ 9223372036854775807 then (some (((t196 ++ (⟨#[40]⟩ : ByteArray)) ++ t197) ++ (⟨#[41]⟩ : ByteArray))) else (none)) else (none))) else (none))) else (if ((rd_T35 l0 a1).f0) = 3 then (if 0 < (t192.length : Int) then ((ast_sumText.f k l0 (rd t192 0)).bind fun t199 => (if 0 ≤ (rd t192 0) then (if (rd t192 0) < (l0.length : Int) then ((ast_bracketed.f t199 (((rd_T35 l0 (rd t192 0)).f0) != 2)).bind fun t202 => (if 1 + t202.size ≤ 9223372036854775807 then (some ((⟨#[45]⟩ : ByteArray) ++ t202)) else (none))) else (none)) else (none))) else (none)) else ((ast_binding.f k ((rd_T35 l0 a1).f0)).bind fun t203 => (if 0 < (t192.length : Int) then ((ast_sumText.f k l0 (rd t192 0)).bind fun t205 => (if 0 ≤ (rd t192 0) then (if (rd t192 0) < (l0.length : Int) then ((ast_binding.f k ((rd_T35 l0 (rd t192 0)).f0)).bind fun t208 => ((ast_bracketed.f t205 (decide (t208 < t203))).bind fun t209 => (if 1 < (t192.length : Int) then ((ast_sumText.f k l0 (rd t192 1)).bind fun t211 => (if 0 ≤ (rd t192 1) then (if (rd t192 1) < (l0.length : Int) then ((ast_binding.f k ((rd_T35 l0 (rd t192 1)).f0)).bind fun t214 => ((ast_bracketed.f t211 (decide (t214 ≤ t203))).bind fun t215 => (if t209.size + 1 ≤ 9223372036854775807 then ((ast_sign.f ((rd_T35 l0 a1).f0)).bind fun t216 => (if (t209 ++ (⟨#[32]⟩ : ByteArray)).size + t216.size ≤ 9223372036854775807 then (if ((t209 ++ (⟨#[32]⟩ : ByteArray)) ++ t216).size + 1 ≤ 9223372036854775807 then (if (((t209 ++ (⟨#[32]⟩ : ByteArray)) ++ t216) ++ (⟨#[32]⟩ : ByteArray)).size + t215.size ≤ 9223372036854775807 then (some ((((t209 ++ (⟨#[32]⟩ : ByteArray)) ++ t216) ++ (⟨#[32]⟩ : ByteArray)) ++ t215)) else (none)) else (none)) else (none))) else (none)))) else (none)) else (none))) else (none)))) else (none)) else (none))) else (none))))))) else (none)) else (none)) = some r := h
  clear h
  by_cases c3 : 0 ≤ a1
  · rw [if_pos c3] at H
    have c3b0 : decide (0 ≤ a1) = true := decide_eq_true c3
    clear c3
    by_cases c4 : a1 < (l0.length : Int)
    · rw [if_pos c4] at H
      have c4b0 : decide (a1 < (l0.length : Int)) = true := decide_eq_true c4
      clear c4
      replace H := Option.bind_eq_some_iff.mp H
      obtain ⟨t192, A50, H⟩ := H
      replace H : (if ((rd_T35 l0 a1).f0) = 1 then ((strconv_FormatInt.f ((rd_T35 l0 a1).f3) 10).bind fun t195 => (some t195)) else (if ((rd_T35 l0 a1).f0) = 2 then ((ast_name.f ((rd_T35 l0 a1).f1)).bind fun t196 => (if t196.size + 1 ≤ 9223372036854775807 then ((lex_Quote.f k ((rd_T35 l0 a1).f2)).bind fun t197 => (if (t196 ++ (⟨#[40]⟩ : ByteArray)).size + t197.size ≤ 9223372036854775807 then (if ((t196 ++ (⟨#[40]⟩ : ByteArray)) ++ t197).size + 1 ≤ 9223372036854775807 then (some (((t196 ++ (⟨#[40]⟩ : ByteArray)) ++ t197) ++ (⟨#[41]⟩ : ByteArray))) else (none)) else (none))) else (none))) else (if ((rd_T35 l0 a1).f0) = 3 then (if 0 < (t192.length : Int) then ((ast_sumText.f k l0 (rd t192 0)).bind fun t199 => (if 0 ≤ (rd t192 0) then (if (rd t192 0) < (l0.length : Int) then ((ast_bracketed.f t199 (((rd_T35 l0 (rd t192 0)).f0) != 2)).bind fun t202 => (if 1 + t202.size ≤ 9223372036854775807 then (some ((⟨#[45]⟩ : ByteArray) ++ t202)) else (none))) else (none)) else (none))) else (none)) else ((ast_binding.f k ((rd_T35 l0 a1).f0)).bind fun t203 => (if 0 < (t192.length : Int) then ((ast_sumText.f k l0 (rd t192 0)).bind fun t205 => (if 0 ≤ (rd t192 0) then (if (rd t192 0) < (l0.length : Int) then ((ast_binding.f k ((rd_T35 l0 (rd t192 0)).f0)).bind fun t208 => ((ast_bracketed.f t205 (decide (t208 < t203))).bind fun t209 => (if 1 < (t192.length : Int) then ((ast_sumText.f k l0 (rd t192 1)).bind fun t211 => (if 0 ≤ (rd t192 1) then (if (rd t192 1) < (l0.length : Int) then ((ast_binding.f k ((rd_T35 l0 (rd t192 1)).f0)).bind fun t214 => ((ast_bracketed.f t211 (decide (t214 ≤ t203))).bind fun t215 => (if t209.size + 1 ≤ 9223372036854775807 then ((ast_sign.f ((rd_T35 l0 a1).f0)).bind fun t216 => (if (t209 ++ (⟨#[32]⟩ : ByteArray)).size + t216.size ≤ 9223372036854775807 then (if ((t209 ++ (⟨#[32]⟩ : ByteArray)) ++ t216).size + 1 ≤ 9223372036854775807 then (if (((t209 ++ (⟨#[32]⟩ : ByteArray)) ++ t216) ++ (⟨#[32]⟩ : ByteArray)).size + t215.size ≤ 9223372036854775807 then (some ((((t209 ++ (⟨#[32]⟩ : ByteArray)) ++ t216) ++ (⟨#[32]⟩ : ByteArray)) ++ t215)) else (none)) else (none)) else (none))) else (none)))) else (none)) else (none))) else (none)))) else (none)) else (none))) else (none)))))) = some r := H
      have A5 := Aside0.mk A50
      clear A50
      by_cases c6 : ((rd_T35 l0 a1).f0) = 1
      · rw [if_pos c6] at H
        have c6b0 : (((rd_T35 l0 a1).f0) == 1) = true := beq_iff_eq.mpr c6
        have c6b1 : (((rd_T35 l0 a1).f0) != 1) = false := bne_eq_false_iff_eq.mpr c6
        clear c6
        replace H := Option.bind_eq_some_iff.mp H
        obtain ⟨t195, A70, H⟩ := H
        replace H : (some t195) = some r := H
        have A7 := Aside0.mk A70
        clear A70
        obtain rfl := Option.some.inj H
        have p190 : 0 ≤ (a1 : Int) := of_decide_eq_true (by first | (with_reducible assumption) | assumption)
        have q190 : a1 < (l0.length : Int) := of_decide_eq_true (by first | (with_reducible assumption) | assumption)
        obtain ⟨ad190, e190, hx190_0, hx190_1, hx190_2, hx190_3, hx190_4, hx190_5⟩ := at_T35 HR0.out a1 p190 q190
        cases e190
        replace p190 := eq_true p190
        replace q190 := eq_true q190
        go_enter Tryz.func96, Tryz.ntmps96
        go_wp2_with (first | ((with_reducible refine gate_dst (N := 5) rfl ?_); refine box_event ?hg (N := 5) ?hd (cs := #[.int .u8 0, .int .u8 0, .string (⟨#[]⟩ : ByteArray), .int .i64 0, .int .i64 0, .int .i64 0]) (t := 35) ?hr ?_; (case hd => rfl); (case hg => rfl); (case hr => first | (go_simp; done) | (go_simp; rfl)); intro gb191 hg w8 hbox hb; have n0_ := Aside0.mk (below_step (by repeat (first | (with_reducible first | exact HB.out | apply below_alloc | apply pw_below_drewN | apply below_drew1) | exact HB.out)) hb); have n1_ := Aside0.mk (hbox); have n2_ := Aside0.mk ((by rw [hg]; exact (below_size (by repeat (first | (with_reducible first | exact HB.out | apply below_alloc | apply pw_below_drewN | apply below_drew1) | exact HB.out))) : w.heap.size ≤ gb191)); have n3_ := Aside0.mk ((by rw [hg]; exact (below_size (by repeat (first | (with_reducible first | exact HB.out | apply below_alloc | apply pw_below_drewN | apply below_drew1) | exact HB.out))) : w.heap.size ≤ gb191)); clear HB; have HB := n0_; have BK191 := n1_; have GW191 := n2_; have GE191 := n3_; clear n0_ n1_ n2_ n3_; clear hb hbox hg; have hcz9_0 : w8.cell? ⟨gb191, 0, none⟩ = some (.int .u8 0) := (blk_cell BK191.out 0).trans rfl; have hcz9_1 : w8.cell? ⟨gb191, 1, none⟩ = some (.int .u8 0) := (blk_cell BK191.out 1).trans rfl; have hcz9_2 : w8.cell? ⟨gb191, 2, none⟩ = some (.string (⟨#[]⟩ : ByteArray)) := (blk_cell BK191.out 2).trans rfl; have hcz9_3 : w8.cell? ⟨gb191, 3, none⟩ = some (.int .i64 0) := (blk_cell BK191.out 3).trans rfl; have hcz9_4 : w8.cell? ⟨gb191, 4, none⟩ = some (.int .i64 0) := (blk_cell BK191.out 4).trans rfl; have hcz9_5 : w8.cell? ⟨gb191, 5, none⟩ = some (.int .i64 0) := (blk_cell BK191.out 5).trans rfl; have hfz9_0 := blk_frozen BK191.out 0; have hfz9_1 := blk_frozen BK191.out 1; have hfz9_2 := blk_frozen BK191.out 2; have hfz9_3 := blk_frozen BK191.out 3; have hfz9_4 := blk_frozen BK191.out 4; have hfz9_5 := blk_frozen BK191.out 5) | ((with_reducible refine gate_callee (f := 15) rfl ?_); refine goesL_ (some 16) rfl rfl Tryz.func15 (by kernel_rfl) rfl #[.slice (some ad190) l0.length c0, .int .i64 a1] rfl (by (try simp only [List.map_toArray, List.map_cons, List.map_nil]); first | done | rfl | (simp only [List.length_drop, List.length_take]; rfl)) ?_; (with_reducible refine (ast_Kids.calls k _ _ l0 a1 t192 _ ?side1 ?side2 A5.out).mono ?_); (case side1 => exact Kd.C_below HR0.out (by repeat (first | (with_reducible first | exact HB.out | apply below_alloc | apply pw_below_drewN | apply below_drew1 | refine below_set ?_ GE191.out) | exact HB.out))); (case side2 => exact HC0.out); rintro e w10 ⟨v193, rfl, ho0, hb⟩; refine ⟨_, rfl, ?_⟩; have n0_ := Aside0.mk (Kd.R_lower ho0 (below_size (by repeat (first | (with_reducible first | exact HB.out | apply below_alloc | apply pw_below_drewN | apply below_drew1 | refine below_set ?_ GE191.out) | exact HB.out)))); have n1_ := Aside0.mk (blk_below (g := gb191) (o := .cells #[.int .u8 ((rd_T35 l0 a1).f0), .int .u8 ((rd_T35 l0 a1).f1), .string ((rd_T35 l0 a1).f2), .int .i64 ((rd_T35 l0 a1).f3), .int .i64 ((rd_T35 l0 a1).f4), .int .i64 ((rd_T35 l0 a1).f5)] 35 (0, 0)) (by (with_reducible repeat (first | refine blk_drewN ?_ _ | refine blk_drew ?_ | refine blk_alloc ?_ _)); refine blk_put (cs := #[.int .u8 ((rd_T35 l0 a1).f0), .int .u8 ((rd_T35 l0 a1).f1), .string ((rd_T35 l0 a1).f2), .int .i64 ((rd_T35 l0 a1).f3), .int .i64 ((rd_T35 l0 a1).f4), .int .i64 0]) ?_ 5 _ rfl; (with_reducible repeat (first | refine blk_drewN ?_ _ | refine blk_drew ?_ | refine blk_alloc ?_ _)); refine blk_put (cs := #[.int .u8 ((rd_T35 l0 a1).f0), .int .u8 ((rd_T35 l0 a1).f1), .string ((rd_T35 l0 a1).f2), .int .i64 ((rd_T35 l0 a1).f3), .int .i64 0, .int .i64 0]) ?_ 4 _ rfl; (with_reducible repeat (first | refine blk_drewN ?_ _ | refine blk_drew ?_ | refine blk_alloc ?_ _)); refine blk_put (cs := #[.int .u8 ((rd_T35 l0 a1).f0), .int .u8 ((rd_T35 l0 a1).f1), .string ((rd_T35 l0 a1).f2), .int .i64 0, .int .i64 0, .int .i64 0]) ?_ 3 _ rfl; (with_reducible repeat (first | refine blk_drewN ?_ _ | refine blk_drew ?_ | refine blk_alloc ?_ _)); refine blk_put (cs := #[.int .u8 ((rd_T35 l0 a1).f0), .int .u8 ((rd_T35 l0 a1).f1), .string (⟨#[]⟩ : ByteArray), .int .i64 0, .int .i64 0, .int .i64 0]) ?_ 2 _ rfl; (with_reducible repeat (first | refine blk_drewN ?_ _ | refine blk_drew ?_ | refine blk_alloc ?_ _)); refine blk_put (cs := #[.int .u8 ((rd_T35 l0 a1).f0), .int .u8 0, .string (⟨#[]⟩ : ByteArray), .int .i64 0, .int .i64 0, .int .i64 0]) ?_ 1 _ rfl; (with_reducible repeat (first | refine blk_drewN ?_ _ | refine blk_drew ?_ | refine blk_alloc ?_ _)); refine blk_put (cs := #[.int .u8 0, .int .u8 0, .string (⟨#[]⟩ : ByteArray), .int .i64 0, .int .i64 0, .int .i64 0]) ?_ 0 _ rfl; (with_reducible repeat (first | refine blk_drewN ?_ _ | refine blk_drew ?_ | refine blk_alloc ?_ _)); exact BK191.out) hb); have n2_ := Aside0.mk (below_step (by repeat (first | (with_reducible first | exact HB.out | apply below_alloc | apply pw_below_drewN | apply below_drew1 | refine below_set ?_ GE191.out) | exact HB.out)) hb); clear BK191; clear HB; have HO194 := n0_; have BK191 := n1_; have HB := n2_; clear n0_ n1_ n2_; (try clear hb); (try clear hb2); (try clear hk); (try clear hi); (try clear ho0); have hcz11_0 : w10.cell? ⟨gb191, 0, none⟩ = some (.int .u8 ((rd_T35 l0 a1).f0)) := (blk_cell BK191.out 0).trans rfl; have hcz11_1 : w10.cell? ⟨gb191, 1, none⟩ = some (.int .u8 ((rd_T35 l0 a1).f1)) := (blk_cell BK191.out 1).trans rfl; have hcz11_2 : w10.cell? ⟨gb191, 2, none⟩ = some (.string ((rd_T35 l0 a1).f2)) := (blk_cell BK191.out 2).trans rfl; have hcz11_3 : w10.cell? ⟨gb191, 3, none⟩ = some (.int .i64 ((rd_T35 l0 a1).f3)) := (blk_cell BK191.out 3).trans rfl; have hcz11_4 : w10.cell? ⟨gb191, 4, none⟩ = some (.int .i64 ((rd_T35 l0 a1).f4)) := (blk_cell BK191.out 4).trans rfl; have hcz11_5 : w10.cell? ⟨gb191, 5, none⟩ = some (.int .i64 ((rd_T35 l0 a1).f5)) := (blk_cell BK191.out 5).trans rfl; have hfz11_0 := blk_frozen BK191.out 0; have hfz11_1 := blk_frozen BK191.out 1; have hfz11_2 := blk_frozen BK191.out 2; have hfz11_3 := blk_frozen BK191.out 3; have hfz11_4 := blk_frozen BK191.out 4; have hfz11_5 := blk_frozen BK191.out 5) | ((with_reducible refine gate_callee (f := 123) rfl ?_); refine goesL_ (some 23) rfl rfl Tryz.func123 (by kernel_rfl) rfl #[.int .i64 ((rd_T35 l0 a1).f3), .int .i64 10] rfl (by (try simp only [List.map_toArray, List.map_cons, List.map_nil]); first | done | rfl | (simp only [List.length_drop, List.length_take]; rfl)) ?_; (with_reducible refine (strconv_FormatInt.calls ((rd_T35 l0 a1).f3) 10 t195 _ ?side1 A7.out).mono ?_); (case side1 => exact Globs.below HG.out (by repeat (first | (with_reducible first | exact HB.out | apply below_alloc | apply pw_below_drewN | apply below_drew1 | refine below_set ?_ GE191.out) | exact HB.out))); rintro e w12 ⟨rfl, hb⟩; refine ⟨_, rfl, ?_⟩; have n0_ := Aside0.mk (Kd.R_below (by (with_reducible repeat (first | apply Kd.R_alloc | apply Kd.R_drewN | apply Kd.R_drew)); exact HO194.out) hb); have n1_ := Aside0.mk (blk_below (g := gb191) (o := .cells #[.int .u8 ((rd_T35 l0 a1).f0), .int .u8 ((rd_T35 l0 a1).f1), .string ((rd_T35 l0 a1).f2), .int .i64 ((rd_T35 l0 a1).f3), .int .i64 ((rd_T35 l0 a1).f4), .int .i64 ((rd_T35 l0 a1).f5)] 35 (0, 0)) (by (with_reducible repeat (first | refine blk_drewN ?_ _ | refine blk_drew ?_ | refine blk_alloc ?_ _)); exact BK191.out) hb); have n2_ := Aside0.mk (below_step (by repeat (first | (with_reducible first | exact HB.out | apply below_alloc | apply pw_below_drewN | apply below_drew1 | refine below_set ?_ GE191.out) | exact HB.out)) hb); clear HO194; clear BK191; clear HB; have HO194 := n0_; have BK191 := n1_; have HB := n2_; clear n0_ n1_ n2_; (try clear hb); (try clear hb2); (try clear hk); (try clear hi)))
        go_ret
        exact ⟨by first | rfl | (simp [errW_none, errW_some] <;> rfl) | (simp [*, errW_none, errW_some] <;> rfl), by repeat (first | (with_reducible first | exact HB.out | apply below_alloc | apply pw_below_drewN | apply below_drew1 | refine below_set ?_ GE191.out) | exact HB.out)⟩
      · rw [if_neg c6] at H
        have c6b0 : (((rd_T35 l0 a1).f0) == 1) = false := beq_eq_false_iff_ne.mpr c6
        have c6b1 : (((rd_T35 l0 a1).f0) != 1) = true := bne_iff_ne.mpr c6
        by_cases c13 : ((rd_T35 l0 a1).f0) = 2
        · rw [if_pos c13] at H
          have c13b0 : (((rd_T35 l0 a1).f0) == 2) = true := beq_iff_eq.mpr c13
          have c13b1 : (((rd_T35 l0 a1).f0) != 2) = false := bne_eq_false_iff_eq.mpr c13
          clear c13
          replace H := Option.bind_eq_some_iff.mp H
          obtain ⟨t196, A140, H⟩ := H
          replace H : (if t196.size + 1 ≤ 9223372036854775807 then ((lex_Quote.f k ((rd_T35 l0 a1).f2)).bind fun t197 => (if (t196 ++ (⟨#[40]⟩ : ByteArray)).size + t197.size ≤ 9223372036854775807 then (if ((t196 ++ (⟨#[40]⟩ : ByteArray)) ++ t197).size + 1 ≤ 9223372036854775807 then (some (((t196 ++ (⟨#[40]⟩ : ByteArray)) ++ t197) ++ (⟨#[41]⟩ : ByteArray))) else (none)) else (none))) else (none)) = some r := H
          have A14 := Aside0.mk A140
          clear A140
          by_cases c15 : t196.size + 1 ≤ 9223372036854775807
          · rw [if_pos c15] at H
            have c15b0 := eq_true c15
            have c15b1 : decide (t196.size + 1 ≤ 9223372036854775807) = true := decide_eq_true c15
            try have c15b2 : (9223372036854775807 < t196.size + 1) = False := eq_false (Nat.not_lt.2 c15)
            replace H := Option.bind_eq_some_iff.mp H
            obtain ⟨t197, A160, H⟩ := H
            replace H : (if (t196 ++ (⟨#[40]⟩ : ByteArray)).size + t197.size ≤ 9223372036854775807 then (if ((t196 ++ (⟨#[40]⟩ : ByteArray)) ++ t197).size + 1 ≤ 9223372036854775807 then (some (((t196 ++ (⟨#[40]⟩ : ByteArray)) ++ t197) ++ (⟨#[41]⟩ : ByteArray))) else (none)) else (none)) = some r := H
            have A16 := Aside0.mk A160
            clear A160
            by_cases c17 : (t196 ++ (⟨#[40]⟩ : ByteArray)).size + t197.size ≤ 9223372036854775807
            · rw [if_pos c17] at H
              have c17b0 := eq_true c17
              have c17b1 : decide ((t196 ++ (⟨#[40]⟩ : ByteArray)).size + t197.size ≤ 9223372036854775807) = true := decide_eq_true c17
              try have c17b2 : (9223372036854775807 < (t196 ++ (⟨#[40]⟩ : ByteArray)).size + t197.size) = False := eq_false (Nat.not_lt.2 c17)
              try have c17b3 : (9223372036854775807 < t196.size + 1 + t197.size) = False := eq_false (Nat.not_lt.2 (by have h_ := c17; simp only [ByteArray.size_append] at h_; exact h_))
              by_cases c18 : ((t196 ++ (⟨#[40]⟩ : ByteArray)) ++ t197).size + 1 ≤ 9223372036854775807
              · rw [if_pos c18] at H
                have c18b0 := eq_true c18
                have c18b1 : decide (((t196 ++ (⟨#[40]⟩ : ByteArray)) ++ t197).size + 1 ≤ 9223372036854775807) = true := decide_eq_true c18
                try have c18b2 : (9223372036854775807 < ((t196 ++ (⟨#[40]⟩ : ByteArray)) ++ t197).size + 1) = False := eq_false (Nat.not_lt.2 c18)
                try have c18b3 : (9223372036854775807 < t196.size + 1 + t197.size + 1) = False := eq_false (Nat.not_lt.2 (by have h_ := c18; simp only [ByteArray.size_append] at h_; exact h_))
                obtain rfl := Option.some.inj H
                have p190 : 0 ≤ (a1 : Int) := of_decide_eq_true (by first | (with_reducible assumption) | assumption)
                have q190 : a1 < (l0.length : Int) := of_decide_eq_true (by first | (with_reducible assumption) | assumption)
                obtain ⟨ad190, e190, hx190_0, hx190_1, hx190_2, hx190_3, hx190_4, hx190_5⟩ := at_T35 HR0.out a1 p190 q190
                cases e190
                replace p190 := eq_true p190
                replace q190 := eq_true q190
                go_enter Tryz.func96, Tryz.ntmps96
                try go_wp2_with (first | ((with_reducible refine gate_dst (N := 5) rfl ?_); refine box_event ?hg (N := 5) ?hd (cs := #[.int .u8 0, .int .u8 0, .string (⟨#[]⟩ : ByteArray), .int .i64 0, .int .i64 0, .int .i64 0]) (t := 35) ?hr ?_; (case hd => rfl); (case hg => rfl); (case hr => first | (go_simp; done) | (go_simp; rfl)); intro gb191 hg w19 hbox hb; have n0_ := Aside0.mk (below_step (by repeat (first | (with_reducible first | exact HB.out | apply below_alloc | apply pw_below_drewN | apply below_drew1) | exact HB.out)) hb); have n1_ := Aside0.mk (hbox); have n2_ := Aside0.mk ((by rw [hg]; exact (below_size (by repeat (first | (with_reducible first | exact HB.out | apply below_alloc | apply pw_below_drewN | apply below_drew1) | exact HB.out))) : w.heap.size ≤ gb191)); have n3_ := Aside0.mk ((by rw [hg]; exact (below_size (by repeat (first | (with_reducible first | exact HB.out | apply below_alloc | apply pw_below_drewN | apply below_drew1) | exact HB.out))) : w.heap.size ≤ gb191)); clear HB; have HB := n0_; have BK191 := n1_; have GW191 := n2_; have GE191 := n3_; clear n0_ n1_ n2_ n3_; clear hb hbox hg; have hcz20_0 : w19.cell? ⟨gb191, 0, none⟩ = some (.int .u8 0) := (blk_cell BK191.out 0).trans rfl; have hcz20_1 : w19.cell? ⟨gb191, 1, none⟩ = some (.int .u8 0) := (blk_cell BK191.out 1).trans rfl; have hcz20_2 : w19.cell? ⟨gb191, 2, none⟩ = some (.string (⟨#[]⟩ : ByteArray)) := (blk_cell BK191.out 2).trans rfl; have hcz20_3 : w19.cell? ⟨gb191, 3, none⟩ = some (.int .i64 0) := (blk_cell BK191.out 3).trans rfl; have hcz20_4 : w19.cell? ⟨gb191, 4, none⟩ = some (.int .i64 0) := (blk_cell BK191.out 4).trans rfl; have hcz20_5 : w19.cell? ⟨gb191, 5, none⟩ = some (.int .i64 0) := (blk_cell BK191.out 5).trans rfl; have hfz20_0 := blk_frozen BK191.out 0; have hfz20_1 := blk_frozen BK191.out 1; have hfz20_2 := blk_frozen BK191.out 2; have hfz20_3 := blk_frozen BK191.out 3; have hfz20_4 := blk_frozen BK191.out 4; have hfz20_5 := blk_frozen BK191.out 5) | ((with_reducible refine gate_callee (f := 15) rfl ?_); refine goesL_ (some 16) rfl rfl Tryz.func15 (by kernel_rfl) rfl #[.slice (some ad190) l0.length c0, .int .i64 a1] rfl (by (try simp only [List.map_toArray, List.map_cons, List.map_nil]); first | done | rfl | (simp only [List.length_drop, List.length_take]; rfl)) ?_; (with_reducible refine (ast_Kids.calls k _ _ l0 a1 t192 _ ?side1 ?side2 A5.out).mono ?_); (case side1 => exact Kd.C_below HR0.out (by repeat (first | (with_reducible first | exact HB.out | apply below_alloc | apply pw_below_drewN | apply below_drew1 | refine below_set ?_ GE191.out) | exact HB.out))); (case side2 => exact HC0.out); rintro e w21 ⟨v193, rfl, ho0, hb⟩; refine ⟨_, rfl, ?_⟩; have n0_ := Aside0.mk (Kd.R_lower ho0 (below_size (by repeat (first | (with_reducible first | exact HB.out | apply below_alloc | apply pw_below_drewN | apply below_drew1 | refine below_set ?_ GE191.out) | exact HB.out)))); have n1_ := Aside0.mk (blk_below (g := gb191) (o := .cells #[.int .u8 ((rd_T35 l0 a1).f0), .int .u8 ((rd_T35 l0 a1).f1), .string ((rd_T35 l0 a1).f2), .int .i64 ((rd_T35 l0 a1).f3), .int .i64 ((rd_T35 l0 a1).f4), .int .i64 ((rd_T35 l0 a1).f5)] 35 (0, 0)) (by (with_reducible repeat (first | refine blk_drewN ?_ _ | refine blk_drew ?_ | refine blk_alloc ?_ _)); refine blk_put (cs := #[.int .u8 ((rd_T35 l0 a1).f0), .int .u8 ((rd_T35 l0 a1).f1), .string ((rd_T35 l0 a1).f2), .int .i64 ((rd_T35 l0 a1).f3), .int .i64 ((rd_T35 l0 a1).f4), .int .i64 0]) ?_ 5 _ rfl; (with_reducible repeat (first | refine blk_drewN ?_ _ | refine blk_drew ?_ | refine blk_alloc ?_ _)); refine blk_put (cs := #[.int .u8 ((rd_T35 l0 a1).f0), .int .u8 ((rd_T35 l0 a1).f1), .string ((rd_T35 l0 a1).f2), .int .i64 ((rd_T35 l0 a1).f3), .int .i64 0, .int .i64 0]) ?_ 4 _ rfl; (with_reducible repeat (first | refine blk_drewN ?_ _ | refine blk_drew ?_ | refine blk_alloc ?_ _)); refine blk_put (cs := #[.int .u8 ((rd_T35 l0 a1).f0), .int .u8 ((rd_T35 l0 a1).f1), .string ((rd_T35 l0 a1).f2), .int .i64 0, .int .i64 0, .int .i64 0]) ?_ 3 _ rfl; (with_reducible repeat (first | refine blk_drewN ?_ _ | refine blk_drew ?_ | refine blk_alloc ?_ _)); refine blk_put (cs := #[.int .u8 ((rd_T35 l0 a1).f0), .int .u8 ((rd_T35 l0 a1).f1), .string (⟨#[]⟩ : ByteArray), .int .i64 0, .int .i64 0, .int .i64 0]) ?_ 2 _ rfl; (with_reducible repeat (first | refine blk_drewN ?_ _ | refine blk_drew ?_ | refine blk_alloc ?_ _)); refine blk_put (cs := #[.int .u8 ((rd_T35 l0 a1).f0), .int .u8 0, .string (⟨#[]⟩ : ByteArray), .int .i64 0, .int .i64 0, .int .i64 0]) ?_ 1 _ rfl; (with_reducible repeat (first | refine blk_drewN ?_ _ | refine blk_drew ?_ | refine blk_alloc ?_ _)); refine blk_put (cs := #[.int .u8 0, .int .u8 0, .string (⟨#[]⟩ : ByteArray), .int .i64 0, .int .i64 0, .int .i64 0]) ?_ 0 _ rfl; (with_reducible repeat (first | refine blk_drewN ?_ _ | refine blk_drew ?_ | refine blk_alloc ?_ _)); exact BK191.out) hb); have n2_ := Aside0.mk (below_step (by repeat (first | (with_reducible first | exact HB.out | apply below_alloc | apply pw_below_drewN | apply below_drew1 | refine below_set ?_ GE191.out) | exact HB.out)) hb); clear BK191; clear HB; have HO194 := n0_; have BK191 := n1_; have HB := n2_; clear n0_ n1_ n2_; (try clear hb); (try clear hb2); (try clear hk); (try clear hi); (try clear ho0); have hcz22_0 : w21.cell? ⟨gb191, 0, none⟩ = some (.int .u8 ((rd_T35 l0 a1).f0)) := (blk_cell BK191.out 0).trans rfl; have hcz22_1 : w21.cell? ⟨gb191, 1, none⟩ = some (.int .u8 ((rd_T35 l0 a1).f1)) := (blk_cell BK191.out 1).trans rfl; have hcz22_2 : w21.cell? ⟨gb191, 2, none⟩ = some (.string ((rd_T35 l0 a1).f2)) := (blk_cell BK191.out 2).trans rfl; have hcz22_3 : w21.cell? ⟨gb191, 3, none⟩ = some (.int .i64 ((rd_T35 l0 a1).f3)) := (blk_cell BK191.out 3).trans rfl; have hcz22_4 : w21.cell? ⟨gb191, 4, none⟩ = some (.int .i64 ((rd_T35 l0 a1).f4)) := (blk_cell BK191.out 4).trans rfl; have hcz22_5 : w21.cell? ⟨gb191, 5, none⟩ = some (.int .i64 ((rd_T35 l0 a1).f5)) := (blk_cell BK191.out 5).trans rfl; have hfz22_0 := blk_frozen BK191.out 0; have hfz22_1 := blk_frozen BK191.out 1; have hfz22_2 := blk_frozen BK191.out 2; have hfz22_3 := blk_frozen BK191.out 3; have hfz22_4 := blk_frozen BK191.out 4; have hfz22_5 := blk_frozen BK191.out 5))
                have n0_ := Aside0.mk (Kd.R_drew HO194.out)
                have n1_ := Aside0.mk (blk_drew BK191.out)
                have n2_ := Aside0.mk (below_drew1 HB.out)
                clear HO194
                clear BK191
                clear HB
                have HO194 := n0_
                have BK191 := n1_
                have HB := n2_
                clear n0_ n1_ n2_
                refine start_ (n := 10) (S := fun w' => w'.cell? ⟨gb191, 0, none⟩ = some (.int .u8 ((rd_T35 l0 a1).f0)) ∧ w'.cell? ⟨gb191, 1, none⟩ = some (.int .u8 ((rd_T35 l0 a1).f1)) ∧ w'.cell? ⟨gb191, 2, none⟩ = some (.string ((rd_T35 l0 a1).f2)) ∧ w'.cell? ⟨gb191, 3, none⟩ = some (.int .i64 ((rd_T35 l0 a1).f3)) ∧ w'.cell? ⟨gb191, 4, none⟩ = some (.int .i64 ((rd_T35 l0 a1).f4)) ∧ w'.cell? ⟨gb191, 5, none⟩ = some (.int .i64 ((rd_T35 l0 a1).f5))) (ds := []) #[false, false, false, false, false, false, false, false, false, false] (by kernel_rfl) rfl rfl ⟨(blk_cell BK191.out 0).trans rfl, (blk_cell BK191.out 1).trans rfl, (blk_cell BK191.out 2).trans rfl, (blk_cell BK191.out 3).trans rfl, (blk_cell BK191.out 4).trans rfl, (blk_cell BK191.out 5).trans rfl⟩ (fun hHeld => ?_); refine with_tabW ast_sumText.tab7 ast_sumText.bits7 (fun HT_ HW_ => ?_)
                generalize w21.drew = w23 at HO194 BK191 HB hHeld ⊢
                refine pure_ (i := 0) (N := some 26) (v := ?_) (a' := ?_) #[true, false, false, false, false, false, false, false, false, false] rfl rfl (any_of HT_.out (by kernel_rfl)) (fun _ _ _ h => h) (Or.inl ⟨by rfl, ?_⟩) ?_ ?_
                rotate_left
                · intro w'
                  go_simp
                  with_reducible rfl
                rotate_left
                · simp only [Act.put, List.setIfInBounds_toArray, List.set_cons_zero, List.set_cons_succ, i64_w, i32_w]
                  rfl
                refine pure_ (i := 4) (N := some 30) (v := ?_) (a' := ?_) #[true, false, false, false, true, false, false, false, false, false] rfl rfl (any_of HT_.out (by kernel_rfl)) (fun _ _ _ h => h) (Or.inl ⟨by rfl, ?_⟩) ?_ ?_
                rotate_left
                · intro w'
                  go_simp
                  with_reducible rfl
                rotate_left
                · simp only [Act.put, List.setIfInBounds_toArray, List.set_cons_zero, List.set_cons_succ, i64_w, i32_w]
                  rfl
                refine take_ (i := 1) (N := some 27) (v := ?_) (a' := ?_) #[true, true, false, false, true, false, false, false, false, false] rfl rfl (take_ofW HT_.out HW_.out (by kernel_rfl)) (fun _ _ _ h => h) (Or.inl ⟨by rfl, ?_⟩) hHeld ?_ ?_
                rotate_left
                · rintro w' ⟨s0, s1, s2, s3, s4, s5⟩
                  go_simp
                  with_reducible rfl
                rotate_left
                · simp only [Act.put, List.setIfInBounds_toArray, List.set_cons_zero, List.set_cons_succ, i64_w, i32_w]
                  rfl
                refine take_ (i := 5) (N := some 31) (v := ?_) (a' := ?_) #[true, true, false, false, true, true, false, false, false, false] rfl rfl (take_ofW HT_.out HW_.out (by kernel_rfl)) (fun _ _ _ h => h) (Or.inl ⟨by rfl, ?_⟩) hHeld ?_ ?_
                rotate_left
                · rintro w' ⟨s0, s1, s2, s3, s4, s5⟩
                  go_simp
                  with_reducible rfl
                rotate_left
                · simp only [Act.put, List.setIfInBounds_toArray, List.set_cons_zero, List.set_cons_succ, i64_w, i32_w]
                  rfl
                refine one_ (i := 2) (N := some 28) #[true, true, true, false, true, true, false, false, false, false] rfl rfl (one_of HT_.out (by kernel_rfl)) (by decide) (fun K hK => ?_)
                refine goes_ Tryz.func124 (by kernel_rfl) rfl #[.int .u8 ((rd_T35 l0 a1).f1)] (by rfl) rfl rfl (by (try simp only [List.map_toArray, List.map_cons, List.map_nil]); first | done | rfl | (simp only [List.length_drop, List.length_take]; rfl)) ?_
                with_reducible refine (ast_name.calls ((rd_T35 l0 a1).f1) t196 _ A14.out).mono ?_
                rintro e w' ⟨rfl, ⟨nd, rfl⟩⟩
                refine ⟨_, rfl, ?_⟩
                refine hK.out _ _ ⟨(blk_cell BK191.out 0).trans rfl, (blk_cell BK191.out 1).trans rfl, (blk_cell BK191.out 2).trans rfl, (blk_cell BK191.out 3).trans rfl, (blk_cell BK191.out 4).trans rfl, (blk_cell BK191.out 5).trans rfl⟩ (fun hHeld => ?_)
                clear hK K
                refine norm_ (a' := ?_) ?_ ?_
                rotate_left
                · show Act.put _ (some 28) _ = _
                  simp only [Act.put, List.setIfInBounds_toArray, List.set_cons_zero, List.set_cons_succ, i64_w, i32_w]
                  rfl
                refine pure_ (i := 3) (N := some 29) (v := ?_) (a' := ?_) #[true, true, true, true, true, true, false, false, false, false] rfl rfl (any_of HT_.out (by kernel_rfl)) (fun _ _ _ h => h) (Or.inl ⟨by rfl, ?_⟩) ?_ ?_
                rotate_left
                · intro w'
                  go_simp
                  with_reducible rfl
                rotate_left
                · simp only [Act.put, List.setIfInBounds_toArray, List.set_cons_zero, List.set_cons_succ, i64_w, i32_w]
                  rfl
                refine one_ (i := 6) (N := some 32) #[true, true, true, true, true, true, true, false, false, false] rfl rfl (one_of HT_.out (by kernel_rfl)) (by decide) (fun K hK => ?_)
                refine goes_ Tryz.func125 (by kernel_rfl) rfl #[.string ((rd_T35 l0 a1).f2)] (by rfl) rfl rfl (by (try simp only [List.map_toArray, List.map_cons, List.map_nil]); first | done | rfl | (simp only [List.length_drop, List.length_take]; rfl)) ?_
                with_reducible refine (lex_Quote.calls k ((rd_T35 l0 a1).f2) t197 _ A16.out).mono ?_
                rintro e w24 ⟨rfl, hb⟩
                refine ⟨_, rfl, ?_⟩
                have n0_ := Aside0.mk (Kd.R_below (by (with_reducible repeat (first | apply Kd.R_alloc | apply Kd.R_drewN | apply Kd.R_drew)); exact HO194.out) hb)
                have n1_ := Aside0.mk (blk_below (g := gb191) (o := .cells #[.int .u8 ((rd_T35 l0 a1).f0), .int .u8 ((rd_T35 l0 a1).f1), .string ((rd_T35 l0 a1).f2), .int .i64 ((rd_T35 l0 a1).f3), .int .i64 ((rd_T35 l0 a1).f4), .int .i64 ((rd_T35 l0 a1).f5)] 35 (0, 0)) (by (with_reducible repeat (first | refine blk_drewN ?_ _ | refine blk_drew ?_ | refine blk_alloc ?_ _)); exact BK191.out) hb)
                have n2_ := Aside0.mk (below_step (by repeat (first | (with_reducible first | exact HB.out | apply below_alloc | apply pw_below_drewN | apply below_drew1 | refine below_set ?_ GE191.out) | exact HB.out)) hb)
                clear HO194
                clear BK191
                clear HB
                have HO194 := n0_
                have BK191 := n1_
                have HB := n2_
                clear n0_ n1_ n2_
                (try clear hb)
                (try clear hb2)
                (try clear hk)
                (try clear hi)
                refine hK.out _ _ ⟨(blk_cell BK191.out 0).trans rfl, (blk_cell BK191.out 1).trans rfl, (blk_cell BK191.out 2).trans rfl, (blk_cell BK191.out 3).trans rfl, (blk_cell BK191.out 4).trans rfl, (blk_cell BK191.out 5).trans rfl⟩ (fun hHeld => ?_)
                clear hK K
                refine norm_ (a' := ?_) ?_ ?_
                rotate_left
                · show Act.put _ (some 32) _ = _
                  simp only [Act.put, List.setIfInBounds_toArray, List.set_cons_zero, List.set_cons_succ, i64_w, i32_w]
                  rfl
                refine pure_ (i := 7) (N := some 33) (v := ?_) (a' := ?_) #[true, true, true, true, true, true, true, true, false, false] rfl rfl (any_of HT_.out (by kernel_rfl)) (fun _ _ _ h => h) (Or.inl ⟨by rfl, ?_⟩) ?_ ?_
                rotate_left
                · intro w'
                  go_simp
                  with_reducible rfl
                rotate_left
                · simp only [Act.put, List.setIfInBounds_toArray, List.set_cons_zero, List.set_cons_succ, i64_w, i32_w]
                  rfl
                refine pure_ (i := 8) (N := some 34) (v := ?_) (a' := ?_) #[true, true, true, true, true, true, true, true, true, false] rfl rfl (any_of HT_.out (by kernel_rfl)) (fun _ _ _ h => h) (Or.inl ⟨by rfl, ?_⟩) ?_ ?_
                rotate_left
                · intro w'
                  go_simp
                  with_reducible rfl
                rotate_left
                · simp only [Act.put, List.setIfInBounds_toArray, List.set_cons_zero, List.set_cons_succ, i64_w, i32_w]
                  rfl
                refine pure_ (i := 9) (N := some 4) (v := ?_) (a' := ?_) #[true, true, true, true, true, true, true, true, true, true] rfl rfl (any_of HT_.out (by kernel_rfl)) (fun _ _ _ h => h) (Or.inl ⟨by rfl, ?_⟩) ?_ ?_
                rotate_left
                · intro w'
                  go_simp
                  with_reducible rfl
                rotate_left
                · simp only [Act.put, List.setIfInBounds_toArray, List.set_cons_zero, List.set_cons_succ, i64_w, i32_w]
                  rfl
                refine done_ (done_of HT_.out (by kernel_rfl)) ?_
                try go_wp2
                go_ret
                exact ⟨by first | rfl | (simp [errW_none, errW_some] <;> rfl) | (simp [*, errW_none, errW_some] <;> rfl), by repeat (first | (with_reducible first | exact HB.out | apply below_alloc | apply pw_below_drewN | apply below_drew1 | refine below_set ?_ GE191.out) | exact HB.out)⟩
              · rw [if_neg c18] at H
                exact absurd H (by simp)
            · rw [if_neg c17] at H
              exact absurd H (by simp)
          · rw [if_neg c15] at H
            exact absurd H (by simp)
        · rw [if_neg c13] at H
          have c13b0 : (((rd_T35 l0 a1).f0) == 2) = false := beq_eq_false_iff_ne.mpr c13
          have c13b1 : (((rd_T35 l0 a1).f0) != 2) = true := bne_iff_ne.mpr c13
          by_cases c25 : ((rd_T35 l0 a1).f0) = 3
          · rw [if_pos c25] at H
            have c25b0 : (((rd_T35 l0 a1).f0) == 3) = true := beq_iff_eq.mpr c25
            have c25b1 : (((rd_T35 l0 a1).f0) != 3) = false := bne_eq_false_iff_eq.mpr c25
            clear c25
            by_cases c26 : 0 < (t192.length : Int)
            · rw [if_pos c26] at H
              have c26b0 : decide (0 < (t192.length : Int)) = true := decide_eq_true c26
              have c26b1 : decide (0 < t192.length) = true := decide_eq_true (by omega)
              clear c26
              replace H := Option.bind_eq_some_iff.mp H
              obtain ⟨t199, A270, H⟩ := H
              replace H : (if 0 ≤ (rd t192 0) then (if (rd t192 0) < (l0.length : Int) then ((ast_bracketed.f t199 (((rd_T35 l0 (rd t192 0)).f0) != 2)).bind fun t202 => (if 1 + t202.size ≤ 9223372036854775807 then (some ((⟨#[45]⟩ : ByteArray) ++ t202)) else (none))) else (none)) else (none)) = some r := H
              have A27 := Aside0.mk A270
              clear A270
              by_cases c28 : 0 ≤ (rd t192 0)
              · rw [if_pos c28] at H
                have c28b0 : decide (0 ≤ (rd t192 0)) = true := decide_eq_true c28
                clear c28
                by_cases c29 : (rd t192 0) < (l0.length : Int)
                · rw [if_pos c29] at H
                  have c29b0 : decide ((rd t192 0) < (l0.length : Int)) = true := decide_eq_true c29
                  clear c29
                  replace H := Option.bind_eq_some_iff.mp H
                  obtain ⟨t202, A300, H⟩ := H
                  replace H : (if 1 + t202.size ≤ 9223372036854775807 then (some ((⟨#[45]⟩ : ByteArray) ++ t202)) else (none)) = some r := H
                  have A30 := Aside0.mk A300
                  clear A300
                  by_cases c31 : 1 + t202.size ≤ 9223372036854775807
                  · rw [if_pos c31] at H
                    have c31b0 := eq_true c31
                    have c31b1 : decide (1 + t202.size ≤ 9223372036854775807) = true := decide_eq_true c31
                    try have c31b2 : (9223372036854775807 < 1 + t202.size) = False := eq_false (Nat.not_lt.2 c31)
                    obtain rfl := Option.some.inj H
                    have p190 : 0 ≤ (a1 : Int) := of_decide_eq_true (by first | (with_reducible assumption) | assumption)
                    have q190 : a1 < (l0.length : Int) := of_decide_eq_true (by first | (with_reducible assumption) | assumption)
                    obtain ⟨ad190, e190, hx190_0, hx190_1, hx190_2, hx190_3, hx190_4, hx190_5⟩ := at_T35 HR0.out a1 p190 q190
                    cases e190
                    replace p190 := eq_true p190
                    replace q190 := eq_true q190
                    go_enter Tryz.func96, Tryz.ntmps96
                    try go_wp2_with (first | ((with_reducible refine gate_dst (N := 5) rfl ?_); refine box_event ?hg (N := 5) ?hd (cs := #[.int .u8 0, .int .u8 0, .string (⟨#[]⟩ : ByteArray), .int .i64 0, .int .i64 0, .int .i64 0]) (t := 35) ?hr ?_; (case hd => rfl); (case hg => rfl); (case hr => first | (go_simp; done) | (go_simp; rfl)); intro gb191 hg w32 hbox hb; have n0_ := Aside0.mk (below_step (by repeat (first | (with_reducible first | exact HB.out | apply below_alloc | apply pw_below_drewN | apply below_drew1) | exact HB.out)) hb); have n1_ := Aside0.mk (hbox); have n2_ := Aside0.mk ((by rw [hg]; exact (below_size (by repeat (first | (with_reducible first | exact HB.out | apply below_alloc | apply pw_below_drewN | apply below_drew1) | exact HB.out))) : w.heap.size ≤ gb191)); have n3_ := Aside0.mk ((by rw [hg]; exact (below_size (by repeat (first | (with_reducible first | exact HB.out | apply below_alloc | apply pw_below_drewN | apply below_drew1) | exact HB.out))) : w.heap.size ≤ gb191)); clear HB; have HB := n0_; have BK191 := n1_; have GW191 := n2_; have GE191 := n3_; clear n0_ n1_ n2_ n3_; clear hb hbox hg; have hcz33_0 : w32.cell? ⟨gb191, 0, none⟩ = some (.int .u8 0) := (blk_cell BK191.out 0).trans rfl; have hcz33_1 : w32.cell? ⟨gb191, 1, none⟩ = some (.int .u8 0) := (blk_cell BK191.out 1).trans rfl; have hcz33_2 : w32.cell? ⟨gb191, 2, none⟩ = some (.string (⟨#[]⟩ : ByteArray)) := (blk_cell BK191.out 2).trans rfl; have hcz33_3 : w32.cell? ⟨gb191, 3, none⟩ = some (.int .i64 0) := (blk_cell BK191.out 3).trans rfl; have hcz33_4 : w32.cell? ⟨gb191, 4, none⟩ = some (.int .i64 0) := (blk_cell BK191.out 4).trans rfl; have hcz33_5 : w32.cell? ⟨gb191, 5, none⟩ = some (.int .i64 0) := (blk_cell BK191.out 5).trans rfl; have hfz33_0 := blk_frozen BK191.out 0; have hfz33_1 := blk_frozen BK191.out 1; have hfz33_2 := blk_frozen BK191.out 2; have hfz33_3 := blk_frozen BK191.out 3; have hfz33_4 := blk_frozen BK191.out 4; have hfz33_5 := blk_frozen BK191.out 5) | ((with_reducible refine gate_callee (f := 15) rfl ?_); refine goesL_ (some 16) rfl rfl Tryz.func15 (by kernel_rfl) rfl #[.slice (some ad190) l0.length c0, .int .i64 a1] rfl (by (try simp only [List.map_toArray, List.map_cons, List.map_nil]); first | done | rfl | (simp only [List.length_drop, List.length_take]; rfl)) ?_; (with_reducible refine (ast_Kids.calls k _ _ l0 a1 t192 _ ?side1 ?side2 A5.out).mono ?_); (case side1 => exact Kd.C_below HR0.out (by repeat (first | (with_reducible first | exact HB.out | apply below_alloc | apply pw_below_drewN | apply below_drew1 | refine below_set ?_ GE191.out) | exact HB.out))); (case side2 => exact HC0.out); rintro e w34 ⟨v193, rfl, ho0, hb⟩; refine ⟨_, rfl, ?_⟩; have n0_ := Aside0.mk (Kd.R_lower ho0 (below_size (by repeat (first | (with_reducible first | exact HB.out | apply below_alloc | apply pw_below_drewN | apply below_drew1 | refine below_set ?_ GE191.out) | exact HB.out)))); have n1_ := Aside0.mk (blk_below (g := gb191) (o := .cells #[.int .u8 ((rd_T35 l0 a1).f0), .int .u8 ((rd_T35 l0 a1).f1), .string ((rd_T35 l0 a1).f2), .int .i64 ((rd_T35 l0 a1).f3), .int .i64 ((rd_T35 l0 a1).f4), .int .i64 ((rd_T35 l0 a1).f5)] 35 (0, 0)) (by (with_reducible repeat (first | refine blk_drewN ?_ _ | refine blk_drew ?_ | refine blk_alloc ?_ _)); refine blk_put (cs := #[.int .u8 ((rd_T35 l0 a1).f0), .int .u8 ((rd_T35 l0 a1).f1), .string ((rd_T35 l0 a1).f2), .int .i64 ((rd_T35 l0 a1).f3), .int .i64 ((rd_T35 l0 a1).f4), .int .i64 0]) ?_ 5 _ rfl; (with_reducible repeat (first | refine blk_drewN ?_ _ | refine blk_drew ?_ | refine blk_alloc ?_ _)); refine blk_put (cs := #[.int .u8 ((rd_T35 l0 a1).f0), .int .u8 ((rd_T35 l0 a1).f1), .string ((rd_T35 l0 a1).f2), .int .i64 ((rd_T35 l0 a1).f3), .int .i64 0, .int .i64 0]) ?_ 4 _ rfl; (with_reducible repeat (first | refine blk_drewN ?_ _ | refine blk_drew ?_ | refine blk_alloc ?_ _)); refine blk_put (cs := #[.int .u8 ((rd_T35 l0 a1).f0), .int .u8 ((rd_T35 l0 a1).f1), .string ((rd_T35 l0 a1).f2), .int .i64 0, .int .i64 0, .int .i64 0]) ?_ 3 _ rfl; (with_reducible repeat (first | refine blk_drewN ?_ _ | refine blk_drew ?_ | refine blk_alloc ?_ _)); refine blk_put (cs := #[.int .u8 ((rd_T35 l0 a1).f0), .int .u8 ((rd_T35 l0 a1).f1), .string (⟨#[]⟩ : ByteArray), .int .i64 0, .int .i64 0, .int .i64 0]) ?_ 2 _ rfl; (with_reducible repeat (first | refine blk_drewN ?_ _ | refine blk_drew ?_ | refine blk_alloc ?_ _)); refine blk_put (cs := #[.int .u8 ((rd_T35 l0 a1).f0), .int .u8 0, .string (⟨#[]⟩ : ByteArray), .int .i64 0, .int .i64 0, .int .i64 0]) ?_ 1 _ rfl; (with_reducible repeat (first | refine blk_drewN ?_ _ | refine blk_drew ?_ | refine blk_alloc ?_ _)); refine blk_put (cs := #[.int .u8 0, .int .u8 0, .string (⟨#[]⟩ : ByteArray), .int .i64 0, .int .i64 0, .int .i64 0]) ?_ 0 _ rfl; (with_reducible repeat (first | refine blk_drewN ?_ _ | refine blk_drew ?_ | refine blk_alloc ?_ _)); exact BK191.out) hb); have n2_ := Aside0.mk (below_step (by repeat (first | (with_reducible first | exact HB.out | apply below_alloc | apply pw_below_drewN | apply below_drew1 | refine below_set ?_ GE191.out) | exact HB.out)) hb); clear BK191; clear HB; have HO194 := n0_; have BK191 := n1_; have HB := n2_; clear n0_ n1_ n2_; (try clear hb); (try clear hb2); (try clear hk); (try clear hi); (try clear ho0); have hcz35_0 : w34.cell? ⟨gb191, 0, none⟩ = some (.int .u8 ((rd_T35 l0 a1).f0)) := (blk_cell BK191.out 0).trans rfl; have hcz35_1 : w34.cell? ⟨gb191, 1, none⟩ = some (.int .u8 ((rd_T35 l0 a1).f1)) := (blk_cell BK191.out 1).trans rfl; have hcz35_2 : w34.cell? ⟨gb191, 2, none⟩ = some (.string ((rd_T35 l0 a1).f2)) := (blk_cell BK191.out 2).trans rfl; have hcz35_3 : w34.cell? ⟨gb191, 3, none⟩ = some (.int .i64 ((rd_T35 l0 a1).f3)) := (blk_cell BK191.out 3).trans rfl; have hcz35_4 : w34.cell? ⟨gb191, 4, none⟩ = some (.int .i64 ((rd_T35 l0 a1).f4)) := (blk_cell BK191.out 4).trans rfl; have hcz35_5 : w34.cell? ⟨gb191, 5, none⟩ = some (.int .i64 ((rd_T35 l0 a1).f5)) := (blk_cell BK191.out 5).trans rfl; have hfz35_0 := blk_frozen BK191.out 0; have hfz35_1 := blk_frozen BK191.out 1; have hfz35_2 := blk_frozen BK191.out 2; have hfz35_3 := blk_frozen BK191.out 3; have hfz35_4 := blk_frozen BK191.out 4; have hfz35_5 := blk_frozen BK191.out 5))
                    have n0_ := Aside0.mk (Kd.R_drew HO194.out)
                    have n1_ := Aside0.mk (blk_drew BK191.out)
                    have n2_ := Aside0.mk (below_drew1 HB.out)
                    clear HO194
                    clear BK191
                    clear HB
                    have HO194 := n0_
                    have BK191 := n1_
                    have HB := n2_
                    clear n0_ n1_ n2_
                    obtain ⟨Ao37, co37, eo37⟩ := Kd.R_slice HO194.out
                    (first | subst eo37 | (injection eo37 with f1_ f2_ f3_; have f4_ := f1_.symm; have f5_ := f3_.symm; clear f1_ f2_ f3_; subst f4_; subst f5_))
                    have p198 : 0 ≤ (0 : Int) := (by omega)
                    have q198 : 0 < (t192.length : Int) := of_decide_eq_true (by first | (with_reducible assumption) | assumption)
                    obtain ⟨ad198, e198, hx198_0⟩ := Kd.at_int (Kd.R_reads' HO194.out).2.2 0 p198 q198
                    cases e198
                    have qi198 : (0 < t192.length) = True := eq_true (by omega)
                    (try rw [show ((0 : Int)).toNat = 0 from rfl] at hx198_0)
                    (try rw [Addr.add_zero'] at hx198_0)
                    replace p198 := eq_true p198
                    replace q198 := eq_true q198
                    have p200 : 0 ≤ (0 : Int) := (by omega)
                    have q200 : 0 < (t192.length : Int) := of_decide_eq_true (by first | (with_reducible assumption) | assumption)
                    obtain ⟨ad200, e200, hx200_0⟩ := Kd.at_int (Kd.R_reads' HO194.out).2.2 0 p200 q200
                    obtain rfl : ad198 = ad200 := (by injection e200)
                    have qi200 : (0 < t192.length) = True := eq_true (by omega)
                    (try rw [show ((0 : Int)).toNat = 0 from rfl] at hx200_0)
                    (try rw [Addr.add_zero'] at hx200_0)
                    replace p200 := eq_true p200
                    replace q200 := eq_true q200
                    have p201 : 0 ≤ ((rd t192 0) : Int) := of_decide_eq_true (by first | (with_reducible assumption) | assumption)
                    have q201 : (rd t192 0) < (l0.length : Int) := of_decide_eq_true (by first | (with_reducible assumption) | assumption)
                    obtain ⟨ad201, e201, hx201_0, hx201_1, hx201_2, hx201_3, hx201_4, hx201_5⟩ := at_T35 HR0.out (rd t192 0) p201 q201
                    have hw201_5 := hx201_5
                    have hw201_4 := hx201_4
                    have hw201_3 := hx201_3
                    have hw201_2 := hx201_2
                    have hw201_1 := hx201_1
                    have hw201_0 := hx201_0
                    obtain rfl : ad190 = ad201 := (by injection e201)
                    replace hx201_0 := (HB.out.cell (World.block_lt_of_cell? w _ hx201_0)).trans hx201_0
                    replace hx201_1 := (HB.out.cell (World.block_lt_of_cell? w _ hx201_1)).trans hx201_1
                    replace hx201_2 := (HB.out.cell (World.block_lt_of_cell? w _ hx201_2)).trans hx201_2
                    replace hx201_3 := (HB.out.cell (World.block_lt_of_cell? w _ hx201_3)).trans hx201_3
                    replace hx201_4 := (HB.out.cell (World.block_lt_of_cell? w _ hx201_4)).trans hx201_4
                    replace hx201_5 := (HB.out.cell (World.block_lt_of_cell? w _ hx201_5)).trans hx201_5
                    replace p201 := eq_true p201
                    replace q201 := eq_true q201
                    refine start_ (n := 16) (S := fun w' => w'.cell? ad198 = some (.int .i64 (rd t192 0)) ∧ w'.cell? ad198 = some (.int .i64 (rd t192 0)) ∧ w'.cell? (ad190.add (((rd t192 0)).toNat * 6)) = some (.int .u8 ((rd_T35 l0 (rd t192 0)).f0)) ∧ w'.cell? ⟨(ad190.add (((rd t192 0)).toNat * 6)).block, (ad190.add (((rd t192 0)).toNat * 6)).off + 1, none⟩ = some (.int .u8 ((rd_T35 l0 (rd t192 0)).f1)) ∧ w'.cell? ⟨(ad190.add (((rd t192 0)).toNat * 6)).block, (ad190.add (((rd t192 0)).toNat * 6)).off + 2, none⟩ = some (.string ((rd_T35 l0 (rd t192 0)).f2)) ∧ w'.cell? ⟨(ad190.add (((rd t192 0)).toNat * 6)).block, (ad190.add (((rd t192 0)).toNat * 6)).off + 3, none⟩ = some (.int .i64 ((rd_T35 l0 (rd t192 0)).f3)) ∧ w'.cell? ⟨(ad190.add (((rd t192 0)).toNat * 6)).block, (ad190.add (((rd t192 0)).toNat * 6)).off + 4, none⟩ = some (.int .i64 ((rd_T35 l0 (rd t192 0)).f4)) ∧ w'.cell? ⟨(ad190.add (((rd t192 0)).toNat * 6)).block, (ad190.add (((rd t192 0)).toNat * 6)).off + 5, none⟩ = some (.int .i64 ((rd_T35 l0 (rd t192 0)).f5))) (ds := []) #[false, false, false, false, false, false, false, false, false, false, false, false, false, false, false, false] (by kernel_rfl) rfl rfl ⟨hx198_0, hx200_0, ((HB.out.cell (World.block_lt_of_cell? w _ hw201_0)).trans hw201_0), ((HB.out.cell (World.block_lt_of_cell? w _ hw201_1)).trans hw201_1), ((HB.out.cell (World.block_lt_of_cell? w _ hw201_2)).trans hw201_2), ((HB.out.cell (World.block_lt_of_cell? w _ hw201_3)).trans hw201_3), ((HB.out.cell (World.block_lt_of_cell? w _ hw201_4)).trans hw201_4), ((HB.out.cell (World.block_lt_of_cell? w _ hw201_5)).trans hw201_5)⟩ (fun hHeld => ?_); refine with_tabW ast_sumText.tab9 ast_sumText.bits9 (fun HT_ HW_ => ?_)
                    generalize w34.drew = w36 at HO194 BK191 HB hx198_0 hx200_0 hx201_0 hx201_1 hx201_2 hx201_3 hx201_4 hx201_5 hHeld ⊢
                    refine pure_ (i := 0) (N := some 37) (v := ?_) (a' := ?_) #[true, false, false, false, false, false, false, false, false, false, false, false, false, false, false, false] rfl rfl (any_of HT_.out (by kernel_rfl)) (fun _ _ _ h => h) (Or.inl ⟨by rfl, ?_⟩) ?_ ?_
                    rotate_left
                    · intro w'
                      go_simp
                      with_reducible rfl
                    rotate_left
                    · simp only [Act.put, List.setIfInBounds_toArray, List.set_cons_zero, List.set_cons_succ, i64_w, i32_w]
                      rfl
                    refine pure_ (i := 1) (N := some 38) (v := ?_) (a' := ?_) #[true, true, false, false, false, false, false, false, false, false, false, false, false, false, false, false] rfl rfl (any_of HT_.out (by kernel_rfl)) (fun _ _ _ h => h) (Or.inl ⟨by rfl, ?_⟩) ?_ ?_
                    rotate_left
                    · intro w'
                      go_simp
                      with_reducible rfl
                    rotate_left
                    · simp only [Act.put, List.setIfInBounds_toArray, List.set_cons_zero, List.set_cons_succ, i64_w, i32_w]
                      rfl
                    refine pure_ (i := 2) (N := some 39) (v := ?_) (a' := ?_) #[true, true, true, false, false, false, false, false, false, false, false, false, false, false, false, false] rfl rfl (any_of HT_.out (by kernel_rfl)) (fun _ _ _ h => h) (Or.inl ⟨by rfl, ?_⟩) ?_ ?_
                    rotate_left
                    · intro w'
                      go_simp
                      with_reducible rfl
                    rotate_left
                    · simp only [Act.put, List.setIfInBounds_toArray, List.set_cons_zero, List.set_cons_succ, i64_w, i32_w]
                      rfl
                    refine pure_ (i := 5) (N := some 42) (v := ?_) (a' := ?_) #[true, true, true, false, false, true, false, false, false, false, false, false, false, false, false, false] rfl rfl (any_of HT_.out (by kernel_rfl)) (fun _ _ _ h => h) (Or.inl ⟨by rfl, ?_⟩) ?_ ?_
                    rotate_left
                    · intro w'
                      go_simp
                      with_reducible rfl
                    rotate_left
                    · simp only [Act.put, List.setIfInBounds_toArray, List.set_cons_zero, List.set_cons_succ, i64_w, i32_w]
                      rfl
                    refine pure_ (i := 6) (N := some 43) (v := ?_) (a' := ?_) #[true, true, true, false, false, true, true, false, false, false, false, false, false, false, false, false] rfl rfl (any_of HT_.out (by kernel_rfl)) (fun _ _ _ h => h) (Or.inl ⟨by rfl, ?_⟩) ?_ ?_
                    rotate_left
                    · intro w'
                      go_simp
                      with_reducible rfl
                    rotate_left
                    · simp only [Act.put, List.setIfInBounds_toArray, List.set_cons_zero, List.set_cons_succ, i64_w, i32_w]
                      rfl
                    refine pure_ (i := 7) (N := some 44) (v := ?_) (a' := ?_) #[true, true, true, false, false, true, true, true, false, false, false, false, false, false, false, false] rfl rfl (any_of HT_.out (by kernel_rfl)) (fun _ _ _ h => h) (Or.inl ⟨by rfl, ?_⟩) ?_ ?_
                    rotate_left
                    · intro w'
                      go_simp
                      with_reducible rfl
                    rotate_left
                    · simp only [Act.put, List.setIfInBounds_toArray, List.set_cons_zero, List.set_cons_succ, i64_w, i32_w]
                      rfl
                    refine take_ (i := 3) (N := some 40) (v := ?_) (a' := ?_) #[true, true, true, true, false, true, true, true, false, false, false, false, false, false, false, false] rfl rfl (take_ofW HT_.out HW_.out (by kernel_rfl)) (fun _ _ _ h => h) (Or.inl ⟨by rfl, ?_⟩) hHeld ?_ ?_
                    rotate_left
                    · rintro w' ⟨s0, s1, s2, s3, s4, s5, s6, s7⟩
                      go_simp
                      with_reducible rfl
                    rotate_left
                    · simp only [Act.put, List.setIfInBounds_toArray, List.set_cons_zero, List.set_cons_succ, i64_w, i32_w]
                      rfl
                    refine take_ (i := 8) (N := some 45) (v := ?_) (a' := ?_) #[true, true, true, true, false, true, true, true, true, false, false, false, false, false, false, false] rfl rfl (take_ofW HT_.out HW_.out (by kernel_rfl)) (fun _ _ _ h => h) (Or.inl ⟨by rfl, ?_⟩) hHeld ?_ ?_
                    rotate_left
                    · rintro w' ⟨s0, s1, s2, s3, s4, s5, s6, s7⟩
                      go_simp
                      with_reducible rfl
                    rotate_left
                    · simp only [Act.put, List.setIfInBounds_toArray, List.set_cons_zero, List.set_cons_succ, i64_w, i32_w]
                      rfl
                    refine pure_ (i := 9) (N := some 46) (v := ?_) (a' := ?_) #[true, true, true, true, false, true, true, true, true, true, false, false, false, false, false, false] rfl rfl (any_of HT_.out (by kernel_rfl)) (fun _ _ _ h => h) (Or.inl ⟨by rfl, ?_⟩) ?_ ?_
                    rotate_left
                    · intro w'
                      go_simp
                      with_reducible rfl
                    rotate_left
                    · simp only [Act.put, List.setIfInBounds_toArray, List.set_cons_zero, List.set_cons_succ, i64_w, i32_w]
                      rfl
                    refine pure_ (i := 10) (N := some 47) (v := ?_) (a' := ?_) #[true, true, true, true, false, true, true, true, true, true, true, false, false, false, false, false] rfl rfl (any_of HT_.out (by kernel_rfl)) (fun _ _ _ h => h) (Or.inl ⟨by rfl, ?_⟩) ?_ ?_
                    rotate_left
                    · intro w'
                      go_simp
                      with_reducible rfl
                    rotate_left
                    · simp only [Act.put, List.setIfInBounds_toArray, List.set_cons_zero, List.set_cons_succ, i64_w, i32_w]
                      rfl
                    refine take_ (i := 11) (N := some 48) (v := ?_) (a' := ?_) #[true, true, true, true, false, true, true, true, true, true, true, true, false, false, false, false] rfl rfl (take_ofW HT_.out HW_.out (by kernel_rfl)) (fun _ _ _ h => h) (Or.inl ⟨by rfl, ?_⟩) hHeld ?_ ?_
                    rotate_left
                    · rintro w' ⟨s0, s1, s2, s3, s4, s5, s6, s7⟩
                      go_simp
                      with_reducible rfl
                    rotate_left
                    · simp only [Act.put, List.setIfInBounds_toArray, List.set_cons_zero, List.set_cons_succ, i64_w, i32_w]
                      rfl
                    refine pure_ (i := 12) (N := some 49) (v := ?_) (a' := ?_) #[true, true, true, true, false, true, true, true, true, true, true, true, true, false, false, false] rfl rfl (any_of HT_.out (by kernel_rfl)) (fun _ _ _ h => h) (Or.inl ⟨by rfl, ?_⟩) ?_ ?_
                    rotate_left
                    · intro w'
                      go_simp
                      with_reducible rfl
                    rotate_left
                    · simp only [Act.put, List.setIfInBounds_toArray, List.set_cons_zero, List.set_cons_succ, i64_w, i32_w]
                      rfl
                    refine one_ (i := 4) (N := some 41) #[true, true, true, true, true, true, true, true, true, true, true, true, true, false, false, false] rfl rfl (one_of HT_.out (by kernel_rfl)) (by decide) (fun K hK => ?_)
                    refine goes_ Tryz.func96 (by kernel_rfl) rfl #[.slice (some ad190) l0.length c0, .int .i64 (rd t192 0)] (by rfl) rfl rfl (by (try simp only [List.map_toArray, List.map_cons, List.map_nil]); first | done | rfl | (simp only [List.length_drop, List.length_take]; rfl)) ?_
                    with_reducible refine (ih k (by omega) _ _ l0 (rd t192 0) t199 _ ?side1 ?side2 ?side3 A27.out).mono ?_
                    (case side1 => repeat (first | exact (Kd.C_below HR0.out HB.out) | (with_reducible refine Kd.C_alloc ?_ _) | (with_reducible refine Kd.C_drewN ?_ _) | (with_reducible refine Kd.C_drew ?_)))
                    (case side2 => exact HC0.out)
                    (case side3 => exact Globs.below HG.out (by repeat (first | (with_reducible first | exact HB.out | apply below_alloc | apply pw_below_drewN | apply below_drew1 | refine below_set ?_ GE191.out) | exact HB.out)))
                    rintro e w38 ⟨rfl, hb⟩
                    have HS0_ := (hb.cell (World.block_lt_of_cell? _ _ (hHeld.1))).trans (hHeld.1)
                    have HS1_ := (hb.cell (World.block_lt_of_cell? _ _ (hHeld.2.1))).trans (hHeld.2.1)
                    refine ⟨_, rfl, ?_⟩
                    have n0_ := Aside0.mk (Kd.R_below (by (with_reducible repeat (first | apply Kd.R_alloc | apply Kd.R_drewN | apply Kd.R_drew)); exact HO194.out) hb)
                    have n1_ := Aside0.mk (blk_below (g := gb191) (o := .cells #[.int .u8 ((rd_T35 l0 a1).f0), .int .u8 ((rd_T35 l0 a1).f1), .string ((rd_T35 l0 a1).f2), .int .i64 ((rd_T35 l0 a1).f3), .int .i64 ((rd_T35 l0 a1).f4), .int .i64 ((rd_T35 l0 a1).f5)] 35 (0, 0)) (by (with_reducible repeat (first | refine blk_drewN ?_ _ | refine blk_drew ?_ | refine blk_alloc ?_ _)); exact BK191.out) hb)
                    have n2_ := Aside0.mk (below_step (by repeat (first | (with_reducible first | exact HB.out | apply below_alloc | apply pw_below_drewN | apply below_drew1 | refine below_set ?_ GE191.out) | exact HB.out)) hb)
                    clear HO194
                    clear BK191
                    clear HB
                    have HO194 := n0_
                    have BK191 := n1_
                    have HB := n2_
                    clear n0_ n1_ n2_
                    (try clear hb)
                    (try clear hb2)
                    (try clear hk)
                    (try clear hi)
                    refine hK.out _ _ ⟨HS0_, HS1_, ((HB.out.cell (World.block_lt_of_cell? w _ hw201_0)).trans hw201_0), ((HB.out.cell (World.block_lt_of_cell? w _ hw201_1)).trans hw201_1), ((HB.out.cell (World.block_lt_of_cell? w _ hw201_2)).trans hw201_2), ((HB.out.cell (World.block_lt_of_cell? w _ hw201_3)).trans hw201_3), ((HB.out.cell (World.block_lt_of_cell? w _ hw201_4)).trans hw201_4), ((HB.out.cell (World.block_lt_of_cell? w _ hw201_5)).trans hw201_5)⟩ (fun hHeld => ?_)
                    clear hK K
                    refine norm_ (a' := ?_) ?_ ?_
                    rotate_left
                    · show Act.put _ (some 41) _ = _
                      simp only [Act.put, List.setIfInBounds_toArray, List.set_cons_zero, List.set_cons_succ, i64_w, i32_w]
                      rfl
                    refine one_ (i := 13) (N := some 50) #[true, true, true, true, true, true, true, true, true, true, true, true, true, true, false, false] rfl rfl (one_of HT_.out (by kernel_rfl)) (by decide) (fun K hK => ?_)
                    refine goes_ Tryz.func126 (by kernel_rfl) rfl #[.string t199, .bool (((rd_T35 l0 (rd t192 0)).f0) != 2)] (by rfl) rfl rfl (by (try simp only [List.map_toArray, List.map_cons, List.map_nil]); first | done | rfl | (simp only [List.length_drop, List.length_take]; rfl)) ?_
                    with_reducible refine (ast_bracketed.calls t199 (((rd_T35 l0 (rd t192 0)).f0) != 2) t202 _ A30.out).mono ?_
                    rintro e w' ⟨rfl, ⟨nd, rfl⟩⟩
                    refine ⟨_, rfl, ?_⟩
                    refine hK.out _ _ ⟨hHeld.1, hHeld.2.1, ((HB.out.cell (World.block_lt_of_cell? w _ hw201_0)).trans hw201_0), ((HB.out.cell (World.block_lt_of_cell? w _ hw201_1)).trans hw201_1), ((HB.out.cell (World.block_lt_of_cell? w _ hw201_2)).trans hw201_2), ((HB.out.cell (World.block_lt_of_cell? w _ hw201_3)).trans hw201_3), ((HB.out.cell (World.block_lt_of_cell? w _ hw201_4)).trans hw201_4), ((HB.out.cell (World.block_lt_of_cell? w _ hw201_5)).trans hw201_5)⟩ (fun hHeld => ?_)
                    clear hK K
                    refine norm_ (a' := ?_) ?_ ?_
                    rotate_left
                    · show Act.put _ (some 50) _ = _
                      simp only [Act.put, List.setIfInBounds_toArray, List.set_cons_zero, List.set_cons_succ, i64_w, i32_w]
                      rfl
                    refine pure_ (i := 14) (N := some 51) (v := ?_) (a' := ?_) #[true, true, true, true, true, true, true, true, true, true, true, true, true, true, true, false] rfl rfl (any_of HT_.out (by kernel_rfl)) (fun _ _ _ h => h) (Or.inl ⟨by rfl, ?_⟩) ?_ ?_
                    rotate_left
                    · intro w'
                      go_simp
                      with_reducible rfl
                    rotate_left
                    · simp only [Act.put, List.setIfInBounds_toArray, List.set_cons_zero, List.set_cons_succ, i64_w, i32_w]
                      rfl
                    refine pure_ (i := 15) (N := some 4) (v := ?_) (a' := ?_) #[true, true, true, true, true, true, true, true, true, true, true, true, true, true, true, true] rfl rfl (any_of HT_.out (by kernel_rfl)) (fun _ _ _ h => h) (Or.inl ⟨by rfl, ?_⟩) ?_ ?_
                    rotate_left
                    · intro w'
                      go_simp
                      with_reducible rfl
                    rotate_left
                    · simp only [Act.put, List.setIfInBounds_toArray, List.set_cons_zero, List.set_cons_succ, i64_w, i32_w]
                      rfl
                    refine done_ (done_of HT_.out (by kernel_rfl)) ?_
                    try go_wp2
                    go_ret
                    exact ⟨by first | rfl | (simp [errW_none, errW_some] <;> rfl) | (simp [*, errW_none, errW_some] <;> rfl), by repeat (first | (with_reducible first | exact HB.out | apply below_alloc | apply pw_below_drewN | apply below_drew1 | refine below_set ?_ GE191.out) | exact HB.out)⟩
                  · rw [if_neg c31] at H
                    exact absurd H (by simp)
                · rw [if_neg c29] at H
                  exact absurd H (by simp)
              · rw [if_neg c28] at H
                exact absurd H (by simp)
            · rw [if_neg c26] at H
              exact absurd H (by simp)
          · rw [if_neg c25] at H
            have c25b0 : (((rd_T35 l0 a1).f0) == 3) = false := beq_eq_false_iff_ne.mpr c25
            have c25b1 : (((rd_T35 l0 a1).f0) != 3) = true := bne_iff_ne.mpr c25
            replace H := Option.bind_eq_some_iff.mp H
            obtain ⟨t203, A390, H⟩ := H
            replace H : (if 0 < (t192.length : Int) then ((ast_sumText.f k l0 (rd t192 0)).bind fun t205 => (if 0 ≤ (rd t192 0) then (if (rd t192 0) < (l0.length : Int) then ((ast_binding.f k ((rd_T35 l0 (rd t192 0)).f0)).bind fun t208 => ((ast_bracketed.f t205 (decide (t208 < t203))).bind fun t209 => (if 1 < (t192.length : Int) then ((ast_sumText.f k l0 (rd t192 1)).bind fun t211 => (if 0 ≤ (rd t192 1) then (if (rd t192 1) < (l0.length : Int) then ((ast_binding.f k ((rd_T35 l0 (rd t192 1)).f0)).bind fun t214 => ((ast_bracketed.f t211 (decide (t214 ≤ t203))).bind fun t215 => (if t209.size + 1 ≤ 9223372036854775807 then ((ast_sign.f ((rd_T35 l0 a1).f0)).bind fun t216 => (if (t209 ++ (⟨#[32]⟩ : ByteArray)).size + t216.size ≤ 9223372036854775807 then (if ((t209 ++ (⟨#[32]⟩ : ByteArray)) ++ t216).size + 1 ≤ 9223372036854775807 then (if (((t209 ++ (⟨#[32]⟩ : ByteArray)) ++ t216) ++ (⟨#[32]⟩ : ByteArray)).size + t215.size ≤ 9223372036854775807 then (some ((((t209 ++ (⟨#[32]⟩ : ByteArray)) ++ t216) ++ (⟨#[32]⟩ : ByteArray)) ++ t215)) else (none)) else (none)) else (none))) else (none)))) else (none)) else (none))) else (none)))) else (none)) else (none))) else (none)) = some r := H
            have A39 := Aside0.mk A390
            clear A390
            by_cases c40 : 0 < (t192.length : Int)
            · rw [if_pos c40] at H
              have c40b0 : decide (0 < (t192.length : Int)) = true := decide_eq_true c40
              have c40b1 : decide (0 < t192.length) = true := decide_eq_true (by omega)
              clear c40
              replace H := Option.bind_eq_some_iff.mp H
              obtain ⟨t205, A410, H⟩ := H
              replace H : (if 0 ≤ (rd t192 0) then (if (rd t192 0) < (l0.length : Int) then ((ast_binding.f k ((rd_T35 l0 (rd t192 0)).f0)).bind fun t208 => ((ast_bracketed.f t205 (decide (t208 < t203))).bind fun t209 => (if 1 < (t192.length : Int) then ((ast_sumText.f k l0 (rd t192 1)).bind fun t211 => (if 0 ≤ (rd t192 1) then (if (rd t192 1) < (l0.length : Int) then ((ast_binding.f k ((rd_T35 l0 (rd t192 1)).f0)).bind fun t214 => ((ast_bracketed.f t211 (decide (t214 ≤ t203))).bind fun t215 => (if t209.size + 1 ≤ 9223372036854775807 then ((ast_sign.f ((rd_T35 l0 a1).f0)).bind fun t216 => (if (t209 ++ (⟨#[32]⟩ : ByteArray)).size + t216.size ≤ 9223372036854775807 then (if ((t209 ++ (⟨#[32]⟩ : ByteArray)) ++ t216).size + 1 ≤ 9223372036854775807 then (if (((t209 ++ (⟨#[32]⟩ : ByteArray)) ++ t216) ++ (⟨#[32]⟩ : ByteArray)).size + t215.size ≤ 9223372036854775807 then (some ((((t209 ++ (⟨#[32]⟩ : ByteArray)) ++ t216) ++ (⟨#[32]⟩ : ByteArray)) ++ t215)) else (none)) else (none)) else (none))) else (none)))) else (none)) else (none))) else (none)))) else (none)) else (none)) = some r := H
              have A41 := Aside0.mk A410
              clear A410
              by_cases c42 : 0 ≤ (rd t192 0)
              · rw [if_pos c42] at H
                have c42b0 : decide (0 ≤ (rd t192 0)) = true := decide_eq_true c42
                clear c42
                by_cases c43 : (rd t192 0) < (l0.length : Int)
                · rw [if_pos c43] at H
                  have c43b0 : decide ((rd t192 0) < (l0.length : Int)) = true := decide_eq_true c43
                  clear c43
                  replace H := Option.bind_eq_some_iff.mp H
                  obtain ⟨t208, A440, H⟩ := H
                  replace H : ((ast_bracketed.f t205 (decide (t208 < t203))).bind fun t209 => (if 1 < (t192.length : Int) then ((ast_sumText.f k l0 (rd t192 1)).bind fun t211 => (if 0 ≤ (rd t192 1) then (if (rd t192 1) < (l0.length : Int) then ((ast_binding.f k ((rd_T35 l0 (rd t192 1)).f0)).bind fun t214 => ((ast_bracketed.f t211 (decide (t214 ≤ t203))).bind fun t215 => (if t209.size + 1 ≤ 9223372036854775807 then ((ast_sign.f ((rd_T35 l0 a1).f0)).bind fun t216 => (if (t209 ++ (⟨#[32]⟩ : ByteArray)).size + t216.size ≤ 9223372036854775807 then (if ((t209 ++ (⟨#[32]⟩ : ByteArray)) ++ t216).size + 1 ≤ 9223372036854775807 then (if (((t209 ++ (⟨#[32]⟩ : ByteArray)) ++ t216) ++ (⟨#[32]⟩ : ByteArray)).size + t215.size ≤ 9223372036854775807 then (some ((((t209 ++ (⟨#[32]⟩ : ByteArray)) ++ t216) ++ (⟨#[32]⟩ : ByteArray)) ++ t215)) else (none)) else (none)) else (none))) else (none)))) else (none)) else (none))) else (none))) = some r := H
                  have A44 := Aside0.mk A440
                  clear A440
                  replace H := Option.bind_eq_some_iff.mp H
                  obtain ⟨t209, A450, H⟩ := H
                  replace H : (if 1 < (t192.length : Int) then ((ast_sumText.f k l0 (rd t192 1)).bind fun t211 => (if 0 ≤ (rd t192 1) then (if (rd t192 1) < (l0.length : Int) then ((ast_binding.f k ((rd_T35 l0 (rd t192 1)).f0)).bind fun t214 => ((ast_bracketed.f t211 (decide (t214 ≤ t203))).bind fun t215 => (if t209.size + 1 ≤ 9223372036854775807 then ((ast_sign.f ((rd_T35 l0 a1).f0)).bind fun t216 => (if (t209 ++ (⟨#[32]⟩ : ByteArray)).size + t216.size ≤ 9223372036854775807 then (if ((t209 ++ (⟨#[32]⟩ : ByteArray)) ++ t216).size + 1 ≤ 9223372036854775807 then (if (((t209 ++ (⟨#[32]⟩ : ByteArray)) ++ t216) ++ (⟨#[32]⟩ : ByteArray)).size + t215.size ≤ 9223372036854775807 then (some ((((t209 ++ (⟨#[32]⟩ : ByteArray)) ++ t216) ++ (⟨#[32]⟩ : ByteArray)) ++ t215)) else (none)) else (none)) else (none))) else (none)))) else (none)) else (none))) else (none)) = some r := H
                  have A45 := Aside0.mk A450
                  clear A450
                  by_cases c46 : 1 < (t192.length : Int)
                  · rw [if_pos c46] at H
                    have c46b0 : decide (1 < (t192.length : Int)) = true := decide_eq_true c46
                    have c46b1 : decide (1 < t192.length) = true := decide_eq_true (by omega)
                    clear c46
                    replace H := Option.bind_eq_some_iff.mp H
                    obtain ⟨t211, A470, H⟩ := H
                    replace H : (if 0 ≤ (rd t192 1) then (if (rd t192 1) < (l0.length : Int) then ((ast_binding.f k ((rd_T35 l0 (rd t192 1)).f0)).bind fun t214 => ((ast_bracketed.f t211 (decide (t214 ≤ t203))).bind fun t215 => (if t209.size + 1 ≤ 9223372036854775807 then ((ast_sign.f ((rd_T35 l0 a1).f0)).bind fun t216 => (if (t209 ++ (⟨#[32]⟩ : ByteArray)).size + t216.size ≤ 9223372036854775807 then (if ((t209 ++ (⟨#[32]⟩ : ByteArray)) ++ t216).size + 1 ≤ 9223372036854775807 then (if (((t209 ++ (⟨#[32]⟩ : ByteArray)) ++ t216) ++ (⟨#[32]⟩ : ByteArray)).size + t215.size ≤ 9223372036854775807 then (some ((((t209 ++ (⟨#[32]⟩ : ByteArray)) ++ t216) ++ (⟨#[32]⟩ : ByteArray)) ++ t215)) else (none)) else (none)) else (none))) else (none)))) else (none)) else (none)) = some r := H
                    have A47 := Aside0.mk A470
                    clear A470
                    by_cases c48 : 0 ≤ (rd t192 1)
                    · rw [if_pos c48] at H
                      have c48b0 : decide (0 ≤ (rd t192 1)) = true := decide_eq_true c48
                      clear c48
                      by_cases c49 : (rd t192 1) < (l0.length : Int)
                      · rw [if_pos c49] at H
                        have c49b0 : decide ((rd t192 1) < (l0.length : Int)) = true := decide_eq_true c49
                        clear c49
                        replace H := Option.bind_eq_some_iff.mp H
                        obtain ⟨t214, A500, H⟩ := H
                        replace H : ((ast_bracketed.f t211 (decide (t214 ≤ t203))).bind fun t215 => (if t209.size + 1 ≤ 9223372036854775807 then ((ast_sign.f ((rd_T35 l0 a1).f0)).bind fun t216 => (if (t209 ++ (⟨#[32]⟩ : ByteArray)).size + t216.size ≤ 9223372036854775807 then (if ((t209 ++ (⟨#[32]⟩ : ByteArray)) ++ t216).size + 1 ≤ 9223372036854775807 then (if (((t209 ++ (⟨#[32]⟩ : ByteArray)) ++ t216) ++ (⟨#[32]⟩ : ByteArray)).size + t215.size ≤ 9223372036854775807 then (some ((((t209 ++ (⟨#[32]⟩ : ByteArray)) ++ t216) ++ (⟨#[32]⟩ : ByteArray)) ++ t215)) else (none)) else (none)) else (none))) else (none))) = some r := H
                        have A50 := Aside0.mk A500
                        clear A500
                        replace H := Option.bind_eq_some_iff.mp H
                        obtain ⟨t215, A510, H⟩ := H
                        replace H : (if t209.size + 1 ≤ 9223372036854775807 then ((ast_sign.f ((rd_T35 l0 a1).f0)).bind fun t216 => (if (t209 ++ (⟨#[32]⟩ : ByteArray)).size + t216.size ≤ 9223372036854775807 then (if ((t209 ++ (⟨#[32]⟩ : ByteArray)) ++ t216).size + 1 ≤ 9223372036854775807 then (if (((t209 ++ (⟨#[32]⟩ : ByteArray)) ++ t216) ++ (⟨#[32]⟩ : ByteArray)).size + t215.size ≤ 9223372036854775807 then (some ((((t209 ++ (⟨#[32]⟩ : ByteArray)) ++ t216) ++ (⟨#[32]⟩ : ByteArray)) ++ t215)) else (none)) else (none)) else (none))) else (none)) = some r := H
                        have A51 := Aside0.mk A510
                        clear A510
                        by_cases c52 : t209.size + 1 ≤ 9223372036854775807
                        · rw [if_pos c52] at H
                          have c52b0 := eq_true c52
                          have c52b1 : decide (t209.size + 1 ≤ 9223372036854775807) = true := decide_eq_true c52
                          try have c52b2 : (9223372036854775807 < t209.size + 1) = False := eq_false (Nat.not_lt.2 c52)
                          replace H := Option.bind_eq_some_iff.mp H
                          obtain ⟨t216, A530, H⟩ := H
                          replace H : (if (t209 ++ (⟨#[32]⟩ : ByteArray)).size + t216.size ≤ 9223372036854775807 then (if ((t209 ++ (⟨#[32]⟩ : ByteArray)) ++ t216).size + 1 ≤ 9223372036854775807 then (if (((t209 ++ (⟨#[32]⟩ : ByteArray)) ++ t216) ++ (⟨#[32]⟩ : ByteArray)).size + t215.size ≤ 9223372036854775807 then (some ((((t209 ++ (⟨#[32]⟩ : ByteArray)) ++ t216) ++ (⟨#[32]⟩ : ByteArray)) ++ t215)) else (none)) else (none)) else (none)) = some r := H
                          have A53 := Aside0.mk A530
                          clear A530
                          by_cases c54 : (t209 ++ (⟨#[32]⟩ : ByteArray)).size + t216.size ≤ 9223372036854775807
                          · rw [if_pos c54] at H
                            have c54b0 := eq_true c54
                            have c54b1 : decide ((t209 ++ (⟨#[32]⟩ : ByteArray)).size + t216.size ≤ 9223372036854775807) = true := decide_eq_true c54
                            try have c54b2 : (9223372036854775807 < (t209 ++ (⟨#[32]⟩ : ByteArray)).size + t216.size) = False := eq_false (Nat.not_lt.2 c54)
                            try have c54b3 : (9223372036854775807 < t209.size + 1 + t216.size) = False := eq_false (Nat.not_lt.2 (by have h_ := c54; simp only [ByteArray.size_append] at h_; exact h_))
                            by_cases c55 : ((t209 ++ (⟨#[32]⟩ : ByteArray)) ++ t216).size + 1 ≤ 9223372036854775807
                            · rw [if_pos c55] at H
                              have c55b0 := eq_true c55
                              have c55b1 : decide (((t209 ++ (⟨#[32]⟩ : ByteArray)) ++ t216).size + 1 ≤ 9223372036854775807) = true := decide_eq_true c55
                              try have c55b2 : (9223372036854775807 < ((t209 ++ (⟨#[32]⟩ : ByteArray)) ++ t216).size + 1) = False := eq_false (Nat.not_lt.2 c55)
                              try have c55b3 : (9223372036854775807 < t209.size + 1 + t216.size + 1) = False := eq_false (Nat.not_lt.2 (by have h_ := c55; simp only [ByteArray.size_append] at h_; exact h_))
                              by_cases c56 : (((t209 ++ (⟨#[32]⟩ : ByteArray)) ++ t216) ++ (⟨#[32]⟩ : ByteArray)).size + t215.size ≤ 9223372036854775807
                              · rw [if_pos c56] at H
                                have c56b0 := eq_true c56
                                have c56b1 : decide ((((t209 ++ (⟨#[32]⟩ : ByteArray)) ++ t216) ++ (⟨#[32]⟩ : ByteArray)).size + t215.size ≤ 9223372036854775807) = true := decide_eq_true c56
                                try have c56b2 : (9223372036854775807 < (((t209 ++ (⟨#[32]⟩ : ByteArray)) ++ t216) ++ (⟨#[32]⟩ : ByteArray)).size + t215.size) = False := eq_false (Nat.not_lt.2 c56)
                                try have c56b3 : (9223372036854775807 < t209.size + 1 + t216.size + 1 + t215.size) = False := eq_false (Nat.not_lt.2 (by have h_ := c56; simp only [ByteArray.size_append] at h_; exact h_))
                                obtain rfl := Option.some.inj H
                                have p190 : 0 ≤ (a1 : Int) := of_decide_eq_true (by first | (with_reducible assumption) | assumption)
                                have q190 : a1 < (l0.length : Int) := of_decide_eq_true (by first | (with_reducible assumption) | assumption)
                                obtain ⟨ad190, e190, hx190_0, hx190_1, hx190_2, hx190_3, hx190_4, hx190_5⟩ := at_T35 HR0.out a1 p190 q190
                                cases e190
                                replace p190 := eq_true p190
                                replace q190 := eq_true q190
                                go_enter Tryz.func96, Tryz.ntmps96
                                try go_wp2_with (first | ((with_reducible refine gate_dst (N := 5) rfl ?_); refine box_event ?hg (N := 5) ?hd (cs := #[.int .u8 0, .int .u8 0, .string (⟨#[]⟩ : ByteArray), .int .i64 0, .int .i64 0, .int .i64 0]) (t := 35) ?hr ?_; (case hd => rfl); (case hg => rfl); (case hr => first | (go_simp; done) | (go_simp; rfl)); intro gb191 hg w57 hbox hb; have n0_ := Aside0.mk (below_step (by repeat (first | (with_reducible first | exact HB.out | apply below_alloc | apply pw_below_drewN | apply below_drew1) | exact HB.out)) hb); have n1_ := Aside0.mk (hbox); have n2_ := Aside0.mk ((by rw [hg]; exact (below_size (by repeat (first | (with_reducible first | exact HB.out | apply below_alloc | apply pw_below_drewN | apply below_drew1) | exact HB.out))) : w.heap.size ≤ gb191)); have n3_ := Aside0.mk ((by rw [hg]; exact (below_size (by repeat (first | (with_reducible first | exact HB.out | apply below_alloc | apply pw_below_drewN | apply below_drew1) | exact HB.out))) : w.heap.size ≤ gb191)); clear HB; have HB := n0_; have BK191 := n1_; have GW191 := n2_; have GE191 := n3_; clear n0_ n1_ n2_ n3_; clear hb hbox hg; have hcz58_0 : w57.cell? ⟨gb191, 0, none⟩ = some (.int .u8 0) := (blk_cell BK191.out 0).trans rfl; have hcz58_1 : w57.cell? ⟨gb191, 1, none⟩ = some (.int .u8 0) := (blk_cell BK191.out 1).trans rfl; have hcz58_2 : w57.cell? ⟨gb191, 2, none⟩ = some (.string (⟨#[]⟩ : ByteArray)) := (blk_cell BK191.out 2).trans rfl; have hcz58_3 : w57.cell? ⟨gb191, 3, none⟩ = some (.int .i64 0) := (blk_cell BK191.out 3).trans rfl; have hcz58_4 : w57.cell? ⟨gb191, 4, none⟩ = some (.int .i64 0) := (blk_cell BK191.out 4).trans rfl; have hcz58_5 : w57.cell? ⟨gb191, 5, none⟩ = some (.int .i64 0) := (blk_cell BK191.out 5).trans rfl; have hfz58_0 := blk_frozen BK191.out 0; have hfz58_1 := blk_frozen BK191.out 1; have hfz58_2 := blk_frozen BK191.out 2; have hfz58_3 := blk_frozen BK191.out 3; have hfz58_4 := blk_frozen BK191.out 4; have hfz58_5 := blk_frozen BK191.out 5) | ((with_reducible refine gate_callee (f := 15) rfl ?_); refine goesL_ (some 16) rfl rfl Tryz.func15 (by kernel_rfl) rfl #[.slice (some ad190) l0.length c0, .int .i64 a1] rfl (by (try simp only [List.map_toArray, List.map_cons, List.map_nil]); first | done | rfl | (simp only [List.length_drop, List.length_take]; rfl)) ?_; (with_reducible refine (ast_Kids.calls k _ _ l0 a1 t192 _ ?side1 ?side2 A5.out).mono ?_); (case side1 => exact Kd.C_below HR0.out (by repeat (first | (with_reducible first | exact HB.out | apply below_alloc | apply pw_below_drewN | apply below_drew1 | refine below_set ?_ GE191.out) | exact HB.out))); (case side2 => exact HC0.out); rintro e w59 ⟨v193, rfl, ho0, hb⟩; refine ⟨_, rfl, ?_⟩; have n0_ := Aside0.mk (Kd.R_lower ho0 (below_size (by repeat (first | (with_reducible first | exact HB.out | apply below_alloc | apply pw_below_drewN | apply below_drew1 | refine below_set ?_ GE191.out) | exact HB.out)))); have n1_ := Aside0.mk (blk_below (g := gb191) (o := .cells #[.int .u8 ((rd_T35 l0 a1).f0), .int .u8 ((rd_T35 l0 a1).f1), .string ((rd_T35 l0 a1).f2), .int .i64 ((rd_T35 l0 a1).f3), .int .i64 ((rd_T35 l0 a1).f4), .int .i64 ((rd_T35 l0 a1).f5)] 35 (0, 0)) (by (with_reducible repeat (first | refine blk_drewN ?_ _ | refine blk_drew ?_ | refine blk_alloc ?_ _)); refine blk_put (cs := #[.int .u8 ((rd_T35 l0 a1).f0), .int .u8 ((rd_T35 l0 a1).f1), .string ((rd_T35 l0 a1).f2), .int .i64 ((rd_T35 l0 a1).f3), .int .i64 ((rd_T35 l0 a1).f4), .int .i64 0]) ?_ 5 _ rfl; (with_reducible repeat (first | refine blk_drewN ?_ _ | refine blk_drew ?_ | refine blk_alloc ?_ _)); refine blk_put (cs := #[.int .u8 ((rd_T35 l0 a1).f0), .int .u8 ((rd_T35 l0 a1).f1), .string ((rd_T35 l0 a1).f2), .int .i64 ((rd_T35 l0 a1).f3), .int .i64 0, .int .i64 0]) ?_ 4 _ rfl; (with_reducible repeat (first | refine blk_drewN ?_ _ | refine blk_drew ?_ | refine blk_alloc ?_ _)); refine blk_put (cs := #[.int .u8 ((rd_T35 l0 a1).f0), .int .u8 ((rd_T35 l0 a1).f1), .string ((rd_T35 l0 a1).f2), .int .i64 0, .int .i64 0, .int .i64 0]) ?_ 3 _ rfl; (with_reducible repeat (first | refine blk_drewN ?_ _ | refine blk_drew ?_ | refine blk_alloc ?_ _)); refine blk_put (cs := #[.int .u8 ((rd_T35 l0 a1).f0), .int .u8 ((rd_T35 l0 a1).f1), .string (⟨#[]⟩ : ByteArray), .int .i64 0, .int .i64 0, .int .i64 0]) ?_ 2 _ rfl; (with_reducible repeat (first | refine blk_drewN ?_ _ | refine blk_drew ?_ | refine blk_alloc ?_ _)); refine blk_put (cs := #[.int .u8 ((rd_T35 l0 a1).f0), .int .u8 0, .string (⟨#[]⟩ : ByteArray), .int .i64 0, .int .i64 0, .int .i64 0]) ?_ 1 _ rfl; (with_reducible repeat (first | refine blk_drewN ?_ _ | refine blk_drew ?_ | refine blk_alloc ?_ _)); refine blk_put (cs := #[.int .u8 0, .int .u8 0, .string (⟨#[]⟩ : ByteArray), .int .i64 0, .int .i64 0, .int .i64 0]) ?_ 0 _ rfl; (with_reducible repeat (first | refine blk_drewN ?_ _ | refine blk_drew ?_ | refine blk_alloc ?_ _)); exact BK191.out) hb); have n2_ := Aside0.mk (below_step (by repeat (first | (with_reducible first | exact HB.out | apply below_alloc | apply pw_below_drewN | apply below_drew1 | refine below_set ?_ GE191.out) | exact HB.out)) hb); clear BK191; clear HB; have HO194 := n0_; have BK191 := n1_; have HB := n2_; clear n0_ n1_ n2_; (try clear hb); (try clear hb2); (try clear hk); (try clear hi); (try clear ho0); have hcz60_0 : w59.cell? ⟨gb191, 0, none⟩ = some (.int .u8 ((rd_T35 l0 a1).f0)) := (blk_cell BK191.out 0).trans rfl; have hcz60_1 : w59.cell? ⟨gb191, 1, none⟩ = some (.int .u8 ((rd_T35 l0 a1).f1)) := (blk_cell BK191.out 1).trans rfl; have hcz60_2 : w59.cell? ⟨gb191, 2, none⟩ = some (.string ((rd_T35 l0 a1).f2)) := (blk_cell BK191.out 2).trans rfl; have hcz60_3 : w59.cell? ⟨gb191, 3, none⟩ = some (.int .i64 ((rd_T35 l0 a1).f3)) := (blk_cell BK191.out 3).trans rfl; have hcz60_4 : w59.cell? ⟨gb191, 4, none⟩ = some (.int .i64 ((rd_T35 l0 a1).f4)) := (blk_cell BK191.out 4).trans rfl; have hcz60_5 : w59.cell? ⟨gb191, 5, none⟩ = some (.int .i64 ((rd_T35 l0 a1).f5)) := (blk_cell BK191.out 5).trans rfl; have hfz60_0 := blk_frozen BK191.out 0; have hfz60_1 := blk_frozen BK191.out 1; have hfz60_2 := blk_frozen BK191.out 2; have hfz60_3 := blk_frozen BK191.out 3; have hfz60_4 := blk_frozen BK191.out 4; have hfz60_5 := blk_frozen BK191.out 5) | ((with_reducible refine gate_callee (f := 127) rfl ?_); refine goesL_ (some 54) rfl rfl Tryz.func127 (by kernel_rfl) rfl #[.int .u8 ((rd_T35 l0 a1).f0)] rfl (by (try simp only [List.map_toArray, List.map_cons, List.map_nil]); first | done | rfl | (simp only [List.length_drop, List.length_take]; rfl)) ?_; (with_reducible refine (ast_binding.calls k ((rd_T35 l0 a1).f0) t203 _ A39.out).mono ?_); rintro e w' ⟨rfl, ⟨nd, rfl⟩⟩; refine ⟨_, rfl, ?_⟩))
                                (try (rw [drewN_self w59]; generalize hq_ : World.drewN w59 _ = w59; have n0_ : Aside0 (Kd.R (Kd.int .i64) 3 w59 w.heap.size (fun _ => True) v193 t192) := ⟨by rw [← hq_]; exact (by (with_reducible repeat (first | apply Kd.R_alloc | apply Kd.R_drewN | apply Kd.R_drew)); exact HO194.out)⟩; have n1_ : Aside0 (w59.heap[gb191]? = some (.cells #[.int .u8 ((rd_T35 l0 a1).f0), .int .u8 ((rd_T35 l0 a1).f1), .string ((rd_T35 l0 a1).f2), .int .i64 ((rd_T35 l0 a1).f3), .int .i64 ((rd_T35 l0 a1).f4), .int .i64 ((rd_T35 l0 a1).f5)] 35 (0, 0))) := ⟨by rw [← hq_]; exact (by (with_reducible repeat (first | refine blk_drewN ?_ _ | refine blk_drew ?_ | refine blk_alloc ?_ _)); exact BK191.out)⟩; have n2_ : Aside0 (Below w.heap.size w w59) := ⟨by rw [← hq_]; exact (by repeat (first | (with_reducible first | exact HB.out | apply below_alloc | apply pw_below_drewN | apply below_drew1 | refine below_set ?_ GE191.out) | exact HB.out))⟩; clear HO194 BK191 HB hq_; have HO194 := n0_; have BK191 := n1_; have HB := n2_; clear n0_ n1_ n2_))
                                have n0_ := Aside0.mk (Kd.R_drew HO194.out)
                                have n1_ := Aside0.mk (blk_drew BK191.out)
                                have n2_ := Aside0.mk (below_drew1 HB.out)
                                clear HO194
                                clear BK191
                                clear HB
                                have HO194 := n0_
                                have BK191 := n1_
                                have HB := n2_
                                clear n0_ n1_ n2_
                                obtain ⟨Ao62, co62, eo62⟩ := Kd.R_slice HO194.out
                                (first | subst eo62 | (injection eo62 with f1_ f2_ f3_; have f4_ := f1_.symm; have f5_ := f3_.symm; clear f1_ f2_ f3_; subst f4_; subst f5_))
                                have p204 : 0 ≤ (0 : Int) := (by omega)
                                have q204 : 0 < (t192.length : Int) := of_decide_eq_true (by first | (with_reducible assumption) | assumption)
                                obtain ⟨ad204, e204, hx204_0⟩ := Kd.at_int (Kd.R_reads' HO194.out).2.2 0 p204 q204
                                cases e204
                                have qi204 : (0 < t192.length) = True := eq_true (by omega)
                                (try rw [show ((0 : Int)).toNat = 0 from rfl] at hx204_0)
                                (try rw [Addr.add_zero'] at hx204_0)
                                replace p204 := eq_true p204
                                replace q204 := eq_true q204
                                have p206 : 0 ≤ (0 : Int) := (by omega)
                                have q206 : 0 < (t192.length : Int) := of_decide_eq_true (by first | (with_reducible assumption) | assumption)
                                obtain ⟨ad206, e206, hx206_0⟩ := Kd.at_int (Kd.R_reads' HO194.out).2.2 0 p206 q206
                                obtain rfl : ad204 = ad206 := (by injection e206)
                                have qi206 : (0 < t192.length) = True := eq_true (by omega)
                                (try rw [show ((0 : Int)).toNat = 0 from rfl] at hx206_0)
                                (try rw [Addr.add_zero'] at hx206_0)
                                replace p206 := eq_true p206
                                replace q206 := eq_true q206
                                have p207 : 0 ≤ ((rd t192 0) : Int) := of_decide_eq_true (by first | (with_reducible assumption) | assumption)
                                have q207 : (rd t192 0) < (l0.length : Int) := of_decide_eq_true (by first | (with_reducible assumption) | assumption)
                                obtain ⟨ad207, e207, hx207_0, hx207_1, hx207_2, hx207_3, hx207_4, hx207_5⟩ := at_T35 HR0.out (rd t192 0) p207 q207
                                have hw207_5 := hx207_5
                                have hw207_4 := hx207_4
                                have hw207_3 := hx207_3
                                have hw207_2 := hx207_2
                                have hw207_1 := hx207_1
                                have hw207_0 := hx207_0
                                obtain rfl : ad190 = ad207 := (by injection e207)
                                replace hx207_0 := (HB.out.cell (World.block_lt_of_cell? w _ hx207_0)).trans hx207_0
                                replace hx207_1 := (HB.out.cell (World.block_lt_of_cell? w _ hx207_1)).trans hx207_1
                                replace hx207_2 := (HB.out.cell (World.block_lt_of_cell? w _ hx207_2)).trans hx207_2
                                replace hx207_3 := (HB.out.cell (World.block_lt_of_cell? w _ hx207_3)).trans hx207_3
                                replace hx207_4 := (HB.out.cell (World.block_lt_of_cell? w _ hx207_4)).trans hx207_4
                                replace hx207_5 := (HB.out.cell (World.block_lt_of_cell? w _ hx207_5)).trans hx207_5
                                replace p207 := eq_true p207
                                replace q207 := eq_true q207
                                refine start_ (n := 17) (S := fun w' => w'.cell? ad204 = some (.int .i64 (rd t192 0)) ∧ w'.cell? ad204 = some (.int .i64 (rd t192 0)) ∧ w'.cell? (ad190.add (((rd t192 0)).toNat * 6)) = some (.int .u8 ((rd_T35 l0 (rd t192 0)).f0)) ∧ w'.cell? ⟨(ad190.add (((rd t192 0)).toNat * 6)).block, (ad190.add (((rd t192 0)).toNat * 6)).off + 1, none⟩ = some (.int .u8 ((rd_T35 l0 (rd t192 0)).f1)) ∧ w'.cell? ⟨(ad190.add (((rd t192 0)).toNat * 6)).block, (ad190.add (((rd t192 0)).toNat * 6)).off + 2, none⟩ = some (.string ((rd_T35 l0 (rd t192 0)).f2)) ∧ w'.cell? ⟨(ad190.add (((rd t192 0)).toNat * 6)).block, (ad190.add (((rd t192 0)).toNat * 6)).off + 3, none⟩ = some (.int .i64 ((rd_T35 l0 (rd t192 0)).f3)) ∧ w'.cell? ⟨(ad190.add (((rd t192 0)).toNat * 6)).block, (ad190.add (((rd t192 0)).toNat * 6)).off + 4, none⟩ = some (.int .i64 ((rd_T35 l0 (rd t192 0)).f4)) ∧ w'.cell? ⟨(ad190.add (((rd t192 0)).toNat * 6)).block, (ad190.add (((rd t192 0)).toNat * 6)).off + 5, none⟩ = some (.int .i64 ((rd_T35 l0 (rd t192 0)).f5))) (ds := []) #[false, false, false, false, false, false, false, false, false, false, false, false, false, false, false, false, false] (by kernel_rfl) rfl rfl ⟨hx204_0, hx206_0, ((HB.out.cell (World.block_lt_of_cell? w _ hw207_0)).trans hw207_0), ((HB.out.cell (World.block_lt_of_cell? w _ hw207_1)).trans hw207_1), ((HB.out.cell (World.block_lt_of_cell? w _ hw207_2)).trans hw207_2), ((HB.out.cell (World.block_lt_of_cell? w _ hw207_3)).trans hw207_3), ((HB.out.cell (World.block_lt_of_cell? w _ hw207_4)).trans hw207_4), ((HB.out.cell (World.block_lt_of_cell? w _ hw207_5)).trans hw207_5)⟩ (fun hHeld => ?_); refine with_tabW ast_sumText.tab11 ast_sumText.bits11 (fun HT_ HW_ => ?_)
                                generalize w59.drew = w61 at HO194 BK191 HB hx204_0 hx206_0 hx207_0 hx207_1 hx207_2 hx207_3 hx207_4 hx207_5 hHeld ⊢
                                refine pure_ (i := 0) (N := some 55) (v := ?_) (a' := ?_) #[true, false, false, false, false, false, false, false, false, false, false, false, false, false, false, false, false] rfl rfl (any_of HT_.out (by kernel_rfl)) (fun _ _ _ h => h) (Or.inl ⟨by rfl, ?_⟩) ?_ ?_
                                rotate_left
                                · intro w'
                                  go_simp
                                  with_reducible rfl
                                rotate_left
                                · simp only [Act.put, List.setIfInBounds_toArray, List.set_cons_zero, List.set_cons_succ, i64_w, i32_w]
                                  rfl
                                refine pure_ (i := 1) (N := some 56) (v := ?_) (a' := ?_) #[true, true, false, false, false, false, false, false, false, false, false, false, false, false, false, false, false] rfl rfl (any_of HT_.out (by kernel_rfl)) (fun _ _ _ h => h) (Or.inl ⟨by rfl, ?_⟩) ?_ ?_
                                rotate_left
                                · intro w'
                                  go_simp
                                  with_reducible rfl
                                rotate_left
                                · simp only [Act.put, List.setIfInBounds_toArray, List.set_cons_zero, List.set_cons_succ, i64_w, i32_w]
                                  rfl
                                refine pure_ (i := 2) (N := some 57) (v := ?_) (a' := ?_) #[true, true, true, false, false, false, false, false, false, false, false, false, false, false, false, false, false] rfl rfl (any_of HT_.out (by kernel_rfl)) (fun _ _ _ h => h) (Or.inl ⟨by rfl, ?_⟩) ?_ ?_
                                rotate_left
                                · intro w'
                                  go_simp
                                  with_reducible rfl
                                rotate_left
                                · simp only [Act.put, List.setIfInBounds_toArray, List.set_cons_zero, List.set_cons_succ, i64_w, i32_w]
                                  rfl
                                refine pure_ (i := 5) (N := some 60) (v := ?_) (a' := ?_) #[true, true, true, false, false, true, false, false, false, false, false, false, false, false, false, false, false] rfl rfl (any_of HT_.out (by kernel_rfl)) (fun _ _ _ h => h) (Or.inl ⟨by rfl, ?_⟩) ?_ ?_
                                rotate_left
                                · intro w'
                                  go_simp
                                  with_reducible rfl
                                rotate_left
                                · simp only [Act.put, List.setIfInBounds_toArray, List.set_cons_zero, List.set_cons_succ, i64_w, i32_w]
                                  rfl
                                refine pure_ (i := 6) (N := some 61) (v := ?_) (a' := ?_) #[true, true, true, false, false, true, true, false, false, false, false, false, false, false, false, false, false] rfl rfl (any_of HT_.out (by kernel_rfl)) (fun _ _ _ h => h) (Or.inl ⟨by rfl, ?_⟩) ?_ ?_
                                rotate_left
                                · intro w'
                                  go_simp
                                  with_reducible rfl
                                rotate_left
                                · simp only [Act.put, List.setIfInBounds_toArray, List.set_cons_zero, List.set_cons_succ, i64_w, i32_w]
                                  rfl
                                refine pure_ (i := 7) (N := some 62) (v := ?_) (a' := ?_) #[true, true, true, false, false, true, true, true, false, false, false, false, false, false, false, false, false] rfl rfl (any_of HT_.out (by kernel_rfl)) (fun _ _ _ h => h) (Or.inl ⟨by rfl, ?_⟩) ?_ ?_
                                rotate_left
                                · intro w'
                                  go_simp
                                  with_reducible rfl
                                rotate_left
                                · simp only [Act.put, List.setIfInBounds_toArray, List.set_cons_zero, List.set_cons_succ, i64_w, i32_w]
                                  rfl
                                refine pure_ (i := 13) (N := some 68) (v := ?_) (a' := ?_) #[true, true, true, false, false, true, true, true, false, false, false, false, false, true, false, false, false] rfl rfl (any_of HT_.out (by kernel_rfl)) (fun _ _ _ h => h) (Or.inl ⟨by rfl, ?_⟩) ?_ ?_
                                rotate_left
                                · intro w'
                                  go_simp
                                  with_reducible rfl
                                rotate_left
                                · simp only [Act.put, List.setIfInBounds_toArray, List.set_cons_zero, List.set_cons_succ, i64_w, i32_w]
                                  rfl
                                refine take_ (i := 3) (N := some 58) (v := ?_) (a' := ?_) #[true, true, true, true, false, true, true, true, false, false, false, false, false, true, false, false, false] rfl rfl (take_ofW HT_.out HW_.out (by kernel_rfl)) (fun _ _ _ h => h) (Or.inl ⟨by rfl, ?_⟩) hHeld ?_ ?_
                                rotate_left
                                · rintro w' ⟨s0, s1, s2, s3, s4, s5, s6, s7⟩
                                  go_simp
                                  with_reducible rfl
                                rotate_left
                                · simp only [Act.put, List.setIfInBounds_toArray, List.set_cons_zero, List.set_cons_succ, i64_w, i32_w]
                                  rfl
                                refine take_ (i := 8) (N := some 63) (v := ?_) (a' := ?_) #[true, true, true, true, false, true, true, true, true, false, false, false, false, true, false, false, false] rfl rfl (take_ofW HT_.out HW_.out (by kernel_rfl)) (fun _ _ _ h => h) (Or.inl ⟨by rfl, ?_⟩) hHeld ?_ ?_
                                rotate_left
                                · rintro w' ⟨s0, s1, s2, s3, s4, s5, s6, s7⟩
                                  go_simp
                                  with_reducible rfl
                                rotate_left
                                · simp only [Act.put, List.setIfInBounds_toArray, List.set_cons_zero, List.set_cons_succ, i64_w, i32_w]
                                  rfl
                                refine pure_ (i := 9) (N := some 64) (v := ?_) (a' := ?_) #[true, true, true, true, false, true, true, true, true, true, false, false, false, true, false, false, false] rfl rfl (any_of HT_.out (by kernel_rfl)) (fun _ _ _ h => h) (Or.inl ⟨by rfl, ?_⟩) ?_ ?_
                                rotate_left
                                · intro w'
                                  go_simp
                                  with_reducible rfl
                                rotate_left
                                · simp only [Act.put, List.setIfInBounds_toArray, List.set_cons_zero, List.set_cons_succ, i64_w, i32_w]
                                  rfl
                                refine pure_ (i := 10) (N := some 65) (v := ?_) (a' := ?_) #[true, true, true, true, false, true, true, true, true, true, true, false, false, true, false, false, false] rfl rfl (any_of HT_.out (by kernel_rfl)) (fun _ _ _ h => h) (Or.inl ⟨by rfl, ?_⟩) ?_ ?_
                                rotate_left
                                · intro w'
                                  go_simp
                                  with_reducible rfl
                                rotate_left
                                · simp only [Act.put, List.setIfInBounds_toArray, List.set_cons_zero, List.set_cons_succ, i64_w, i32_w]
                                  rfl
                                refine take_ (i := 11) (N := some 66) (v := ?_) (a' := ?_) #[true, true, true, true, false, true, true, true, true, true, true, true, false, true, false, false, false] rfl rfl (take_ofW HT_.out HW_.out (by kernel_rfl)) (fun _ _ _ h => h) (Or.inl ⟨by rfl, ?_⟩) hHeld ?_ ?_
                                rotate_left
                                · rintro w' ⟨s0, s1, s2, s3, s4, s5, s6, s7⟩
                                  go_simp
                                  with_reducible rfl
                                rotate_left
                                · simp only [Act.put, List.setIfInBounds_toArray, List.set_cons_zero, List.set_cons_succ, i64_w, i32_w]
                                  rfl
                                refine one_ (i := 4) (N := some 59) #[true, true, true, true, true, true, true, true, true, true, true, true, false, true, false, false, false] rfl rfl (one_of HT_.out (by kernel_rfl)) (by decide) (fun K hK => ?_)
                                refine goes_ Tryz.func96 (by kernel_rfl) rfl #[.slice (some ad190) l0.length c0, .int .i64 (rd t192 0)] (by rfl) rfl rfl (by (try simp only [List.map_toArray, List.map_cons, List.map_nil]); first | done | rfl | (simp only [List.length_drop, List.length_take]; rfl)) ?_
                                with_reducible refine (ih k (by omega) _ _ l0 (rd t192 0) t205 _ ?side1 ?side2 ?side3 A41.out).mono ?_
                                (case side1 => repeat (first | exact (Kd.C_below HR0.out HB.out) | (with_reducible refine Kd.C_alloc ?_ _) | (with_reducible refine Kd.C_drewN ?_ _) | (with_reducible refine Kd.C_drew ?_)))
                                (case side2 => exact HC0.out)
                                (case side3 => exact Globs.below HG.out (by repeat (first | (with_reducible first | exact HB.out | apply below_alloc | apply pw_below_drewN | apply below_drew1 | refine below_set ?_ GE191.out) | exact HB.out)))
                                rintro e w63 ⟨rfl, hb⟩
                                have HS0_ := (hb.cell (World.block_lt_of_cell? _ _ (hHeld.1))).trans (hHeld.1)
                                have HS1_ := (hb.cell (World.block_lt_of_cell? _ _ (hHeld.2.1))).trans (hHeld.2.1)
                                refine ⟨_, rfl, ?_⟩
                                have n0_ := Aside0.mk (Kd.R_below (by (with_reducible repeat (first | apply Kd.R_alloc | apply Kd.R_drewN | apply Kd.R_drew)); exact HO194.out) hb)
                                have n1_ := Aside0.mk (blk_below (g := gb191) (o := .cells #[.int .u8 ((rd_T35 l0 a1).f0), .int .u8 ((rd_T35 l0 a1).f1), .string ((rd_T35 l0 a1).f2), .int .i64 ((rd_T35 l0 a1).f3), .int .i64 ((rd_T35 l0 a1).f4), .int .i64 ((rd_T35 l0 a1).f5)] 35 (0, 0)) (by (with_reducible repeat (first | refine blk_drewN ?_ _ | refine blk_drew ?_ | refine blk_alloc ?_ _)); exact BK191.out) hb)
                                have n2_ := Aside0.mk (below_step (by repeat (first | (with_reducible first | exact HB.out | apply below_alloc | apply pw_below_drewN | apply below_drew1 | refine below_set ?_ GE191.out) | exact HB.out)) hb)
                                clear HO194
                                clear BK191
                                clear HB
                                have HO194 := n0_
                                have BK191 := n1_
                                have HB := n2_
                                clear n0_ n1_ n2_
                                (try clear hb)
                                (try clear hb2)
                                (try clear hk)
                                (try clear hi)
                                refine hK.out _ _ ⟨HS0_, HS1_, ((HB.out.cell (World.block_lt_of_cell? w _ hw207_0)).trans hw207_0), ((HB.out.cell (World.block_lt_of_cell? w _ hw207_1)).trans hw207_1), ((HB.out.cell (World.block_lt_of_cell? w _ hw207_2)).trans hw207_2), ((HB.out.cell (World.block_lt_of_cell? w _ hw207_3)).trans hw207_3), ((HB.out.cell (World.block_lt_of_cell? w _ hw207_4)).trans hw207_4), ((HB.out.cell (World.block_lt_of_cell? w _ hw207_5)).trans hw207_5)⟩ (fun hHeld => ?_)
                                clear hK K
                                refine norm_ (a' := ?_) ?_ ?_
                                rotate_left
                                · show Act.put _ (some 59) _ = _
                                  simp only [Act.put, List.setIfInBounds_toArray, List.set_cons_zero, List.set_cons_succ, i64_w, i32_w]
                                  rfl
                                refine one_ (i := 12) (N := some 67) #[true, true, true, true, true, true, true, true, true, true, true, true, true, true, false, false, false] rfl rfl (one_of HT_.out (by kernel_rfl)) (by decide) (fun K hK => ?_)
                                refine goes_ Tryz.func127 (by kernel_rfl) rfl #[.int .u8 ((rd_T35 l0 (rd t192 0)).f0)] (by rfl) rfl rfl (by (try simp only [List.map_toArray, List.map_cons, List.map_nil]); first | done | rfl | (simp only [List.length_drop, List.length_take]; rfl)) ?_
                                with_reducible refine (ast_binding.calls k ((rd_T35 l0 (rd t192 0)).f0) t208 _ A44.out).mono ?_
                                rintro e w' ⟨rfl, ⟨nd, rfl⟩⟩
                                refine ⟨_, rfl, ?_⟩
                                refine hK.out _ _ ⟨hHeld.1, hHeld.2.1, ((HB.out.cell (World.block_lt_of_cell? w _ hw207_0)).trans hw207_0), ((HB.out.cell (World.block_lt_of_cell? w _ hw207_1)).trans hw207_1), ((HB.out.cell (World.block_lt_of_cell? w _ hw207_2)).trans hw207_2), ((HB.out.cell (World.block_lt_of_cell? w _ hw207_3)).trans hw207_3), ((HB.out.cell (World.block_lt_of_cell? w _ hw207_4)).trans hw207_4), ((HB.out.cell (World.block_lt_of_cell? w _ hw207_5)).trans hw207_5)⟩ (fun hHeld => ?_)
                                clear hK K
                                refine norm_ (a' := ?_) ?_ ?_
                                rotate_left
                                · show Act.put _ (some 67) _ = _
                                  simp only [Act.put, List.setIfInBounds_toArray, List.set_cons_zero, List.set_cons_succ, i64_w, i32_w]
                                  rfl
                                refine pure_ (i := 14) (N := some 69) (v := ?_) (a' := ?_) #[true, true, true, true, true, true, true, true, true, true, true, true, true, true, true, false, false] rfl rfl (any_of HT_.out (by kernel_rfl)) (fun _ _ _ h => h) (Or.inl ⟨by rfl, ?_⟩) ?_ ?_
                                rotate_left
                                · intro w'
                                  go_simp
                                  with_reducible rfl
                                rotate_left
                                · simp only [Act.put, List.setIfInBounds_toArray, List.set_cons_zero, List.set_cons_succ, i64_w, i32_w]
                                  rfl
                                refine one_ (i := 15) (N := some 70) #[true, true, true, true, true, true, true, true, true, true, true, true, true, true, true, true, false] rfl rfl (one_of HT_.out (by kernel_rfl)) (by decide) (fun K hK => ?_)
                                refine goes_ Tryz.func126 (by kernel_rfl) rfl #[.string t205, .bool (decide (t208 < t203))] (by rfl) rfl rfl (by (try simp only [List.map_toArray, List.map_cons, List.map_nil]); first | done | rfl | (simp only [List.length_drop, List.length_take]; rfl)) ?_
                                with_reducible refine (ast_bracketed.calls t205 (decide (t208 < t203)) t209 _ A45.out).mono ?_
                                rintro e w' ⟨rfl, ⟨nd, rfl⟩⟩
                                refine ⟨_, rfl, ?_⟩
                                refine hK.out _ _ ⟨hHeld.1, hHeld.2.1, ((HB.out.cell (World.block_lt_of_cell? w _ hw207_0)).trans hw207_0), ((HB.out.cell (World.block_lt_of_cell? w _ hw207_1)).trans hw207_1), ((HB.out.cell (World.block_lt_of_cell? w _ hw207_2)).trans hw207_2), ((HB.out.cell (World.block_lt_of_cell? w _ hw207_3)).trans hw207_3), ((HB.out.cell (World.block_lt_of_cell? w _ hw207_4)).trans hw207_4), ((HB.out.cell (World.block_lt_of_cell? w _ hw207_5)).trans hw207_5)⟩ (fun hHeld => ?_)
                                clear hK K
                                refine norm_ (a' := ?_) ?_ ?_
                                rotate_left
                                · show Act.put _ (some 70) _ = _
                                  simp only [Act.put, List.setIfInBounds_toArray, List.set_cons_zero, List.set_cons_succ, i64_w, i32_w]
                                  rfl
                                refine pure_ (i := 16) (N := some 8) (v := ?_) (a' := ?_) #[true, true, true, true, true, true, true, true, true, true, true, true, true, true, true, true, true] rfl rfl (any_of HT_.out (by kernel_rfl)) (fun _ _ _ h => h) (Or.inl ⟨by rfl, ?_⟩) ?_ ?_
                                rotate_left
                                · intro w'
                                  go_simp
                                  with_reducible rfl
                                rotate_left
                                · simp only [Act.put, List.setIfInBounds_toArray, List.set_cons_zero, List.set_cons_succ, i64_w, i32_w]
                                  rfl
                                refine done_ (done_of HT_.out (by kernel_rfl)) ?_
                                try go_wp2
                                (try (rw [drewN_self w63]; generalize hq_ : World.drewN w63 _ = w63; have n0_ : Aside0 (Kd.R (Kd.int .i64) 3 w63 w.heap.size (fun _ => True) (.slice (some ad204) t192.length co62) t192) := ⟨by rw [← hq_]; exact (by (with_reducible repeat (first | apply Kd.R_alloc | apply Kd.R_drewN | apply Kd.R_drew)); exact HO194.out)⟩; have n1_ : Aside0 (w63.heap[gb191]? = some (.cells #[.int .u8 ((rd_T35 l0 a1).f0), .int .u8 ((rd_T35 l0 a1).f1), .string ((rd_T35 l0 a1).f2), .int .i64 ((rd_T35 l0 a1).f3), .int .i64 ((rd_T35 l0 a1).f4), .int .i64 ((rd_T35 l0 a1).f5)] 35 (0, 0))) := ⟨by rw [← hq_]; exact (by (with_reducible repeat (first | refine blk_drewN ?_ _ | refine blk_drew ?_ | refine blk_alloc ?_ _)); exact BK191.out)⟩; have n2_ : Aside0 (Below w.heap.size w w63) := ⟨by rw [← hq_]; exact (by repeat (first | (with_reducible first | exact HB.out | apply below_alloc | apply pw_below_drewN | apply below_drew1 | refine below_set ?_ GE191.out) | exact HB.out))⟩; clear HO194 BK191 HB hq_; have HO194 := n0_; have BK191 := n1_; have HB := n2_; clear n0_ n1_ n2_))
                                have n0_ := Aside0.mk (Kd.R_drew HO194.out)
                                have n1_ := Aside0.mk (blk_drew BK191.out)
                                have n2_ := Aside0.mk (below_drew1 HB.out)
                                clear HO194
                                clear BK191
                                clear HB
                                have HO194 := n0_
                                have BK191 := n1_
                                have HB := n2_
                                clear n0_ n1_ n2_
                                have p210 : 0 ≤ (1 : Int) := (by omega)
                                have q210 : 1 < (t192.length : Int) := of_decide_eq_true (by first | (with_reducible assumption) | assumption)
                                obtain ⟨ad210, e210, hx210_0⟩ := Kd.at_int (Kd.R_reads' HO194.out).2.2 1 p210 q210
                                obtain rfl : ad204 = ad210 := (by injection e210)
                                (try simp only [show (1 : Int).toNat = 1 from rfl, Nat.reduceMul, Nat.reduceEqDiff, Go.Addr.add, ↓reduceIte] at hx210_0)
                                have qi210 : (1 < t192.length) = True := eq_true (by omega)
                                (try rw [show ((1 : Int)).toNat = 1 from rfl] at hx210_0)
                                replace p210 := eq_true p210
                                replace q210 := eq_true q210
                                have p212 : 0 ≤ (1 : Int) := (by omega)
                                have q212 : 1 < (t192.length : Int) := of_decide_eq_true (by first | (with_reducible assumption) | assumption)
                                obtain ⟨ad212, e212, hx212_0⟩ := Kd.at_int (Kd.R_reads' HO194.out).2.2 1 p212 q212
                                obtain rfl : ad204 = ad212 := (by injection e212)
                                (try simp only [show (1 : Int).toNat = 1 from rfl, Nat.reduceMul, Nat.reduceEqDiff, Go.Addr.add, ↓reduceIte] at hx212_0)
                                have qi212 : (1 < t192.length) = True := eq_true (by omega)
                                (try rw [show ((1 : Int)).toNat = 1 from rfl] at hx212_0)
                                replace p212 := eq_true p212
                                replace q212 := eq_true q212
                                have p213 : 0 ≤ ((rd t192 1) : Int) := of_decide_eq_true (by first | (with_reducible assumption) | assumption)
                                have q213 : (rd t192 1) < (l0.length : Int) := of_decide_eq_true (by first | (with_reducible assumption) | assumption)
                                obtain ⟨ad213, e213, hx213_0, hx213_1, hx213_2, hx213_3, hx213_4, hx213_5⟩ := at_T35 HR0.out (rd t192 1) p213 q213
                                have hw213_5 := hx213_5
                                have hw213_4 := hx213_4
                                have hw213_3 := hx213_3
                                have hw213_2 := hx213_2
                                have hw213_1 := hx213_1
                                have hw213_0 := hx213_0
                                obtain rfl : ad190 = ad213 := (by injection e213)
                                replace hx213_0 := (HB.out.cell (World.block_lt_of_cell? w _ hx213_0)).trans hx213_0
                                replace hx213_1 := (HB.out.cell (World.block_lt_of_cell? w _ hx213_1)).trans hx213_1
                                replace hx213_2 := (HB.out.cell (World.block_lt_of_cell? w _ hx213_2)).trans hx213_2
                                replace hx213_3 := (HB.out.cell (World.block_lt_of_cell? w _ hx213_3)).trans hx213_3
                                replace hx213_4 := (HB.out.cell (World.block_lt_of_cell? w _ hx213_4)).trans hx213_4
                                replace hx213_5 := (HB.out.cell (World.block_lt_of_cell? w _ hx213_5)).trans hx213_5
                                replace p213 := eq_true p213
                                replace q213 := eq_true q213
                                refine start_ (n := 17) (S := fun w' => w'.cell? ⟨ad204.block, ad204.off + 1, none⟩ = some (.int .i64 (rd t192 1)) ∧ w'.cell? ⟨ad204.block, ad204.off + 1, none⟩ = some (.int .i64 (rd t192 1)) ∧ w'.cell? (ad190.add (((rd t192 1)).toNat * 6)) = some (.int .u8 ((rd_T35 l0 (rd t192 1)).f0)) ∧ w'.cell? ⟨(ad190.add (((rd t192 1)).toNat * 6)).block, (ad190.add (((rd t192 1)).toNat * 6)).off + 1, none⟩ = some (.int .u8 ((rd_T35 l0 (rd t192 1)).f1)) ∧ w'.cell? ⟨(ad190.add (((rd t192 1)).toNat * 6)).block, (ad190.add (((rd t192 1)).toNat * 6)).off + 2, none⟩ = some (.string ((rd_T35 l0 (rd t192 1)).f2)) ∧ w'.cell? ⟨(ad190.add (((rd t192 1)).toNat * 6)).block, (ad190.add (((rd t192 1)).toNat * 6)).off + 3, none⟩ = some (.int .i64 ((rd_T35 l0 (rd t192 1)).f3)) ∧ w'.cell? ⟨(ad190.add (((rd t192 1)).toNat * 6)).block, (ad190.add (((rd t192 1)).toNat * 6)).off + 4, none⟩ = some (.int .i64 ((rd_T35 l0 (rd t192 1)).f4)) ∧ w'.cell? ⟨(ad190.add (((rd t192 1)).toNat * 6)).block, (ad190.add (((rd t192 1)).toNat * 6)).off + 5, none⟩ = some (.int .i64 ((rd_T35 l0 (rd t192 1)).f5))) (ds := []) #[false, false, false, false, false, false, false, false, false, false, false, false, false, false, false, false, false] (by kernel_rfl) rfl rfl ⟨hx210_0, hx212_0, ((HB.out.cell (World.block_lt_of_cell? w _ hw213_0)).trans hw213_0), ((HB.out.cell (World.block_lt_of_cell? w _ hw213_1)).trans hw213_1), ((HB.out.cell (World.block_lt_of_cell? w _ hw213_2)).trans hw213_2), ((HB.out.cell (World.block_lt_of_cell? w _ hw213_3)).trans hw213_3), ((HB.out.cell (World.block_lt_of_cell? w _ hw213_4)).trans hw213_4), ((HB.out.cell (World.block_lt_of_cell? w _ hw213_5)).trans hw213_5)⟩ (fun hHeld => ?_); refine with_tabW ast_sumText.tab12 ast_sumText.bits12 (fun HT_ HW_ => ?_)
                                generalize w63.drew = w64 at HO194 BK191 HB hx210_0 hx212_0 hx213_0 hx213_1 hx213_2 hx213_3 hx213_4 hx213_5 hHeld ⊢
                                refine pure_ (i := 0) (N := some 71) (v := ?_) (a' := ?_) #[true, false, false, false, false, false, false, false, false, false, false, false, false, false, false, false, false] rfl rfl (any_of HT_.out (by kernel_rfl)) (fun _ _ _ h => h) (Or.inl ⟨by rfl, ?_⟩) ?_ ?_
                                rotate_left
                                · intro w'
                                  go_simp
                                  with_reducible rfl
                                rotate_left
                                · simp only [Act.put, List.setIfInBounds_toArray, List.set_cons_zero, List.set_cons_succ, i64_w, i32_w]
                                  rfl
                                refine pure_ (i := 1) (N := some 72) (v := ?_) (a' := ?_) #[true, true, false, false, false, false, false, false, false, false, false, false, false, false, false, false, false] rfl rfl (any_of HT_.out (by kernel_rfl)) (fun _ _ _ h => h) (Or.inl ⟨by rfl, ?_⟩) ?_ ?_
                                rotate_left
                                · intro w'
                                  go_simp
                                  with_reducible rfl
                                rotate_left
                                · simp only [Act.put, List.setIfInBounds_toArray, List.set_cons_zero, List.set_cons_succ, i64_w, i32_w]
                                  rfl
                                refine pure_ (i := 2) (N := some 73) (v := ?_) (a' := ?_) #[true, true, true, false, false, false, false, false, false, false, false, false, false, false, false, false, false] rfl rfl (any_of HT_.out (by kernel_rfl)) (fun _ _ _ h => h) (Or.inl ⟨by rfl, ?_⟩) ?_ ?_
                                rotate_left
                                · intro w'
                                  go_simp
                                  with_reducible rfl
                                rotate_left
                                · simp only [Act.put, List.setIfInBounds_toArray, List.set_cons_zero, List.set_cons_succ, i64_w, i32_w]
                                  rfl
                                refine pure_ (i := 5) (N := some 76) (v := ?_) (a' := ?_) #[true, true, true, false, false, true, false, false, false, false, false, false, false, false, false, false, false] rfl rfl (any_of HT_.out (by kernel_rfl)) (fun _ _ _ h => h) (Or.inl ⟨by rfl, ?_⟩) ?_ ?_
                                rotate_left
                                · intro w'
                                  go_simp
                                  with_reducible rfl
                                rotate_left
                                · simp only [Act.put, List.setIfInBounds_toArray, List.set_cons_zero, List.set_cons_succ, i64_w, i32_w]
                                  rfl
                                refine pure_ (i := 6) (N := some 77) (v := ?_) (a' := ?_) #[true, true, true, false, false, true, true, false, false, false, false, false, false, false, false, false, false] rfl rfl (any_of HT_.out (by kernel_rfl)) (fun _ _ _ h => h) (Or.inl ⟨by rfl, ?_⟩) ?_ ?_
                                rotate_left
                                · intro w'
                                  go_simp
                                  with_reducible rfl
                                rotate_left
                                · simp only [Act.put, List.setIfInBounds_toArray, List.set_cons_zero, List.set_cons_succ, i64_w, i32_w]
                                  rfl
                                refine pure_ (i := 7) (N := some 78) (v := ?_) (a' := ?_) #[true, true, true, false, false, true, true, true, false, false, false, false, false, false, false, false, false] rfl rfl (any_of HT_.out (by kernel_rfl)) (fun _ _ _ h => h) (Or.inl ⟨by rfl, ?_⟩) ?_ ?_
                                rotate_left
                                · intro w'
                                  go_simp
                                  with_reducible rfl
                                rotate_left
                                · simp only [Act.put, List.setIfInBounds_toArray, List.set_cons_zero, List.set_cons_succ, i64_w, i32_w]
                                  rfl
                                refine pure_ (i := 13) (N := some 84) (v := ?_) (a' := ?_) #[true, true, true, false, false, true, true, true, false, false, false, false, false, true, false, false, false] rfl rfl (any_of HT_.out (by kernel_rfl)) (fun _ _ _ h => h) (Or.inl ⟨by rfl, ?_⟩) ?_ ?_
                                rotate_left
                                · intro w'
                                  go_simp
                                  with_reducible rfl
                                rotate_left
                                · simp only [Act.put, List.setIfInBounds_toArray, List.set_cons_zero, List.set_cons_succ, i64_w, i32_w]
                                  rfl
                                refine take_ (i := 3) (N := some 74) (v := ?_) (a' := ?_) #[true, true, true, true, false, true, true, true, false, false, false, false, false, true, false, false, false] rfl rfl (take_ofW HT_.out HW_.out (by kernel_rfl)) (fun _ _ _ h => h) (Or.inl ⟨by rfl, ?_⟩) hHeld ?_ ?_
                                rotate_left
                                · rintro w' ⟨s0, s1, s2, s3, s4, s5, s6, s7⟩
                                  go_simp
                                  with_reducible rfl
                                rotate_left
                                · simp only [Act.put, List.setIfInBounds_toArray, List.set_cons_zero, List.set_cons_succ, i64_w, i32_w]
                                  rfl
                                refine take_ (i := 8) (N := some 79) (v := ?_) (a' := ?_) #[true, true, true, true, false, true, true, true, true, false, false, false, false, true, false, false, false] rfl rfl (take_ofW HT_.out HW_.out (by kernel_rfl)) (fun _ _ _ h => h) (Or.inl ⟨by rfl, ?_⟩) hHeld ?_ ?_
                                rotate_left
                                · rintro w' ⟨s0, s1, s2, s3, s4, s5, s6, s7⟩
                                  go_simp
                                  with_reducible rfl
                                rotate_left
                                · simp only [Act.put, List.setIfInBounds_toArray, List.set_cons_zero, List.set_cons_succ, i64_w, i32_w]
                                  rfl
                                refine pure_ (i := 9) (N := some 80) (v := ?_) (a' := ?_) #[true, true, true, true, false, true, true, true, true, true, false, false, false, true, false, false, false] rfl rfl (any_of HT_.out (by kernel_rfl)) (fun _ _ _ h => h) (Or.inl ⟨by rfl, ?_⟩) ?_ ?_
                                rotate_left
                                · intro w'
                                  go_simp
                                  with_reducible rfl
                                rotate_left
                                · simp only [Act.put, List.setIfInBounds_toArray, List.set_cons_zero, List.set_cons_succ, i64_w, i32_w]
                                  rfl
                                refine pure_ (i := 10) (N := some 81) (v := ?_) (a' := ?_) #[true, true, true, true, false, true, true, true, true, true, true, false, false, true, false, false, false] rfl rfl (any_of HT_.out (by kernel_rfl)) (fun _ _ _ h => h) (Or.inl ⟨by rfl, ?_⟩) ?_ ?_
                                rotate_left
                                · intro w'
                                  go_simp
                                  with_reducible rfl
                                rotate_left
                                · simp only [Act.put, List.setIfInBounds_toArray, List.set_cons_zero, List.set_cons_succ, i64_w, i32_w]
                                  rfl
                                refine take_ (i := 11) (N := some 82) (v := ?_) (a' := ?_) #[true, true, true, true, false, true, true, true, true, true, true, true, false, true, false, false, false] rfl rfl (take_ofW HT_.out HW_.out (by kernel_rfl)) (fun _ _ _ h => h) (Or.inl ⟨by rfl, ?_⟩) hHeld ?_ ?_
                                rotate_left
                                · rintro w' ⟨s0, s1, s2, s3, s4, s5, s6, s7⟩
                                  go_simp
                                  with_reducible rfl
                                rotate_left
                                · simp only [Act.put, List.setIfInBounds_toArray, List.set_cons_zero, List.set_cons_succ, i64_w, i32_w]
                                  rfl
                                refine one_ (i := 4) (N := some 75) #[true, true, true, true, true, true, true, true, true, true, true, true, false, true, false, false, false] rfl rfl (one_of HT_.out (by kernel_rfl)) (by decide) (fun K hK => ?_)
                                refine goes_ Tryz.func96 (by kernel_rfl) rfl #[.slice (some ad190) l0.length c0, .int .i64 (rd t192 1)] (by rfl) rfl rfl (by (try simp only [List.map_toArray, List.map_cons, List.map_nil]); first | done | rfl | (simp only [List.length_drop, List.length_take]; rfl)) ?_
                                with_reducible refine (ih k (by omega) _ _ l0 (rd t192 1) t211 _ ?side1 ?side2 ?side3 A47.out).mono ?_
                                (case side1 => repeat (first | exact (Kd.C_below HR0.out HB.out) | (with_reducible refine Kd.C_alloc ?_ _) | (with_reducible refine Kd.C_drewN ?_ _) | (with_reducible refine Kd.C_drew ?_)))
                                (case side2 => exact HC0.out)
                                (case side3 => exact Globs.below HG.out (by repeat (first | (with_reducible first | exact HB.out | apply below_alloc | apply pw_below_drewN | apply below_drew1 | refine below_set ?_ GE191.out) | exact HB.out)))
                                rintro e w65 ⟨rfl, hb⟩
                                have HS0_ := (hb.cell (World.block_lt_of_cell? _ _ (hHeld.1))).trans (hHeld.1)
                                have HS1_ := (hb.cell (World.block_lt_of_cell? _ _ (hHeld.2.1))).trans (hHeld.2.1)
                                refine ⟨_, rfl, ?_⟩
                                have n0_ := Aside0.mk (Kd.R_below (by (with_reducible repeat (first | apply Kd.R_alloc | apply Kd.R_drewN | apply Kd.R_drew)); exact HO194.out) hb)
                                have n1_ := Aside0.mk (blk_below (g := gb191) (o := .cells #[.int .u8 ((rd_T35 l0 a1).f0), .int .u8 ((rd_T35 l0 a1).f1), .string ((rd_T35 l0 a1).f2), .int .i64 ((rd_T35 l0 a1).f3), .int .i64 ((rd_T35 l0 a1).f4), .int .i64 ((rd_T35 l0 a1).f5)] 35 (0, 0)) (by (with_reducible repeat (first | refine blk_drewN ?_ _ | refine blk_drew ?_ | refine blk_alloc ?_ _)); exact BK191.out) hb)
                                have n2_ := Aside0.mk (below_step (by repeat (first | (with_reducible first | exact HB.out | apply below_alloc | apply pw_below_drewN | apply below_drew1 | refine below_set ?_ GE191.out) | exact HB.out)) hb)
                                clear HO194
                                clear BK191
                                clear HB
                                have HO194 := n0_
                                have BK191 := n1_
                                have HB := n2_
                                clear n0_ n1_ n2_
                                (try clear hb)
                                (try clear hb2)
                                (try clear hk)
                                (try clear hi)
                                refine hK.out _ _ ⟨HS0_, HS1_, ((HB.out.cell (World.block_lt_of_cell? w _ hw213_0)).trans hw213_0), ((HB.out.cell (World.block_lt_of_cell? w _ hw213_1)).trans hw213_1), ((HB.out.cell (World.block_lt_of_cell? w _ hw213_2)).trans hw213_2), ((HB.out.cell (World.block_lt_of_cell? w _ hw213_3)).trans hw213_3), ((HB.out.cell (World.block_lt_of_cell? w _ hw213_4)).trans hw213_4), ((HB.out.cell (World.block_lt_of_cell? w _ hw213_5)).trans hw213_5)⟩ (fun hHeld => ?_)
                                clear hK K
                                refine norm_ (a' := ?_) ?_ ?_
                                rotate_left
                                · show Act.put _ (some 75) _ = _
                                  simp only [Act.put, List.setIfInBounds_toArray, List.set_cons_zero, List.set_cons_succ, i64_w, i32_w]
                                  rfl
                                refine one_ (i := 12) (N := some 83) #[true, true, true, true, true, true, true, true, true, true, true, true, true, true, false, false, false] rfl rfl (one_of HT_.out (by kernel_rfl)) (by decide) (fun K hK => ?_)
                                refine goes_ Tryz.func127 (by kernel_rfl) rfl #[.int .u8 ((rd_T35 l0 (rd t192 1)).f0)] (by rfl) rfl rfl (by (try simp only [List.map_toArray, List.map_cons, List.map_nil]); first | done | rfl | (simp only [List.length_drop, List.length_take]; rfl)) ?_
                                with_reducible refine (ast_binding.calls k ((rd_T35 l0 (rd t192 1)).f0) t214 _ A50.out).mono ?_
                                rintro e w' ⟨rfl, ⟨nd, rfl⟩⟩
                                refine ⟨_, rfl, ?_⟩
                                refine hK.out _ _ ⟨hHeld.1, hHeld.2.1, ((HB.out.cell (World.block_lt_of_cell? w _ hw213_0)).trans hw213_0), ((HB.out.cell (World.block_lt_of_cell? w _ hw213_1)).trans hw213_1), ((HB.out.cell (World.block_lt_of_cell? w _ hw213_2)).trans hw213_2), ((HB.out.cell (World.block_lt_of_cell? w _ hw213_3)).trans hw213_3), ((HB.out.cell (World.block_lt_of_cell? w _ hw213_4)).trans hw213_4), ((HB.out.cell (World.block_lt_of_cell? w _ hw213_5)).trans hw213_5)⟩ (fun hHeld => ?_)
                                clear hK K
                                refine norm_ (a' := ?_) ?_ ?_
                                rotate_left
                                · show Act.put _ (some 83) _ = _
                                  simp only [Act.put, List.setIfInBounds_toArray, List.set_cons_zero, List.set_cons_succ, i64_w, i32_w]
                                  rfl
                                refine pure_ (i := 14) (N := some 85) (v := ?_) (a' := ?_) #[true, true, true, true, true, true, true, true, true, true, true, true, true, true, true, false, false] rfl rfl (any_of HT_.out (by kernel_rfl)) (fun _ _ _ h => h) (Or.inl ⟨by rfl, ?_⟩) ?_ ?_
                                rotate_left
                                · intro w'
                                  go_simp
                                  with_reducible rfl
                                rotate_left
                                · simp only [Act.put, List.setIfInBounds_toArray, List.set_cons_zero, List.set_cons_succ, i64_w, i32_w]
                                  rfl
                                refine one_ (i := 15) (N := some 86) #[true, true, true, true, true, true, true, true, true, true, true, true, true, true, true, true, false] rfl rfl (one_of HT_.out (by kernel_rfl)) (by decide) (fun K hK => ?_)
                                refine goes_ Tryz.func126 (by kernel_rfl) rfl #[.string t211, .bool (decide (t214 ≤ t203))] (by rfl) rfl rfl (by (try simp only [List.map_toArray, List.map_cons, List.map_nil]); first | done | rfl | (simp only [List.length_drop, List.length_take]; rfl)) ?_
                                with_reducible refine (ast_bracketed.calls t211 (decide (t214 ≤ t203)) t215 _ A51.out).mono ?_
                                rintro e w' ⟨rfl, ⟨nd, rfl⟩⟩
                                refine ⟨_, rfl, ?_⟩
                                refine hK.out _ _ ⟨hHeld.1, hHeld.2.1, ((HB.out.cell (World.block_lt_of_cell? w _ hw213_0)).trans hw213_0), ((HB.out.cell (World.block_lt_of_cell? w _ hw213_1)).trans hw213_1), ((HB.out.cell (World.block_lt_of_cell? w _ hw213_2)).trans hw213_2), ((HB.out.cell (World.block_lt_of_cell? w _ hw213_3)).trans hw213_3), ((HB.out.cell (World.block_lt_of_cell? w _ hw213_4)).trans hw213_4), ((HB.out.cell (World.block_lt_of_cell? w _ hw213_5)).trans hw213_5)⟩ (fun hHeld => ?_)
                                clear hK K
                                refine norm_ (a' := ?_) ?_ ?_
                                rotate_left
                                · show Act.put _ (some 86) _ = _
                                  simp only [Act.put, List.setIfInBounds_toArray, List.set_cons_zero, List.set_cons_succ, i64_w, i32_w]
                                  rfl
                                refine pure_ (i := 16) (N := some 9) (v := ?_) (a' := ?_) #[true, true, true, true, true, true, true, true, true, true, true, true, true, true, true, true, true] rfl rfl (any_of HT_.out (by kernel_rfl)) (fun _ _ _ h => h) (Or.inl ⟨by rfl, ?_⟩) ?_ ?_
                                rotate_left
                                · intro w'
                                  go_simp
                                  with_reducible rfl
                                rotate_left
                                · simp only [Act.put, List.setIfInBounds_toArray, List.set_cons_zero, List.set_cons_succ, i64_w, i32_w]
                                  rfl
                                refine done_ (done_of HT_.out (by kernel_rfl)) ?_
                                have hcz66_0 : w65.cell? ⟨gb191, 0, none⟩ = some (.int .u8 ((rd_T35 l0 a1).f0)) := (blk_cell BK191.out 0).trans rfl
                                have hcz66_1 : w65.cell? ⟨gb191, 1, none⟩ = some (.int .u8 ((rd_T35 l0 a1).f1)) := (blk_cell BK191.out 1).trans rfl
                                have hcz66_2 : w65.cell? ⟨gb191, 2, none⟩ = some (.string ((rd_T35 l0 a1).f2)) := (blk_cell BK191.out 2).trans rfl
                                have hcz66_3 : w65.cell? ⟨gb191, 3, none⟩ = some (.int .i64 ((rd_T35 l0 a1).f3)) := (blk_cell BK191.out 3).trans rfl
                                have hcz66_4 : w65.cell? ⟨gb191, 4, none⟩ = some (.int .i64 ((rd_T35 l0 a1).f4)) := (blk_cell BK191.out 4).trans rfl
                                have hcz66_5 : w65.cell? ⟨gb191, 5, none⟩ = some (.int .i64 ((rd_T35 l0 a1).f5)) := (blk_cell BK191.out 5).trans rfl
                                have hfz66_0 := blk_frozen BK191.out 0
                                have hfz66_1 := blk_frozen BK191.out 1
                                have hfz66_2 := blk_frozen BK191.out 2
                                have hfz66_3 := blk_frozen BK191.out 3
                                have hfz66_4 := blk_frozen BK191.out 4
                                have hfz66_5 := blk_frozen BK191.out 5
                                try go_wp2_with (first | ((with_reducible refine gate_callee (f := 128) rfl ?_); refine goesL_ (some 91) rfl rfl Tryz.func128 (by kernel_rfl) rfl #[.int .u8 ((rd_T35 l0 a1).f0)] rfl (by (try simp only [List.map_toArray, List.map_cons, List.map_nil]); first | done | rfl | (simp only [List.length_drop, List.length_take]; rfl)) ?_; (with_reducible refine (ast_sign.calls ((rd_T35 l0 a1).f0) t216 _ A53.out).mono ?_); rintro e w' ⟨rfl, ⟨nd, rfl⟩⟩; refine ⟨_, rfl, ?_⟩))
                                go_ret
                                exact ⟨by first | rfl | (simp [errW_none, errW_some] <;> rfl) | (simp [*, errW_none, errW_some] <;> rfl), by repeat (first | (with_reducible first | exact HB.out | apply below_alloc | apply pw_below_drewN | apply below_drew1 | refine below_set ?_ GE191.out) | exact HB.out)⟩
                              · rw [if_neg c56] at H
                                exact absurd H (by simp)
                            · rw [if_neg c55] at H
                              exact absurd H (by simp)
                          · rw [if_neg c54] at H
                            exact absurd H (by simp)
                        · rw [if_neg c52] at H
                          exact absurd H (by simp)
                      · rw [if_neg c49] at H
                        exact absurd H (by simp)
                    · rw [if_neg c48] at H
                      exact absurd H (by simp)
                  · rw [if_neg c46] at H
                    exact absurd H (by simp)
                · rw [if_neg c43] at H
                  exact absurd H (by simp)
              · rw [if_neg c42] at H
                exact absurd H (by simp)
            · rw [if_neg c40] at H
              exact absurd H (by simp)
    · rw [if_neg c4] at H
      exact absurd H (by simp)
  · rw [if_neg c3] at H
    exact absurd H (by simp)

end Go.Proofs.YtabhhfpfdndidaaGreatDoor.Print
