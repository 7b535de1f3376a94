-- Made by wip/mkprint.sh of this repo over the kit's print.
import Derived.Test.YtabhhfpfdndidaaGreatDoorPrint0
import Derived.Test.YtabhhfpfdndidaaGreatDoorPrint9
namespace Go.Proofs.YtabhhfpfdndidaaGreatDoor.Print
open Go.RowKit Go.Proofs.YtabhhfpfdndidaaGreatDoorW.PrintWords Go.Proofs.YtabhhfpfdndidaaGreatDoorW.PrintLast Go.Proofs Go.Proofs.YtabhhfpfdndidaaGreatDoor Go.Proofs.YtabhhfpfdndidaaGreatDoor.Base Go.Proofs.YtabhhfpfdndidaaGreatDoorW.PrintMore
attribute [local go_sem] max2_int min2_int max_two min_two max_three min_three max_four min_four   -- for this text's walks alone
set_option linter.unusedVariables false
set_option linter.unusedSimpArgs false

/-! ### ast_Alike_1: function 56 -/
def ast_Alike_1.f (l0_0 : List (S35)) (a0_1 : ByteArray) (a0_2 : Int) (a0_3 : Int) (l1_0 : List (S35)) (a1_1 : ByteArray) (a1_2 : Int) (a1_3 : Int) : Option (Bool) := if a0_1.toList = a1_1.toList then ((ast_Same.f l0_0 l1_0).bind fun t273 => (some t273)) else (some false)
set_option maxHeartbeats 8000000 in
set_option maxRecDepth 100000 in
theorem ast_Alike_1.calls (A0_0 : Option Addr) (c0_0 : Nat) (l0_0 : List (S35)) (a0_1 : ByteArray) (a0_2 : Int) (a0_3 : Int) (A1_0 : Option Addr) (c1_0 : Nat) (l1_0 : List (S35)) (a1_1 : ByteArray) (a1_2 : Int) (a1_3 : Int) (r : Bool) (w : World) (hr0_0 : Kd.C k35 w A0_0 l0_0.length l0_0) (hc0_0 : l0_0.length ≤ c0_0) (hr1_0 : Kd.C k35 w A1_0 l1_0.length l1_0) (hc1_0 : l1_0.length ≤ c1_0) (h : ast_Alike_1.f l0_0 a0_1 a0_2 a0_3 l1_0 a1_1 a1_2 a1_3 = some r) :
    Calls Tryz.prog 56 #[.agg #[.slice A0_0 l0_0.length c0_0, .string a0_1, .int .i64 a0_2, .int .i64 a0_3], .agg #[.slice A1_0 l1_0.length c1_0, .string a1_1, .int .i64 a1_2, .int .i64 a1_3]] w fun e w' => e = .returned (.bool r) ∧ Below w.heap.size w w' := by
  have hu81 := Tryz.underlying81
  have HR0_0 := Aside0.mk hr0_0
  have HC0_0 := Aside0.mk hc0_0
  clear hr0_0 hc0_0
  have HR1_0 := Aside0.mk hr1_0
  have HC1_0 := Aside0.mk hc1_0
  clear hr1_0 hc1_0
  have HB := Aside0.mk (Below.refl w.heap.size w)
  have H : (if a0_1.toList = a1_1.toList then ((ast_Same.f l0_0 l1_0).bind fun t273 => (some t273)) else (some false)) = some r := h
  clear h
  by_cases c3 : a0_1.toList = a1_1.toList
  rw [if_pos c3] at H
  have c3b0 : (a0_1.toList == a1_1.toList) = true := beq_iff_eq.mpr c3
  have c3b1 : (a0_1.toList != a1_1.toList) = false := bne_eq_false_iff_eq.mpr c3
  clear c3
  replace H := Option.bind_eq_some_iff.mp H
  obtain ⟨t273, A40, H⟩ := H
  replace H : (some t273) = some r := H
  have A4 := Aside0.mk A40
  clear A40
  obtain rfl := Option.some.inj H
  rotate_left
  rw [if_neg c3] at H
  have c3b0 : (a0_1.toList == a1_1.toList) = false := beq_eq_false_iff_ne.mpr c3
  have c3b1 : (a0_1.toList != a1_1.toList) = true := bne_iff_ne.mpr c3
  obtain rfl := Option.some.inj H
  rotate_left
  all_goals
    go_enter Tryz.func56, Tryz.ntmps56
    go_wp2_with (first | ((with_reducible refine gate_dst (N := 2) rfl ?_); refine box_event ?hg (N := 2) ?hd (cs := #[.slice A0_0 l0_0.length c0_0, .string a0_1, .int .i64 a0_2, .int .i64 a0_3]) (t := 81) ?hr ?_; (case hd => rfl); (case hg => rfl); (case hr => first | (go_simp; done) | (go_simp; rfl)); intro gb271 hg w5 hbox hb; have n0_ := Aside0.mk (below_step (by repeat (first | (with_reducible first | exact HB.out | apply below_alloc | apply pw_below_drewN | apply below_drew1) | exact HB.out)) hb); have n1_ := Aside0.mk (hbox); have n2_ := Aside0.mk ((by rw [hg]; exact (below_size (by repeat (first | (with_reducible first | exact HB.out | apply below_alloc | apply pw_below_drewN | apply below_drew1) | exact HB.out))) : w.heap.size ≤ gb271)); have n3_ := Aside0.mk ((by rw [hg]; exact (below_size (by repeat (first | (with_reducible first | exact HB.out | apply below_alloc | apply pw_below_drewN | apply below_drew1) | exact HB.out))) : w.heap.size ≤ gb271)); clear HB; have HB := n0_; have BK271 := n1_; have GW271 := n2_; have GE271 := n3_; clear n0_ n1_ n2_ n3_; clear hb hbox hg) | ((with_reducible refine gate_dst (N := 3) rfl ?_); refine box_event ?hg (N := 3) ?hd (cs := #[.slice A1_0 l1_0.length c1_0, .string a1_1, .int .i64 a1_2, .int .i64 a1_3]) (t := 81) ?hr ?_; (case hd => rfl); (case hg => rfl); (case hr => first | (go_simp; done) | (go_simp; rfl)); intro gb272 hg w6 hbox hb; have n0_ := Aside0.mk (blk_below (g := gb271) (o := .cells #[.slice A0_0 l0_0.length c0_0, .string a0_1, .int .i64 a0_2, .int .i64 a0_3] 81 (0, 0)) (by (with_reducible repeat (first | refine blk_drewN ?_ _ | refine blk_drew ?_ | refine blk_alloc ?_ _)); exact BK271.out) hb); have n1_ := Aside0.mk (below_step (by repeat (first | (with_reducible first | exact HB.out | apply below_alloc | apply pw_below_drewN | apply below_drew1 | refine below_set ?_ GE271.out) | exact HB.out)) hb); have n2_ := Aside0.mk (hbox); have n3_ := Aside0.mk ((by rw [hg]; exact (below_size (by repeat (first | (with_reducible first | exact HB.out | apply below_alloc | apply pw_below_drewN | apply below_drew1 | refine below_set ?_ GE271.out) | exact HB.out))) : w.heap.size ≤ gb272)); have n4_ := Aside0.mk ((by rw [hg]; exact (below_size (by repeat (first | (with_reducible first | exact HB.out | apply below_alloc | apply pw_below_drewN | apply below_drew1 | refine below_set ?_ GE271.out) | exact HB.out))) : w.heap.size ≤ gb272)); have n5_ := Aside0.mk ((by rw [hg]; exact Nat.ne_of_lt (blk_lt (g := gb271) (o := .cells #[.slice A0_0 l0_0.length c0_0, .string a0_1, .int .i64 a0_2, .int .i64 a0_3] 81 (0, 0)) (by (with_reducible repeat (first | refine blk_drewN ?_ _ | refine blk_drew ?_ | refine blk_alloc ?_ _)); exact BK271.out)) : gb271 ≠ gb272)); have n6_ := Aside0.mk ((by rw [hg]; exact Nat.ne_of_gt (blk_lt (g := gb271) (o := .cells #[.slice A0_0 l0_0.length c0_0, .string a0_1, .int .i64 a0_2, .int .i64 a0_3] 81 (0, 0)) (by (with_reducible repeat (first | refine blk_drewN ?_ _ | refine blk_drew ?_ | refine blk_alloc ?_ _)); exact BK271.out)) : gb272 ≠ gb271)); clear BK271; clear HB; have BK271 := n0_; have HB := n1_; have BK272 := n2_; have GW272 := n3_; have GE272 := n4_; have NB271_272 := n5_; have NB272_271 := n6_; clear n0_ n1_ n2_ n3_ n4_ n5_ n6_; clear hb hbox hg; have hnb7 := NB271_272.out; have hnc7 := NB272_271.out; have hcz8_0 : w6.cell? ⟨gb271, 0, none⟩ = some (.slice A0_0 l0_0.length c0_0) := (blk_cell BK271.out 0).trans rfl; have hcz8_1 : w6.cell? ⟨gb271, 1, none⟩ = some (.string a0_1) := (blk_cell BK271.out 1).trans rfl; have hcz8_2 : w6.cell? ⟨gb271, 2, none⟩ = some (.int .i64 a0_2) := (blk_cell BK271.out 2).trans rfl; have hcz8_3 : w6.cell? ⟨gb271, 3, none⟩ = some (.int .i64 a0_3) := (blk_cell BK271.out 3).trans rfl; have hfz8_0 := blk_frozen BK271.out 0; have hfz8_1 := blk_frozen BK271.out 1; have hfz8_2 := blk_frozen BK271.out 2; have hfz8_3 := blk_frozen BK271.out 3; have hcz9_0 : w6.cell? ⟨gb272, 0, none⟩ = some (.slice A1_0 l1_0.length c1_0) := (blk_cell BK272.out 0).trans rfl; have hcz9_1 : w6.cell? ⟨gb272, 1, none⟩ = some (.string a1_1) := (blk_cell BK272.out 1).trans rfl; have hcz9_2 : w6.cell? ⟨gb272, 2, none⟩ = some (.int .i64 a1_2) := (blk_cell BK272.out 2).trans rfl; have hcz9_3 : w6.cell? ⟨gb272, 3, none⟩ = some (.int .i64 a1_3) := (blk_cell BK272.out 3).trans rfl; have hfz9_0 := blk_frozen BK272.out 0; have hfz9_1 := blk_frozen BK272.out 1; have hfz9_2 := blk_frozen BK272.out 2; have hfz9_3 := blk_frozen BK272.out 3) | (go_at_call 23; (with_reducible refine (ast_Same.calls _ _ l0_0 _ _ l1_0 t273 _ ?side1 ?side2 ?side3 ?side4 A4.out).mono ?_); (case side1 => repeat (first | exact (Kd.C_below HR0_0.out HB.out) | (with_reducible refine Kd.C_alloc ?_ _) | (with_reducible refine Kd.C_drewN ?_ _) | (with_reducible refine Kd.C_drew ?_))); (case side2 => exact HC0_0.out); (case side3 => repeat (first | exact (Kd.C_below HR1_0.out HB.out) | (with_reducible refine Kd.C_alloc ?_ _) | (with_reducible refine Kd.C_drewN ?_ _) | (with_reducible refine Kd.C_drew ?_))); (case side4 => exact HC1_0.out); rintro e w10 ⟨rfl, hb⟩; have n0_ := Aside0.mk (blk_below (g := gb271) (o := .cells #[.slice A0_0 l0_0.length c0_0, .string a0_1, .int .i64 a0_2, .int .i64 a0_3] 81 (0, 0)) (by (with_reducible repeat (first | refine blk_drewN ?_ _ | refine blk_drew ?_ | refine blk_alloc ?_ _)); exact BK271.out) hb); have n1_ := Aside0.mk (blk_below (g := gb272) (o := .cells #[.slice A1_0 l1_0.length c1_0, .string a1_1, .int .i64 a1_2, .int .i64 a1_3] 81 (0, 0)) (by (with_reducible repeat (first | refine blk_drewN ?_ _ | refine blk_drew ?_ | refine blk_alloc ?_ _)); exact BK272.out) hb); have n2_ := Aside0.mk (below_step (by repeat (first | (with_reducible first | exact HB.out | apply below_alloc | apply pw_below_drewN | apply below_drew1 | refine below_set ?_ GE271.out | refine below_set ?_ GE272.out) | exact HB.out)) hb); clear BK271; clear BK272; clear HB; have BK271 := n0_; have BK272 := n1_; have HB := n2_; clear n0_ n1_ n2_; (try clear hb); (try clear hb2); (try clear hk); (try clear hi)))
    go_ret
    exact ⟨by first | rfl | (simp [errW_none, errW_some] <;> rfl) | (simp [*, errW_none, errW_some] <;> rfl), by repeat (first | (with_reducible first | exact HB.out | apply below_alloc | apply pw_below_drewN | apply below_drew1 | refine below_set ?_ GE271.out | refine below_set ?_ GE272.out) | exact HB.out)⟩

/-! ### ast_Alike_2: function 57 -/
def ast_Alike_2.f (a0_0 : ByteArray) (a0_1 : Int) (a1_0 : ByteArray) (a1_1 : Int) : Option (Bool) := some (a0_0.toList == a1_0.toList)
set_option maxHeartbeats 8000000 in
set_option maxRecDepth 100000 in
theorem ast_Alike_2.calls (a0_0 : ByteArray) (a0_1 : Int) (a1_0 : ByteArray) (a1_1 : Int) (r : Bool) (w : World) (h : ast_Alike_2.f a0_0 a0_1 a1_0 a1_1 = some r) :
    Calls Tryz.prog 57 #[.agg #[.string a0_0, .int .i64 a0_1], .agg #[.string a1_0, .int .i64 a1_1]] w fun e w' => e = .returned (.bool r) ∧ Below w.heap.size w w' := by
  have hu39 := Tryz.underlying39
  have HB := Aside0.mk (Below.refl w.heap.size w)
  have H : (some (a0_0.toList == a1_0.toList)) = some r := h
  clear h
  obtain rfl := Option.some.inj H
  go_enter Tryz.func57, Tryz.ntmps57
  go_wp2_with (first | ((with_reducible refine gate_dst (N := 2) rfl ?_); refine box_event ?hg (N := 2) ?hd (cs := #[.string a0_0, .int .i64 a0_1]) (t := 39) ?hr ?_; (case hd => rfl); (case hg => rfl); (case hr => first | (go_simp; done) | (go_simp; rfl)); intro gb274 hg w3 hbox hb; have n0_ := Aside0.mk (below_step (by repeat (first | (with_reducible first | exact HB.out | apply below_alloc | apply pw_below_drewN | apply below_drew1) | exact HB.out)) hb); have n1_ := Aside0.mk (hbox); have n2_ := Aside0.mk ((by rw [hg]; exact (below_size (by repeat (first | (with_reducible first | exact HB.out | apply below_alloc | apply pw_below_drewN | apply below_drew1) | exact HB.out))) : w.heap.size ≤ gb274)); have n3_ := Aside0.mk ((by rw [hg]; exact (below_size (by repeat (first | (with_reducible first | exact HB.out | apply below_alloc | apply pw_below_drewN | apply below_drew1) | exact HB.out))) : w.heap.size ≤ gb274)); clear HB; have HB := n0_; have BK274 := n1_; have GW274 := n2_; have GE274 := n3_; clear n0_ n1_ n2_ n3_; clear hb hbox hg) | ((with_reducible refine gate_dst (N := 3) rfl ?_); refine box_event ?hg (N := 3) ?hd (cs := #[.string a1_0, .int .i64 a1_1]) (t := 39) ?hr ?_; (case hd => rfl); (case hg => rfl); (case hr => first | (go_simp; done) | (go_simp; rfl)); intro gb275 hg w4 hbox hb; have n0_ := Aside0.mk (blk_below (g := gb274) (o := .cells #[.string a0_0, .int .i64 a0_1] 39 (0, 0)) (by (with_reducible repeat (first | refine blk_drewN ?_ _ | refine blk_drew ?_ | refine blk_alloc ?_ _)); exact BK274.out) hb); have n1_ := Aside0.mk (below_step (by repeat (first | (with_reducible first | exact HB.out | apply below_alloc | apply pw_below_drewN | apply below_drew1 | refine below_set ?_ GE274.out) | exact HB.out)) hb); have n2_ := Aside0.mk (hbox); have n3_ := Aside0.mk ((by rw [hg]; exact (below_size (by repeat (first | (with_reducible first | exact HB.out | apply below_alloc | apply pw_below_drewN | apply below_drew1 | refine below_set ?_ GE274.out) | exact HB.out))) : w.heap.size ≤ gb275)); have n4_ := Aside0.mk ((by rw [hg]; exact (below_size (by repeat (first | (with_reducible first | exact HB.out | apply below_alloc | apply pw_below_drewN | apply below_drew1 | refine below_set ?_ GE274.out) | exact HB.out))) : w.heap.size ≤ gb275)); have n5_ := Aside0.mk ((by rw [hg]; exact Nat.ne_of_lt (blk_lt (g := gb274) (o := .cells #[.string a0_0, .int .i64 a0_1] 39 (0, 0)) (by (with_reducible repeat (first | refine blk_drewN ?_ _ | refine blk_drew ?_ | refine blk_alloc ?_ _)); exact BK274.out)) : gb274 ≠ gb275)); have n6_ := Aside0.mk ((by rw [hg]; exact Nat.ne_of_gt (blk_lt (g := gb274) (o := .cells #[.string a0_0, .int .i64 a0_1] 39 (0, 0)) (by (with_reducible repeat (first | refine blk_drewN ?_ _ | refine blk_drew ?_ | refine blk_alloc ?_ _)); exact BK274.out)) : gb275 ≠ gb274)); clear BK274; clear HB; have BK274 := n0_; have HB := n1_; have BK275 := n2_; have GW275 := n3_; have GE275 := n4_; have NB274_275 := n5_; have NB275_274 := n6_; clear n0_ n1_ n2_ n3_ n4_ n5_ n6_; clear hb hbox hg; have hnb5 := NB274_275.out; have hnc5 := NB275_274.out; have hcz6_0 : w4.cell? ⟨gb274, 0, none⟩ = some (.string a0_0) := (blk_cell BK274.out 0).trans rfl; have hcz6_1 : w4.cell? ⟨gb274, 1, none⟩ = some (.int .i64 a0_1) := (blk_cell BK274.out 1).trans rfl; have hfz6_0 := blk_frozen BK274.out 0; have hfz6_1 := blk_frozen BK274.out 1; have hcz7_0 : w4.cell? ⟨gb275, 0, none⟩ = some (.string a1_0) := (blk_cell BK275.out 0).trans rfl; have hcz7_1 : w4.cell? ⟨gb275, 1, none⟩ = some (.int .i64 a1_1) := (blk_cell BK275.out 1).trans rfl; have hfz7_0 := blk_frozen BK275.out 0; have hfz7_1 := blk_frozen BK275.out 1))
  go_ret
  exact ⟨by first | rfl | (simp [errW_none, errW_some] <;> rfl) | (simp [*, errW_none, errW_some] <;> rfl), by repeat (first | (with_reducible first | exact HB.out | apply below_alloc | apply pw_below_drewN | apply below_drew1 | refine below_set ?_ GE274.out | refine below_set ?_ GE275.out) | exact HB.out)⟩

/-! ### api_Item: function 58 (its contract typed by hand) -/
/-- Of two lists, each with its partner? -/
def pairsAll {α : Type} (p : α → α → Bool) : List α → List α → Bool
  | [], [] => true
  | x :: a, y :: b => p x y && pairsAll p a b
  | _, _ => false
theorem pairsAll_len {α : Type} (p : α → α → Bool) : ∀ (a b : List α), pairsAll p a b = true → a.length = b.length
  | [], [], _ => rfl
  | x :: a, y :: b, h => by
    simp only [pairsAll, Bool.and_eq_true] at h
    simp [pairsAll_len p a b h.2]
  | [], y :: b, h => by simp [pairsAll] at h
  | x :: a, [], h => by simp [pairsAll] at h
theorem pairsAll_step {α : Type} (p : α → α → Bool) (z : α) {a b : List α} {k : Nat} (ha : k < a.length) (hb : k < b.length) : pairsAll p (a.drop k) (b.drop k) = (p (a.getD k z) (b.getD k z) && pairsAll p (a.drop (k + 1)) (b.drop (k + 1))) := by
  rw [List.drop_eq_getElem_cons ha, List.drop_eq_getElem_cons hb, pairsAll]
  simp [List.getD_eq_getElem?_getD, ha, hb]
def itemSame (x y : S81) : Bool := x.f1.f0.toList == y.f1.f0.toList && nodesSame x.f0 y.f0
theorem alike_1 (x y : S81) : ast_Alike_1.f x.f0 x.f1.f0 x.f1.f1 x.f2 y.f0 y.f1.f0 y.f1.f1 y.f2 = some (itemSame x y) := by
  unfold ast_Alike_1.f ast_Same.f itemSame
  by_cases h : x.f1.f0.toList = y.f1.f0.toList <;> simp [h]
set_option maxHeartbeats 1000000 in
set_option maxRecDepth 100000 in
theorem slices_EqualFunc_items (A0 : Option Addr) (c0 : Nat) (l0 : List (S81)) (A1 : Option Addr) (c1 : Nat) (l1 : List (S81)) (w : World) (hr0 : Kd.C k81 w A0 l0.length l0) (hr1 : Kd.C k81 w A1 l1.length l1) :
    Calls Tryz.prog 58 #[.slice A0 l0.length c0, .slice A1 l1.length c1, .func (.func 56) #[] #[]] w fun e w' => e = .returned (.bool (pairsAll itemSame l0 l1)) ∧ Below w.heap.size w w' := by
  have hm0 := Kd.C_max hr0
  have hm1 := Kd.C_max hr1
  have HR0 := Aside0.mk hr0
  have HR1 := Aside0.mk hr1
  clear hr0 hr1
  by_cases hl : l0.length = l1.length
  · have hl2 : (l0.length == l1.length) = true := beq_iff_eq.mpr hl
    have hl3 : (l0.length != l1.length) = false := bne_eq_false_iff_eq.mpr hl
    have hl4 : ((l0.length : Int) != (l1.length : Int)) = false := bne_eq_false_iff_eq.mpr (by omega)
    have HLen := Aside0.mk hl
    clear hl
    go_enter Tryz.func58, Tryz.ntmps58
    go_wp2
    clear hl2 hl3 hl4
    go_loopw [7, 8, 9, 17] (fun _ _ _ i wr => ∃ k : Nat, k ≤ l0.length ∧ i = .int .i64 k ∧ Aside0 (pairsAll itemSame (l0.drop k) (l1.drop k) = pairsAll itemSame l0 l1) ∧ Aside0 (Below w.heap.size w wr)) (fun _ _ _ i _ => l0.length - (intOf i).toNat)
    case atStart => exact ⟨0, Nat.zero_le _, rfl, ⟨rfl⟩, ⟨Below.refl _ _⟩⟩
    case round =>
      obtain ⟨k, hk, rfl, HW, HB⟩ := hrel
      by_cases hlt : k < l0.length
      · have hlt1 : k < l1.length := by have := HLen.out; omega
        obtain ⟨ad, E0, d0, rfl, hx0, hx1, hx2, hx3, gl0, gc0⟩ := at_T81 (Kd.C_below HR0.out HB.out) (k : Int) (by omega) (by omega)
        obtain ⟨bd, E1, d1, rfl, hy0, hy1, hy2, hy3, gl1, gc1⟩ := at_T81 (Kd.C_below HR1.out HB.out) (k : Int) (by omega) (by omega)
        simp only [Int.toNat_natCast] at hx0 hx1 hx2 hx3 hy0 hy1 hy2 hy3
        have hs := pairsAll_step itemSame z81 hlt hlt1
        obtain ⟨x, hx⟩ : ∃ n, rd_T81 l0 (k : Int) = n := ⟨_, rfl⟩
        obtain ⟨y, hy⟩ : ∃ n, rd_T81 l1 (k : Int) = n := ⟨_, rfl⟩
        have hx' : l0.getD k z81 = x := hx
        have hy' : l1.getD k z81 = y := hy
        rw [hx] at hx0 hx1 hx2 hx3 gl0 gc0
        rw [hy] at hy0 hy1 hy2 hy3 gl1 gc1
        rw [hx', hy'] at hs
        have hC := fun W (hW : Below wr.heap.size wr W) => ast_Alike_1.calls E0 d0 x.f0 x.f1.f0 x.f1.f1 x.f2 E1 d1 y.f0 y.f1.f0 y.f1.f1 y.f2 _ W (Kd.C_below gc0 hW) gl0 (Kd.C_below gc1 hW) gl1 (alike_1 x y)
        have hw := HW.out
        rw [hs] at hw
        obtain ⟨b, hb⟩ : ∃ b, itemSame x y = b := ⟨_, rfl⟩
        rw [hb] at hw hC
        have HC := Aside0.mk hC
        have HW2 := Aside0.mk hw
        clear hx hy hx' hy' hs hC hw hb HW gl0 gc0 gl1 gc1
        have hz0 := fun o : Obj => (World.cell?_alloc_lt wr o _ (cell_lt hy0)).trans hy0
        have hz1 := fun o : Obj => (World.cell?_alloc_lt wr o _ (cell_lt hy1)).trans hy1
        have hz2 := fun o : Obj => (World.cell?_alloc_lt wr o _ (cell_lt hy2)).trans hy2
        have hz3 := fun o : Obj => (World.cell?_alloc_lt wr o _ (cell_lt hy3)).trans hy3
        clear hy0 hy1 hy2 hy3
        cases b with
        | true =>
          have HW3 : Aside0 (pairsAll itemSame (l0.drop (k + 1)) (l1.drop (k + 1)) = pairsAll itemSame l0 l1) := ⟨by simpa using HW2.out⟩
          go_wp2_with (go_at_call 56; refine (HC.out _ (below_alloc (below_alloc (Below.refl _ _) _) _)).mono ?_; rintro e w1 ⟨rfl, hb1⟩; have HB1 := Aside0.mk (below_then (below_alloc (below_alloc HB.out _) _) (below_alloc (below_alloc HB.out _) _).size hb1); clear hb1)
          go_roundw
          case rel => exact ⟨k + 1, by omega, by go_num, HW3, HB1⟩
          case measure => simp [intOf]; omega
        | false =>
          have hf : pairsAll itemSame l0 l1 = false := by rw [← HW2.out]; rfl
          have HF := Aside0.mk hf
          clear hf
          go_wp2_with (go_at_call 56; refine (HC.out _ (below_alloc (below_alloc (Below.refl _ _) _) _)).mono ?_; rintro e w1 ⟨rfl, hb1⟩; have HB1 := Aside0.mk (below_then (below_alloc (below_alloc HB.out _) _) (below_alloc (below_alloc HB.out _) _).size hb1); clear hb1)
          go_ret
          exact ⟨by rw [HF.out]; rfl, HB1.out⟩
      · obtain rfl : k = l0.length := by omega
        have ht : pairsAll itemSame l0 l1 = true := by
          rw [← HW.out, List.drop_length, HLen.out, List.drop_length]
          rfl
        have HT := Aside0.mk ht
        clear ht
        go_wp2
        go_ret
        exact ⟨by rw [HT.out]; rfl, HB.out⟩
  · have hl2 : (l0.length == l1.length) = false := beq_eq_false_iff_ne.mpr hl
    have hl3 : (l0.length != l1.length) = true := bne_iff_ne.mpr hl
    have hl4 : ((l0.length : Int) != (l1.length : Int)) = true := bne_iff_ne.mpr (by omega)
    have hf : pairsAll itemSame l0 l1 = false := by
      cases h : pairsAll itemSame l0 l1
      · rfl
      · exact absurd (pairsAll_len itemSame l0 l1 h) hl
    have HF := Aside0.mk hf
    clear hl hf
    go_enter Tryz.func58, Tryz.ntmps58
    go_wp2
    go_ret
    exact ⟨by rw [HF.out]; rfl, Below.refl _ _⟩
def api_Item.f (l0 : List (S81)) (l1 : List (S81)) (a2 : Int) : Option Bool := some (pairsAll itemSame l0 l1)
theorem api_Item.calls (A0 : Option Addr) (c0 : Nat) (l0 : List (S81)) (A1 : Option Addr) (c1 : Nat) (l1 : List (S81)) (a2 : Int) (r : Bool) (w : World) (hr0 : Kd.C k81 w A0 l0.length l0) (hc0 : l0.length ≤ c0) (hr1 : Kd.C k81 w A1 l1.length l1) (hc1 : l1.length ≤ c1) (h : api_Item.f l0 l1 a2 = some r) :
    Calls Tryz.prog 58 #[.slice A0 l0.length c0, .slice A1 l1.length c1, .func (.func 56) #[] #[]] w fun e w' => e = .returned (.bool r) ∧ Below w.heap.size w w' := by
  obtain rfl := Option.some.inj h
  exact slices_EqualFunc_items A0 c0 l0 A1 c1 l1 w hr0 hr1

/-! ### api_Label: function 59 (its contract typed by hand) -/
def labelSame (x y : S39) : Bool := x.f0.toList == y.f0.toList
theorem alike_2 (x y : S39) : ast_Alike_2.f x.f0 x.f1 y.f0 y.f1 = some (labelSame x y) := rfl
set_option maxHeartbeats 1000000 in
set_option maxRecDepth 100000 in
theorem slices_EqualFunc_labels (A0 : Option Addr) (c0 : Nat) (l0 : List (S39)) (A1 : Option Addr) (c1 : Nat) (l1 : List (S39)) (w : World) (hr0 : Kd.C k39 w A0 l0.length l0) (hr1 : Kd.C k39 w A1 l1.length l1) :
    Calls Tryz.prog 59 #[.slice A0 l0.length c0, .slice A1 l1.length c1, .func (.func 57) #[] #[]] w fun e w' => e = .returned (.bool (pairsAll labelSame l0 l1)) ∧ Below w.heap.size w w' := by
  have hm0 := Kd.C_max hr0
  have hm1 := Kd.C_max hr1
  have HR0 := Aside0.mk hr0
  have HR1 := Aside0.mk hr1
  clear hr0 hr1
  by_cases hl : l0.length = l1.length
  · have hl2 : (l0.length == l1.length) = true := beq_iff_eq.mpr hl
    have hl3 : (l0.length != l1.length) = false := bne_eq_false_iff_eq.mpr hl
    have hl4 : ((l0.length : Int) != (l1.length : Int)) = false := bne_eq_false_iff_eq.mpr (by omega)
    have HLen := Aside0.mk hl
    clear hl
    go_enter Tryz.func59, Tryz.ntmps59
    go_wp2
    clear hl2 hl3 hl4
    go_loopw [7, 8, 9, 17] (fun _ _ _ i wr => ∃ k : Nat, k ≤ l0.length ∧ i = .int .i64 k ∧ Aside0 (pairsAll labelSame (l0.drop k) (l1.drop k) = pairsAll labelSame l0 l1) ∧ Aside0 (Below w.heap.size w wr)) (fun _ _ _ i _ => l0.length - (intOf i).toNat)
    case atStart => exact ⟨0, Nat.zero_le _, rfl, ⟨rfl⟩, ⟨Below.refl _ _⟩⟩
    case round =>
      obtain ⟨k, hk, rfl, HW, HB⟩ := hrel
      by_cases hlt : k < l0.length
      · have hlt1 : k < l1.length := by have := HLen.out; omega
        obtain ⟨ad, rfl, hx0, hx1⟩ := at_T39 (Kd.C_below HR0.out HB.out) (k : Int) (by omega) (by omega)
        obtain ⟨bd, rfl, hy0, hy1⟩ := at_T39 (Kd.C_below HR1.out HB.out) (k : Int) (by omega) (by omega)
        simp only [Int.toNat_natCast] at hx0 hx1 hy0 hy1
        have hs := pairsAll_step labelSame z39 hlt hlt1
        obtain ⟨x, hx⟩ : ∃ n, rd_T39 l0 (k : Int) = n := ⟨_, rfl⟩
        obtain ⟨y, hy⟩ : ∃ n, rd_T39 l1 (k : Int) = n := ⟨_, rfl⟩
        have hx' : l0.getD k z39 = x := hx
        have hy' : l1.getD k z39 = y := hy
        rw [hx] at hx0 hx1
        rw [hy] at hy0 hy1
        rw [hx', hy'] at hs
        have hC := fun W => ast_Alike_2.calls x.f0 x.f1 y.f0 y.f1 _ W (alike_2 x y)
        have hw := HW.out
        rw [hs] at hw
        obtain ⟨b, hb⟩ : ∃ b, labelSame x y = b := ⟨_, rfl⟩
        rw [hb] at hw hC
        have HC := Aside0.mk hC
        have HW2 := Aside0.mk hw
        clear hx hy hx' hy' hs hC hw hb HW
        have hz0 := fun o : Obj => (World.cell?_alloc_lt wr o _ (cell_lt hy0)).trans hy0
        have hz1 := fun o : Obj => (World.cell?_alloc_lt wr o _ (cell_lt hy1)).trans hy1
        clear hy0 hy1
        cases b with
        | true =>
          have HW3 : Aside0 (pairsAll labelSame (l0.drop (k + 1)) (l1.drop (k + 1)) = pairsAll labelSame l0 l1) := ⟨by simpa using HW2.out⟩
          go_wp2_with (go_at_call 57; refine (HC.out _).mono ?_; rintro e w1 ⟨rfl, hb1⟩; have HB1 := Aside0.mk (below_then (below_alloc (below_alloc HB.out _) _) (below_alloc (below_alloc HB.out _) _).size hb1); clear hb1)
          go_roundw
          case rel => exact ⟨k + 1, by omega, by go_num, HW3, HB1⟩
          case measure => simp [intOf]; omega
        | false =>
          have hf : pairsAll labelSame l0 l1 = false := by rw [← HW2.out]; rfl
          have HF := Aside0.mk hf
          clear hf
          go_wp2_with (go_at_call 57; refine (HC.out _).mono ?_; rintro e w1 ⟨rfl, hb1⟩; have HB1 := Aside0.mk (below_then (below_alloc (below_alloc HB.out _) _) (below_alloc (below_alloc HB.out _) _).size hb1); clear hb1)
          go_ret
          exact ⟨by rw [HF.out]; rfl, HB1.out⟩
      · obtain rfl : k = l0.length := by omega
        have ht : pairsAll labelSame l0 l1 = true := by
          rw [← HW.out, List.drop_length, HLen.out, List.drop_length]
          rfl
        have HT := Aside0.mk ht
        clear ht
        go_wp2
        go_ret
        exact ⟨by rw [HT.out]; rfl, HB.out⟩
  · have hl2 : (l0.length == l1.length) = false := beq_eq_false_iff_ne.mpr hl
    have hl3 : (l0.length != l1.length) = true := bne_iff_ne.mpr hl
    have hl4 : ((l0.length : Int) != (l1.length : Int)) = true := bne_iff_ne.mpr (by omega)
    have hf : pairsAll labelSame l0 l1 = false := by
      cases h : pairsAll labelSame l0 l1
      · rfl
      · exact absurd (pairsAll_len labelSame l0 l1 h) hl
    have HF := Aside0.mk hf
    clear hl hf
    go_enter Tryz.func59, Tryz.ntmps59
    go_wp2
    go_ret
    exact ⟨by rw [HF.out]; rfl, Below.refl _ _⟩
def api_Label.f (l0 : List (S39)) (l1 : List (S39)) (a2 : Int) : Option Bool := some (pairsAll labelSame l0 l1)
theorem api_Label.calls (A0 : Option Addr) (c0 : Nat) (l0 : List (S39)) (A1 : Option Addr) (c1 : Nat) (l1 : List (S39)) (a2 : Int) (r : Bool) (w : World) (hr0 : Kd.C k39 w A0 l0.length l0) (hc0 : l0.length ≤ c0) (hr1 : Kd.C k39 w A1 l1.length l1) (hc1 : l1.length ≤ c1) (h : api_Label.f l0 l1 a2 = some r) :
    Calls Tryz.prog 59 #[.slice A0 l0.length c0, .slice A1 l1.length c1, .func (.func 57) #[] #[]] w fun e w' => e = .returned (.bool r) ∧ Below w.heap.size w w' := by
  obtain rfl := Option.some.inj h
  exact slices_EqualFunc_labels A0 c0 l0 A1 c1 l1 w hr0 hr1

/-! ### ast_Alike: function 25 -/
def ast_Alike.f (l0_0 : List (S81)) (a0_1 : ByteArray) (a0_2 : Int) (a0_3 : ByteArray) (a0_4 : Int) (l0_5 : List (S35)) (a0_6 : Int) (a0_7 : Int) (a0_8 : Int) (l0_9 : List (S39)) (a0_10 : Int) (a0_11 : Int) (a0_12 : Int) (l1_0 : List (S81)) (a1_1 : ByteArray) (a1_2 : Int) (a1_3 : ByteArray) (a1_4 : Int) (l1_5 : List (S35)) (a1_6 : Int) (a1_7 : Int) (a1_8 : Int) (l1_9 : List (S39)) (a1_10 : Int) (a1_11 : Int) (a1_12 : Int) : Option (Bool) := (api_Item.f l0_0 l1_0 56).bind fun t278 => (if t278 = true then (if a0_1.toList = a1_1.toList then (if a0_3.toList = a1_3.toList then ((ast_Same.f l0_5 l1_5).bind fun t279 => (if t279 = true then (if a0_6 = a1_6 then (if a0_7 = a1_7 then ((api_Label.f l0_9 l1_9 57).bind fun t280 => (if t280 = true then (if a0_10 = a1_10 then (some (a0_11 == a1_11)) else (some false)) else (some false))) else (some false)) else (some false)) else (some false))) else (some false)) else (some false)) else (some false))
set_option maxHeartbeats 8000000 in
set_option maxRecDepth 100000 in
theorem ast_Alike.calls (A0_0 : Option Addr) (c0_0 : Nat) (l0_0 : List (S81)) (a0_1 : ByteArray) (a0_2 : Int) (a0_3 : ByteArray) (a0_4 : Int) (A0_5 : Option Addr) (c0_5 : Nat) (l0_5 : List (S35)) (a0_6 : Int) (a0_7 : Int) (a0_8 : Int) (A0_9 : Option Addr) (c0_9 : Nat) (l0_9 : List (S39)) (a0_10 : Int) (a0_11 : Int) (a0_12 : Int) (A1_0 : Option Addr) (c1_0 : Nat) (l1_0 : List (S81)) (a1_1 : ByteArray) (a1_2 : Int) (a1_3 : ByteArray) (a1_4 : Int) (A1_5 : Option Addr) (c1_5 : Nat) (l1_5 : List (S35)) (a1_6 : Int) (a1_7 : Int) (a1_8 : Int) (A1_9 : Option Addr) (c1_9 : Nat) (l1_9 : List (S39)) (a1_10 : Int) (a1_11 : Int) (a1_12 : Int) (r : Bool) (w : World) (hr0_0 : Kd.C k81 w A0_0 l0_0.length l0_0) (hc0_0 : l0_0.length ≤ c0_0) (hr0_5 : Kd.C k35 w A0_5 l0_5.length l0_5) (hc0_5 : l0_5.length ≤ c0_5) (hr0_9 : Kd.C k39 w A0_9 l0_9.length l0_9) (hc0_9 : l0_9.length ≤ c0_9) (hr1_0 : Kd.C k81 w A1_0 l1_0.length l1_0) (hc1_0 : l1_0.length ≤ c1_0) (hr1_5 : Kd.C k35 w A1_5 l1_5.length l1_5) (hc1_5 : l1_5.length ≤ c1_5) (hr1_9 : Kd.C k39 w A1_9 l1_9.length l1_9) (hc1_9 : l1_9.length ≤ c1_9) (h : ast_Alike.f l0_0 a0_1 a0_2 a0_3 a0_4 l0_5 a0_6 a0_7 a0_8 l0_9 a0_10 a0_11 a0_12 l1_0 a1_1 a1_2 a1_3 a1_4 l1_5 a1_6 a1_7 a1_8 l1_9 a1_10 a1_11 a1_12 = some r) :
    Calls Tryz.prog 25 #[.agg #[.slice A0_0 l0_0.length c0_0, .string a0_1, .int .i64 a0_2, .string a0_3, .int .i64 a0_4, .slice A0_5 l0_5.length c0_5, .int .i64 a0_6, .int .i64 a0_7, .int .i64 a0_8, .slice A0_9 l0_9.length c0_9, .int .u8 a0_10, .int .i64 a0_11, .int .i64 a0_12], .agg #[.slice A1_0 l1_0.length c1_0, .string a1_1, .int .i64 a1_2, .string a1_3, .int .i64 a1_4, .slice A1_5 l1_5.length c1_5, .int .i64 a1_6, .int .i64 a1_7, .int .i64 a1_8, .slice A1_9 l1_9.length c1_9, .int .u8 a1_10, .int .i64 a1_11, .int .i64 a1_12]] w fun e w' => e = .returned (.bool r) ∧ Below w.heap.size w w' := by
  have hu43 := Tryz.underlying43
  have HR0_0 := Aside0.mk hr0_0
  have HC0_0 := Aside0.mk hc0_0
  clear hr0_0 hc0_0
  have HR0_5 := Aside0.mk hr0_5
  have HC0_5 := Aside0.mk hc0_5
  clear hr0_5 hc0_5
  have HR0_9 := Aside0.mk hr0_9
  have HC0_9 := Aside0.mk hc0_9
  clear hr0_9 hc0_9
  have HR1_0 := Aside0.mk hr1_0
  have HC1_0 := Aside0.mk hc1_0
  clear hr1_0 hc1_0
  have HR1_5 := Aside0.mk hr1_5
  have HC1_5 := Aside0.mk hc1_5
  clear hr1_5 hc1_5
  have HR1_9 := Aside0.mk hr1_9
  have HC1_9 := Aside0.mk hc1_9
  clear hr1_9 hc1_9
  have HB := Aside0.mk (Below.refl w.heap.size w)
  have H : ((api_Item.f l0_0 l1_0 56).bind fun t278 => (if t278 = true then (if a0_1.toList = a1_1.toList then (if a0_3.toList = a1_3.toList then ((ast_Same.f l0_5 l1_5).bind fun t279 => (if t279 = true then (if a0_6 = a1_6 then (if a0_7 = a1_7 then ((api_Label.f l0_9 l1_9 57).bind fun t280 => (if t280 = true then (if a0_10 = a1_10 then (some (a0_11 == a1_11)) else (some false)) else (some false))) else (some false)) else (some false)) else (some false))) else (some false)) else (some false)) else (some false))) = some r := h
  clear h
  replace H := Option.bind_eq_some_iff.mp H
  obtain ⟨t278, A30, H⟩ := H
  replace H : (if t278 = true then (if a0_1.toList = a1_1.toList then (if a0_3.toList = a1_3.toList then ((ast_Same.f l0_5 l1_5).bind fun t279 => (if t279 = true then (if a0_6 = a1_6 then (if a0_7 = a1_7 then ((api_Label.f l0_9 l1_9 57).bind fun t280 => (if t280 = true then (if a0_10 = a1_10 then (some (a0_11 == a1_11)) else (some false)) else (some false))) else (some false)) else (some false)) else (some false))) else (some false)) else (some false)) else (some false)) = some r := H
  have A3 := Aside0.mk A30
  clear A30
  by_cases c4 : t278 = true
  subst c4
  have H1 : (if a0_1.toList = a1_1.toList then (if a0_3.toList = a1_3.toList then ((ast_Same.f l0_5 l1_5).bind fun t279 => (if t279 = true then (if a0_6 = a1_6 then (if a0_7 = a1_7 then ((api_Label.f l0_9 l1_9 57).bind fun t280 => (if t280 = true then (if a0_10 = a1_10 then (some (a0_11 == a1_11)) else (some false)) else (some false))) else (some false)) else (some false)) else (some false))) else (some false)) else (some false)) = some r := by rw [if_pos rfl] at H; exact H
  clear H
  have H := H1
  clear H1
  by_cases c5 : a0_1.toList = a1_1.toList
  rw [if_pos c5] at H
  have c5b0 : (a0_1.toList == a1_1.toList) = true := beq_iff_eq.mpr c5
  have c5b1 : (a0_1.toList != a1_1.toList) = false := bne_eq_false_iff_eq.mpr c5
  clear c5
  by_cases c6 : a0_3.toList = a1_3.toList
  rw [if_pos c6] at H
  have c6b0 : (a0_3.toList == a1_3.toList) = true := beq_iff_eq.mpr c6
  have c6b1 : (a0_3.toList != a1_3.toList) = false := bne_eq_false_iff_eq.mpr c6
  clear c6
  replace H := Option.bind_eq_some_iff.mp H
  obtain ⟨t279, A70, H⟩ := H
  replace H : (if t279 = true then (if a0_6 = a1_6 then (if a0_7 = a1_7 then ((api_Label.f l0_9 l1_9 57).bind fun t280 => (if t280 = true then (if a0_10 = a1_10 then (some (a0_11 == a1_11)) else (some false)) else (some false))) else (some false)) else (some false)) else (some false)) = some r := H
  have A7 := Aside0.mk A70
  clear A70
  by_cases c8 : t279 = true
  subst c8
  have H1 : (if a0_6 = a1_6 then (if a0_7 = a1_7 then ((api_Label.f l0_9 l1_9 57).bind fun t280 => (if t280 = true then (if a0_10 = a1_10 then (some (a0_11 == a1_11)) else (some false)) else (some false))) else (some false)) else (some false)) = some r := by rw [if_pos rfl] at H; exact H
  clear H
  have H := H1
  clear H1
  by_cases c9 : a0_6 = a1_6
  rw [if_pos c9] at H
  have c9b0 : (a0_6 == a1_6) = true := beq_iff_eq.mpr c9
  have c9b1 : (a0_6 != a1_6) = false := bne_eq_false_iff_eq.mpr c9
  clear c9
  by_cases c10 : a0_7 = a1_7
  rw [if_pos c10] at H
  have c10b0 : (a0_7 == a1_7) = true := beq_iff_eq.mpr c10
  have c10b1 : (a0_7 != a1_7) = false := bne_eq_false_iff_eq.mpr c10
  clear c10
  replace H := Option.bind_eq_some_iff.mp H
  obtain ⟨t280, A110, H⟩ := H
  replace H : (if t280 = true then (if a0_10 = a1_10 then (some (a0_11 == a1_11)) else (some false)) else (some false)) = some r := H
  have A11 := Aside0.mk A110
  clear A110
  by_cases c12 : t280 = true
  subst c12
  have H1 : (if a0_10 = a1_10 then (some (a0_11 == a1_11)) else (some false)) = some r := by rw [if_pos rfl] at H; exact H
  clear H
  have H := H1
  clear H1
  by_cases c13 : a0_10 = a1_10
  rw [if_pos c13] at H
  have c13b0 : (a0_10 == a1_10) = true := beq_iff_eq.mpr c13
  have c13b1 : (a0_10 != a1_10) = false := bne_eq_false_iff_eq.mpr c13
  clear c13
  obtain rfl := Option.some.inj H
  rotate_left
  rw [if_neg c13] at H
  have c13b0 : (a0_10 == a1_10) = false := beq_eq_false_iff_ne.mpr c13
  have c13b1 : (a0_10 != a1_10) = true := bne_iff_ne.mpr c13
  obtain rfl := Option.some.inj H
  rotate_left
  replace c12 := Bool.eq_false_iff.mpr c12
  subst c12
  have H1 : (some false) = some r := by rw [if_neg (show ¬ (false = true) by decide)] at H; exact H
  clear H
  have H := H1
  clear H1
  obtain rfl := Option.some.inj H
  rotate_left
  rw [if_neg c10] at H
  have c10b0 : (a0_7 == a1_7) = false := beq_eq_false_iff_ne.mpr c10
  have c10b1 : (a0_7 != a1_7) = true := bne_iff_ne.mpr c10
  obtain rfl := Option.some.inj H
  rotate_left
  rw [if_neg c9] at H
  have c9b0 : (a0_6 == a1_6) = false := beq_eq_false_iff_ne.mpr c9
  have c9b1 : (a0_6 != a1_6) = true := bne_iff_ne.mpr c9
  obtain rfl := Option.some.inj H
  rotate_left
  replace c8 := Bool.eq_false_iff.mpr c8
  subst c8
  have H1 : (some false) = some r := by rw [if_neg (show ¬ (false = true) by decide)] at H; exact H
  clear H
  have H := H1
  clear H1
  obtain rfl := Option.some.inj H
  rotate_left
  rw [if_neg c6] at H
  have c6b0 : (a0_3.toList == a1_3.toList) = false := beq_eq_false_iff_ne.mpr c6
  have c6b1 : (a0_3.toList != a1_3.toList) = true := bne_iff_ne.mpr c6
  obtain rfl := Option.some.inj H
  rotate_left
  rw [if_neg c5] at H
  have c5b0 : (a0_1.toList == a1_1.toList) = false := beq_eq_false_iff_ne.mpr c5
  have c5b1 : (a0_1.toList != a1_1.toList) = true := bne_iff_ne.mpr c5
  obtain rfl := Option.some.inj H
  rotate_left
  replace c4 := Bool.eq_false_iff.mpr c4
  subst c4
  have H1 : (some false) = some r := by rw [if_neg (show ¬ (false = true) by decide)] at H; exact H
  clear H
  have H := H1
  clear H1
  obtain rfl := Option.some.inj H
  rotate_left
  all_goals
    go_enter Tryz.func25, Tryz.ntmps25
    go_wp2_with (first | ((with_reducible refine gate_dst (N := 2) rfl ?_); refine box_event ?hg (N := 2) ?hd (cs := #[.slice A0_0 l0_0.length c0_0, .string a0_1, .int .i64 a0_2, .string a0_3, .int .i64 a0_4, .slice A0_5 l0_5.length c0_5, .int .i64 a0_6, .int .i64 a0_7, .int .i64 a0_8, .slice A0_9 l0_9.length c0_9, .int .u8 a0_10, .int .i64 a0_11, .int .i64 a0_12]) (t := 43) ?hr ?_; (case hd => rfl); (case hg => rfl); (case hr => first | (go_simp; done) | (go_simp; rfl)); intro gb276 hg w14 hbox hb; have n0_ := Aside0.mk (below_step (by repeat (first | (with_reducible first | exact HB.out | apply below_alloc | apply pw_below_drewN | apply below_drew1) | exact HB.out)) hb); have n1_ := Aside0.mk (hbox); have n2_ := Aside0.mk ((by rw [hg]; exact (below_size (by repeat (first | (with_reducible first | exact HB.out | apply below_alloc | apply pw_below_drewN | apply below_drew1) | exact HB.out))) : w.heap.size ≤ gb276)); have n3_ := Aside0.mk ((by rw [hg]; exact (below_size (by repeat (first | (with_reducible first | exact HB.out | apply below_alloc | apply pw_below_drewN | apply below_drew1) | exact HB.out))) : w.heap.size ≤ gb276)); clear HB; have HB := n0_; have BK276 := n1_; have GW276 := n2_; have GE276 := n3_; clear n0_ n1_ n2_ n3_; clear hb hbox hg) | ((with_reducible refine gate_dst (N := 3) rfl ?_); refine box_event ?hg (N := 3) ?hd (cs := #[.slice A1_0 l1_0.length c1_0, .string a1_1, .int .i64 a1_2, .string a1_3, .int .i64 a1_4, .slice A1_5 l1_5.length c1_5, .int .i64 a1_6, .int .i64 a1_7, .int .i64 a1_8, .slice A1_9 l1_9.length c1_9, .int .u8 a1_10, .int .i64 a1_11, .int .i64 a1_12]) (t := 43) ?hr ?_; (case hd => rfl); (case hg => rfl); (case hr => first | (go_simp; done) | (go_simp; rfl)); intro gb277 hg w15 hbox hb; have n0_ := Aside0.mk (blk_below (g := gb276) (o := .cells #[.slice A0_0 l0_0.length c0_0, .string a0_1, .int .i64 a0_2, .string a0_3, .int .i64 a0_4, .slice A0_5 l0_5.length c0_5, .int .i64 a0_6, .int .i64 a0_7, .int .i64 a0_8, .slice A0_9 l0_9.length c0_9, .int .u8 a0_10, .int .i64 a0_11, .int .i64 a0_12] 43 (0, 0)) (by (with_reducible repeat (first | refine blk_drewN ?_ _ | refine blk_drew ?_ | refine blk_alloc ?_ _)); exact BK276.out) hb); have n1_ := Aside0.mk (below_step (by repeat (first | (with_reducible first | exact HB.out | apply below_alloc | apply pw_below_drewN | apply below_drew1 | refine below_set ?_ GE276.out) | exact HB.out)) hb); have n2_ := Aside0.mk (hbox); have n3_ := Aside0.mk ((by rw [hg]; exact (below_size (by repeat (first | (with_reducible first | exact HB.out | apply below_alloc | apply pw_below_drewN | apply below_drew1 | refine below_set ?_ GE276.out) | exact HB.out))) : w.heap.size ≤ gb277)); have n4_ := Aside0.mk ((by rw [hg]; exact (below_size (by repeat (first | (with_reducible first | exact HB.out | apply below_alloc | apply pw_below_drewN | apply below_drew1 | refine below_set ?_ GE276.out) | exact HB.out))) : w.heap.size ≤ gb277)); have n5_ := Aside0.mk ((by rw [hg]; exact Nat.ne_of_lt (blk_lt (g := gb276) (o := .cells #[.slice A0_0 l0_0.length c0_0, .string a0_1, .int .i64 a0_2, .string a0_3, .int .i64 a0_4, .slice A0_5 l0_5.length c0_5, .int .i64 a0_6, .int .i64 a0_7, .int .i64 a0_8, .slice A0_9 l0_9.length c0_9, .int .u8 a0_10, .int .i64 a0_11, .int .i64 a0_12] 43 (0, 0)) (by (with_reducible repeat (first | refine blk_drewN ?_ _ | refine blk_drew ?_ | refine blk_alloc ?_ _)); exact BK276.out)) : gb276 ≠ gb277)); have n6_ := Aside0.mk ((by rw [hg]; exact Nat.ne_of_gt (blk_lt (g := gb276) (o := .cells #[.slice A0_0 l0_0.length c0_0, .string a0_1, .int .i64 a0_2, .string a0_3, .int .i64 a0_4, .slice A0_5 l0_5.length c0_5, .int .i64 a0_6, .int .i64 a0_7, .int .i64 a0_8, .slice A0_9 l0_9.length c0_9, .int .u8 a0_10, .int .i64 a0_11, .int .i64 a0_12] 43 (0, 0)) (by (with_reducible repeat (first | refine blk_drewN ?_ _ | refine blk_drew ?_ | refine blk_alloc ?_ _)); exact BK276.out)) : gb277 ≠ gb276)); clear BK276; clear HB; have BK276 := n0_; have HB := n1_; have BK277 := n2_; have GW277 := n3_; have GE277 := n4_; have NB276_277 := n5_; have NB277_276 := n6_; clear n0_ n1_ n2_ n3_ n4_ n5_ n6_; clear hb hbox hg; have hnb16 := NB276_277.out; have hnc16 := NB277_276.out; have hcz17_0 : w15.cell? ⟨gb276, 0, none⟩ = some (.slice A0_0 l0_0.length c0_0) := (blk_cell BK276.out 0).trans rfl; have hcz17_1 : w15.cell? ⟨gb276, 1, none⟩ = some (.string a0_1) := (blk_cell BK276.out 1).trans rfl; have hcz17_2 : w15.cell? ⟨gb276, 2, none⟩ = some (.int .i64 a0_2) := (blk_cell BK276.out 2).trans rfl; have hcz17_3 : w15.cell? ⟨gb276, 3, none⟩ = some (.string a0_3) := (blk_cell BK276.out 3).trans rfl; have hcz17_4 : w15.cell? ⟨gb276, 4, none⟩ = some (.int .i64 a0_4) := (blk_cell BK276.out 4).trans rfl; have hcz17_5 : w15.cell? ⟨gb276, 5, none⟩ = some (.slice A0_5 l0_5.length c0_5) := (blk_cell BK276.out 5).trans rfl; have hcz17_6 : w15.cell? ⟨gb276, 6, none⟩ = some (.int .i64 a0_6) := (blk_cell BK276.out 6).trans rfl; have hcz17_7 : w15.cell? ⟨gb276, 7, none⟩ = some (.int .i64 a0_7) := (blk_cell BK276.out 7).trans rfl; have hcz17_8 : w15.cell? ⟨gb276, 8, none⟩ = some (.int .i64 a0_8) := (blk_cell BK276.out 8).trans rfl; have hcz17_9 : w15.cell? ⟨gb276, 9, none⟩ = some (.slice A0_9 l0_9.length c0_9) := (blk_cell BK276.out 9).trans rfl; have hcz17_10 : w15.cell? ⟨gb276, 10, none⟩ = some (.int .u8 a0_10) := (blk_cell BK276.out 10).trans rfl; have hcz17_11 : w15.cell? ⟨gb276, 11, none⟩ = some (.int .i64 a0_11) := (blk_cell BK276.out 11).trans rfl; have hcz17_12 : w15.cell? ⟨gb276, 12, none⟩ = some (.int .i64 a0_12) := (blk_cell BK276.out 12).trans rfl; have hfz17_0 := blk_frozen BK276.out 0; have hfz17_1 := blk_frozen BK276.out 1; have hfz17_2 := blk_frozen BK276.out 2; have hfz17_3 := blk_frozen BK276.out 3; have hfz17_4 := blk_frozen BK276.out 4; have hfz17_5 := blk_frozen BK276.out 5; have hfz17_6 := blk_frozen BK276.out 6; have hfz17_7 := blk_frozen BK276.out 7; have hfz17_8 := blk_frozen BK276.out 8; have hfz17_9 := blk_frozen BK276.out 9; have hfz17_10 := blk_frozen BK276.out 10; have hfz17_11 := blk_frozen BK276.out 11; have hfz17_12 := blk_frozen BK276.out 12; have hcz18_0 : w15.cell? ⟨gb277, 0, none⟩ = some (.slice A1_0 l1_0.length c1_0) := (blk_cell BK277.out 0).trans rfl; have hcz18_1 : w15.cell? ⟨gb277, 1, none⟩ = some (.string a1_1) := (blk_cell BK277.out 1).trans rfl; have hcz18_2 : w15.cell? ⟨gb277, 2, none⟩ = some (.int .i64 a1_2) := (blk_cell BK277.out 2).trans rfl; have hcz18_3 : w15.cell? ⟨gb277, 3, none⟩ = some (.string a1_3) := (blk_cell BK277.out 3).trans rfl; have hcz18_4 : w15.cell? ⟨gb277, 4, none⟩ = some (.int .i64 a1_4) := (blk_cell BK277.out 4).trans rfl; have hcz18_5 : w15.cell? ⟨gb277, 5, none⟩ = some (.slice A1_5 l1_5.length c1_5) := (blk_cell BK277.out 5).trans rfl; have hcz18_6 : w15.cell? ⟨gb277, 6, none⟩ = some (.int .i64 a1_6) := (blk_cell BK277.out 6).trans rfl; have hcz18_7 : w15.cell? ⟨gb277, 7, none⟩ = some (.int .i64 a1_7) := (blk_cell BK277.out 7).trans rfl; have hcz18_8 : w15.cell? ⟨gb277, 8, none⟩ = some (.int .i64 a1_8) := (blk_cell BK277.out 8).trans rfl; have hcz18_9 : w15.cell? ⟨gb277, 9, none⟩ = some (.slice A1_9 l1_9.length c1_9) := (blk_cell BK277.out 9).trans rfl; have hcz18_10 : w15.cell? ⟨gb277, 10, none⟩ = some (.int .u8 a1_10) := (blk_cell BK277.out 10).trans rfl; have hcz18_11 : w15.cell? ⟨gb277, 11, none⟩ = some (.int .i64 a1_11) := (blk_cell BK277.out 11).trans rfl; have hcz18_12 : w15.cell? ⟨gb277, 12, none⟩ = some (.int .i64 a1_12) := (blk_cell BK277.out 12).trans rfl; have hfz18_0 := blk_frozen BK277.out 0; have hfz18_1 := blk_frozen BK277.out 1; have hfz18_2 := blk_frozen BK277.out 2; have hfz18_3 := blk_frozen BK277.out 3; have hfz18_4 := blk_frozen BK277.out 4; have hfz18_5 := blk_frozen BK277.out 5; have hfz18_6 := blk_frozen BK277.out 6; have hfz18_7 := blk_frozen BK277.out 7; have hfz18_8 := blk_frozen BK277.out 8; have hfz18_9 := blk_frozen BK277.out 9; have hfz18_10 := blk_frozen BK277.out 10; have hfz18_11 := blk_frozen BK277.out 11; have hfz18_12 := blk_frozen BK277.out 12) | (go_at_call 58; (with_reducible refine (api_Item.calls _ _ l0_0 _ _ l1_0 56 _ _ ?side1 ?side2 ?side3 ?side4 A3.out).mono ?_); (case side1 => repeat (first | exact (Kd.C_below HR0_0.out HB.out) | (with_reducible refine Kd.C_alloc ?_ _) | (with_reducible refine Kd.C_drewN ?_ _) | (with_reducible refine Kd.C_drew ?_))); (case side2 => exact HC0_0.out); (case side3 => repeat (first | exact (Kd.C_below HR1_0.out HB.out) | (with_reducible refine Kd.C_alloc ?_ _) | (with_reducible refine Kd.C_drewN ?_ _) | (with_reducible refine Kd.C_drew ?_))); (case side4 => exact HC1_0.out); rintro e w19 ⟨rfl, hb⟩; have n0_ := Aside0.mk (blk_below (g := gb276) (o := .cells #[.slice A0_0 l0_0.length c0_0, .string a0_1, .int .i64 a0_2, .string a0_3, .int .i64 a0_4, .slice A0_5 l0_5.length c0_5, .int .i64 a0_6, .int .i64 a0_7, .int .i64 a0_8, .slice A0_9 l0_9.length c0_9, .int .u8 a0_10, .int .i64 a0_11, .int .i64 a0_12] 43 (0, 0)) (by (with_reducible repeat (first | refine blk_drewN ?_ _ | refine blk_drew ?_ | refine blk_alloc ?_ _)); exact BK276.out) hb); have n1_ := Aside0.mk (blk_below (g := gb277) (o := .cells #[.slice A1_0 l1_0.length c1_0, .string a1_1, .int .i64 a1_2, .string a1_3, .int .i64 a1_4, .slice A1_5 l1_5.length c1_5, .int .i64 a1_6, .int .i64 a1_7, .int .i64 a1_8, .slice A1_9 l1_9.length c1_9, .int .u8 a1_10, .int .i64 a1_11, .int .i64 a1_12] 43 (0, 0)) (by (with_reducible repeat (first | refine blk_drewN ?_ _ | refine blk_drew ?_ | refine blk_alloc ?_ _)); exact BK277.out) hb); have n2_ := Aside0.mk (below_step (by repeat (first | (with_reducible first | exact HB.out | apply below_alloc | apply pw_below_drewN | apply below_drew1 | refine below_set ?_ GE276.out | refine below_set ?_ GE277.out) | exact HB.out)) hb); clear BK276; clear BK277; clear HB; have BK276 := n0_; have BK277 := n1_; have HB := n2_; clear n0_ n1_ n2_; (try clear hb); (try clear hb2); (try clear hk); (try clear hi); have hcz20_0 : w19.cell? ⟨gb276, 0, none⟩ = some (.slice A0_0 l0_0.length c0_0) := (blk_cell BK276.out 0).trans rfl; have hcz20_1 : w19.cell? ⟨gb276, 1, none⟩ = some (.string a0_1) := (blk_cell BK276.out 1).trans rfl; have hcz20_2 : w19.cell? ⟨gb276, 2, none⟩ = some (.int .i64 a0_2) := (blk_cell BK276.out 2).trans rfl; have hcz20_3 : w19.cell? ⟨gb276, 3, none⟩ = some (.string a0_3) := (blk_cell BK276.out 3).trans rfl; have hcz20_4 : w19.cell? ⟨gb276, 4, none⟩ = some (.int .i64 a0_4) := (blk_cell BK276.out 4).trans rfl; have hcz20_5 : w19.cell? ⟨gb276, 5, none⟩ = some (.slice A0_5 l0_5.length c0_5) := (blk_cell BK276.out 5).trans rfl; have hcz20_6 : w19.cell? ⟨gb276, 6, none⟩ = some (.int .i64 a0_6) := (blk_cell BK276.out 6).trans rfl; have hcz20_7 : w19.cell? ⟨gb276, 7, none⟩ = some (.int .i64 a0_7) := (blk_cell BK276.out 7).trans rfl; have hcz20_8 : w19.cell? ⟨gb276, 8, none⟩ = some (.int .i64 a0_8) := (blk_cell BK276.out 8).trans rfl; have hcz20_9 : w19.cell? ⟨gb276, 9, none⟩ = some (.slice A0_9 l0_9.length c0_9) := (blk_cell BK276.out 9).trans rfl; have hcz20_10 : w19.cell? ⟨gb276, 10, none⟩ = some (.int .u8 a0_10) := (blk_cell BK276.out 10).trans rfl; have hcz20_11 : w19.cell? ⟨gb276, 11, none⟩ = some (.int .i64 a0_11) := (blk_cell BK276.out 11).trans rfl; have hcz20_12 : w19.cell? ⟨gb276, 12, none⟩ = some (.int .i64 a0_12) := (blk_cell BK276.out 12).trans rfl; have hfz20_0 := blk_frozen BK276.out 0; have hfz20_1 := blk_frozen BK276.out 1; have hfz20_2 := blk_frozen BK276.out 2; have hfz20_3 := blk_frozen BK276.out 3; have hfz20_4 := blk_frozen BK276.out 4; have hfz20_5 := blk_frozen BK276.out 5; have hfz20_6 := blk_frozen BK276.out 6; have hfz20_7 := blk_frozen BK276.out 7; have hfz20_8 := blk_frozen BK276.out 8; have hfz20_9 := blk_frozen BK276.out 9; have hfz20_10 := blk_frozen BK276.out 10; have hfz20_11 := blk_frozen BK276.out 11; have hfz20_12 := blk_frozen BK276.out 12; have hcz21_0 : w19.cell? ⟨gb277, 0, none⟩ = some (.slice A1_0 l1_0.length c1_0) := (blk_cell BK277.out 0).trans rfl; have hcz21_1 : w19.cell? ⟨gb277, 1, none⟩ = some (.string a1_1) := (blk_cell BK277.out 1).trans rfl; have hcz21_2 : w19.cell? ⟨gb277, 2, none⟩ = some (.int .i64 a1_2) := (blk_cell BK277.out 2).trans rfl; have hcz21_3 : w19.cell? ⟨gb277, 3, none⟩ = some (.string a1_3) := (blk_cell BK277.out 3).trans rfl; have hcz21_4 : w19.cell? ⟨gb277, 4, none⟩ = some (.int .i64 a1_4) := (blk_cell BK277.out 4).trans rfl; have hcz21_5 : w19.cell? ⟨gb277, 5, none⟩ = some (.slice A1_5 l1_5.length c1_5) := (blk_cell BK277.out 5).trans rfl; have hcz21_6 : w19.cell? ⟨gb277, 6, none⟩ = some (.int .i64 a1_6) := (blk_cell BK277.out 6).trans rfl; have hcz21_7 : w19.cell? ⟨gb277, 7, none⟩ = some (.int .i64 a1_7) := (blk_cell BK277.out 7).trans rfl; have hcz21_8 : w19.cell? ⟨gb277, 8, none⟩ = some (.int .i64 a1_8) := (blk_cell BK277.out 8).trans rfl; have hcz21_9 : w19.cell? ⟨gb277, 9, none⟩ = some (.slice A1_9 l1_9.length c1_9) := (blk_cell BK277.out 9).trans rfl; have hcz21_10 : w19.cell? ⟨gb277, 10, none⟩ = some (.int .u8 a1_10) := (blk_cell BK277.out 10).trans rfl; have hcz21_11 : w19.cell? ⟨gb277, 11, none⟩ = some (.int .i64 a1_11) := (blk_cell BK277.out 11).trans rfl; have hcz21_12 : w19.cell? ⟨gb277, 12, none⟩ = some (.int .i64 a1_12) := (blk_cell BK277.out 12).trans rfl; have hfz21_0 := blk_frozen BK277.out 0; have hfz21_1 := blk_frozen BK277.out 1; have hfz21_2 := blk_frozen BK277.out 2; have hfz21_3 := blk_frozen BK277.out 3; have hfz21_4 := blk_frozen BK277.out 4; have hfz21_5 := blk_frozen BK277.out 5; have hfz21_6 := blk_frozen BK277.out 6; have hfz21_7 := blk_frozen BK277.out 7; have hfz21_8 := blk_frozen BK277.out 8; have hfz21_9 := blk_frozen BK277.out 9; have hfz21_10 := blk_frozen BK277.out 10; have hfz21_11 := blk_frozen BK277.out 11; have hfz21_12 := blk_frozen BK277.out 12) | (go_at_call 23; (with_reducible refine (ast_Same.calls _ _ l0_5 _ _ l1_5 _ _ ?side1 ?side2 ?side3 ?side4 A7.out).mono ?_); (case side1 => repeat (first | exact (Kd.C_below HR0_5.out HB.out) | (with_reducible refine Kd.C_alloc ?_ _) | (with_reducible refine Kd.C_drewN ?_ _) | (with_reducible refine Kd.C_drew ?_))); (case side2 => exact HC0_5.out); (case side3 => repeat (first | exact (Kd.C_below HR1_5.out HB.out) | (with_reducible refine Kd.C_alloc ?_ _) | (with_reducible refine Kd.C_drewN ?_ _) | (with_reducible refine Kd.C_drew ?_))); (case side4 => exact HC1_5.out); rintro e w22 ⟨rfl, hb⟩; have n0_ := Aside0.mk (blk_below (g := gb276) (o := .cells #[.slice A0_0 l0_0.length c0_0, .string a0_1, .int .i64 a0_2, .string a0_3, .int .i64 a0_4, .slice A0_5 l0_5.length c0_5, .int .i64 a0_6, .int .i64 a0_7, .int .i64 a0_8, .slice A0_9 l0_9.length c0_9, .int .u8 a0_10, .int .i64 a0_11, .int .i64 a0_12] 43 (0, 0)) (by (with_reducible repeat (first | refine blk_drewN ?_ _ | refine blk_drew ?_ | refine blk_alloc ?_ _)); exact BK276.out) hb); have n1_ := Aside0.mk (blk_below (g := gb277) (o := .cells #[.slice A1_0 l1_0.length c1_0, .string a1_1, .int .i64 a1_2, .string a1_3, .int .i64 a1_4, .slice A1_5 l1_5.length c1_5, .int .i64 a1_6, .int .i64 a1_7, .int .i64 a1_8, .slice A1_9 l1_9.length c1_9, .int .u8 a1_10, .int .i64 a1_11, .int .i64 a1_12] 43 (0, 0)) (by (with_reducible repeat (first | refine blk_drewN ?_ _ | refine blk_drew ?_ | refine blk_alloc ?_ _)); exact BK277.out) hb); have n2_ := Aside0.mk (below_step (by repeat (first | (with_reducible first | exact HB.out | apply below_alloc | apply pw_below_drewN | apply below_drew1 | refine below_set ?_ GE276.out | refine below_set ?_ GE277.out) | exact HB.out)) hb); clear BK276; clear BK277; clear HB; have BK276 := n0_; have BK277 := n1_; have HB := n2_; clear n0_ n1_ n2_; (try clear hb); (try clear hb2); (try clear hk); (try clear hi); have hcz23_0 : w22.cell? ⟨gb276, 0, none⟩ = some (.slice A0_0 l0_0.length c0_0) := (blk_cell BK276.out 0).trans rfl; have hcz23_1 : w22.cell? ⟨gb276, 1, none⟩ = some (.string a0_1) := (blk_cell BK276.out 1).trans rfl; have hcz23_2 : w22.cell? ⟨gb276, 2, none⟩ = some (.int .i64 a0_2) := (blk_cell BK276.out 2).trans rfl; have hcz23_3 : w22.cell? ⟨gb276, 3, none⟩ = some (.string a0_3) := (blk_cell BK276.out 3).trans rfl; have hcz23_4 : w22.cell? ⟨gb276, 4, none⟩ = some (.int .i64 a0_4) := (blk_cell BK276.out 4).trans rfl; have hcz23_5 : w22.cell? ⟨gb276, 5, none⟩ = some (.slice A0_5 l0_5.length c0_5) := (blk_cell BK276.out 5).trans rfl; have hcz23_6 : w22.cell? ⟨gb276, 6, none⟩ = some (.int .i64 a0_6) := (blk_cell BK276.out 6).trans rfl; have hcz23_7 : w22.cell? ⟨gb276, 7, none⟩ = some (.int .i64 a0_7) := (blk_cell BK276.out 7).trans rfl; have hcz23_8 : w22.cell? ⟨gb276, 8, none⟩ = some (.int .i64 a0_8) := (blk_cell BK276.out 8).trans rfl; have hcz23_9 : w22.cell? ⟨gb276, 9, none⟩ = some (.slice A0_9 l0_9.length c0_9) := (blk_cell BK276.out 9).trans rfl; have hcz23_10 : w22.cell? ⟨gb276, 10, none⟩ = some (.int .u8 a0_10) := (blk_cell BK276.out 10).trans rfl; have hcz23_11 : w22.cell? ⟨gb276, 11, none⟩ = some (.int .i64 a0_11) := (blk_cell BK276.out 11).trans rfl; have hcz23_12 : w22.cell? ⟨gb276, 12, none⟩ = some (.int .i64 a0_12) := (blk_cell BK276.out 12).trans rfl; have hfz23_0 := blk_frozen BK276.out 0; have hfz23_1 := blk_frozen BK276.out 1; have hfz23_2 := blk_frozen BK276.out 2; have hfz23_3 := blk_frozen BK276.out 3; have hfz23_4 := blk_frozen BK276.out 4; have hfz23_5 := blk_frozen BK276.out 5; have hfz23_6 := blk_frozen BK276.out 6; have hfz23_7 := blk_frozen BK276.out 7; have hfz23_8 := blk_frozen BK276.out 8; have hfz23_9 := blk_frozen BK276.out 9; have hfz23_10 := blk_frozen BK276.out 10; have hfz23_11 := blk_frozen BK276.out 11; have hfz23_12 := blk_frozen BK276.out 12; have hcz24_0 : w22.cell? ⟨gb277, 0, none⟩ = some (.slice A1_0 l1_0.length c1_0) := (blk_cell BK277.out 0).trans rfl; have hcz24_1 : w22.cell? ⟨gb277, 1, none⟩ = some (.string a1_1) := (blk_cell BK277.out 1).trans rfl; have hcz24_2 : w22.cell? ⟨gb277, 2, none⟩ = some (.int .i64 a1_2) := (blk_cell BK277.out 2).trans rfl; have hcz24_3 : w22.cell? ⟨gb277, 3, none⟩ = some (.string a1_3) := (blk_cell BK277.out 3).trans rfl; have hcz24_4 : w22.cell? ⟨gb277, 4, none⟩ = some (.int .i64 a1_4) := (blk_cell BK277.out 4).trans rfl; have hcz24_5 : w22.cell? ⟨gb277, 5, none⟩ = some (.slice A1_5 l1_5.length c1_5) := (blk_cell BK277.out 5).trans rfl; have hcz24_6 : w22.cell? ⟨gb277, 6, none⟩ = some (.int .i64 a1_6) := (blk_cell BK277.out 6).trans rfl; have hcz24_7 : w22.cell? ⟨gb277, 7, none⟩ = some (.int .i64 a1_7) := (blk_cell BK277.out 7).trans rfl; have hcz24_8 : w22.cell? ⟨gb277, 8, none⟩ = some (.int .i64 a1_8) := (blk_cell BK277.out 8).trans rfl; have hcz24_9 : w22.cell? ⟨gb277, 9, none⟩ = some (.slice A1_9 l1_9.length c1_9) := (blk_cell BK277.out 9).trans rfl; have hcz24_10 : w22.cell? ⟨gb277, 10, none⟩ = some (.int .u8 a1_10) := (blk_cell BK277.out 10).trans rfl; have hcz24_11 : w22.cell? ⟨gb277, 11, none⟩ = some (.int .i64 a1_11) := (blk_cell BK277.out 11).trans rfl; have hcz24_12 : w22.cell? ⟨gb277, 12, none⟩ = some (.int .i64 a1_12) := (blk_cell BK277.out 12).trans rfl; have hfz24_0 := blk_frozen BK277.out 0; have hfz24_1 := blk_frozen BK277.out 1; have hfz24_2 := blk_frozen BK277.out 2; have hfz24_3 := blk_frozen BK277.out 3; have hfz24_4 := blk_frozen BK277.out 4; have hfz24_5 := blk_frozen BK277.out 5; have hfz24_6 := blk_frozen BK277.out 6; have hfz24_7 := blk_frozen BK277.out 7; have hfz24_8 := blk_frozen BK277.out 8; have hfz24_9 := blk_frozen BK277.out 9; have hfz24_10 := blk_frozen BK277.out 10; have hfz24_11 := blk_frozen BK277.out 11; have hfz24_12 := blk_frozen BK277.out 12) | (go_at_call 59; (with_reducible refine (api_Label.calls _ _ l0_9 _ _ l1_9 57 _ _ ?side1 ?side2 ?side3 ?side4 A11.out).mono ?_); (case side1 => repeat (first | exact (Kd.C_below HR0_9.out HB.out) | (with_reducible refine Kd.C_alloc ?_ _) | (with_reducible refine Kd.C_drewN ?_ _) | (with_reducible refine Kd.C_drew ?_))); (case side2 => exact HC0_9.out); (case side3 => repeat (first | exact (Kd.C_below HR1_9.out HB.out) | (with_reducible refine Kd.C_alloc ?_ _) | (with_reducible refine Kd.C_drewN ?_ _) | (with_reducible refine Kd.C_drew ?_))); (case side4 => exact HC1_9.out); rintro e w25 ⟨rfl, hb⟩; have n0_ := Aside0.mk (blk_below (g := gb276) (o := .cells #[.slice A0_0 l0_0.length c0_0, .string a0_1, .int .i64 a0_2, .string a0_3, .int .i64 a0_4, .slice A0_5 l0_5.length c0_5, .int .i64 a0_6, .int .i64 a0_7, .int .i64 a0_8, .slice A0_9 l0_9.length c0_9, .int .u8 a0_10, .int .i64 a0_11, .int .i64 a0_12] 43 (0, 0)) (by (with_reducible repeat (first | refine blk_drewN ?_ _ | refine blk_drew ?_ | refine blk_alloc ?_ _)); exact BK276.out) hb); have n1_ := Aside0.mk (blk_below (g := gb277) (o := .cells #[.slice A1_0 l1_0.length c1_0, .string a1_1, .int .i64 a1_2, .string a1_3, .int .i64 a1_4, .slice A1_5 l1_5.length c1_5, .int .i64 a1_6, .int .i64 a1_7, .int .i64 a1_8, .slice A1_9 l1_9.length c1_9, .int .u8 a1_10, .int .i64 a1_11, .int .i64 a1_12] 43 (0, 0)) (by (with_reducible repeat (first | refine blk_drewN ?_ _ | refine blk_drew ?_ | refine blk_alloc ?_ _)); exact BK277.out) hb); have n2_ := Aside0.mk (below_step (by repeat (first | (with_reducible first | exact HB.out | apply below_alloc | apply pw_below_drewN | apply below_drew1 | refine below_set ?_ GE276.out | refine below_set ?_ GE277.out) | exact HB.out)) hb); clear BK276; clear BK277; clear HB; have BK276 := n0_; have BK277 := n1_; have HB := n2_; clear n0_ n1_ n2_; (try clear hb); (try clear hb2); (try clear hk); (try clear hi); have hcz26_0 : w25.cell? ⟨gb276, 0, none⟩ = some (.slice A0_0 l0_0.length c0_0) := (blk_cell BK276.out 0).trans rfl; have hcz26_1 : w25.cell? ⟨gb276, 1, none⟩ = some (.string a0_1) := (blk_cell BK276.out 1).trans rfl; have hcz26_2 : w25.cell? ⟨gb276, 2, none⟩ = some (.int .i64 a0_2) := (blk_cell BK276.out 2).trans rfl; have hcz26_3 : w25.cell? ⟨gb276, 3, none⟩ = some (.string a0_3) := (blk_cell BK276.out 3).trans rfl; have hcz26_4 : w25.cell? ⟨gb276, 4, none⟩ = some (.int .i64 a0_4) := (blk_cell BK276.out 4).trans rfl; have hcz26_5 : w25.cell? ⟨gb276, 5, none⟩ = some (.slice A0_5 l0_5.length c0_5) := (blk_cell BK276.out 5).trans rfl; have hcz26_6 : w25.cell? ⟨gb276, 6, none⟩ = some (.int .i64 a0_6) := (blk_cell BK276.out 6).trans rfl; have hcz26_7 : w25.cell? ⟨gb276, 7, none⟩ = some (.int .i64 a0_7) := (blk_cell BK276.out 7).trans rfl; have hcz26_8 : w25.cell? ⟨gb276, 8, none⟩ = some (.int .i64 a0_8) := (blk_cell BK276.out 8).trans rfl; have hcz26_9 : w25.cell? ⟨gb276, 9, none⟩ = some (.slice A0_9 l0_9.length c0_9) := (blk_cell BK276.out 9).trans rfl; have hcz26_10 : w25.cell? ⟨gb276, 10, none⟩ = some (.int .u8 a0_10) := (blk_cell BK276.out 10).trans rfl; have hcz26_11 : w25.cell? ⟨gb276, 11, none⟩ = some (.int .i64 a0_11) := (blk_cell BK276.out 11).trans rfl; have hcz26_12 : w25.cell? ⟨gb276, 12, none⟩ = some (.int .i64 a0_12) := (blk_cell BK276.out 12).trans rfl; have hfz26_0 := blk_frozen BK276.out 0; have hfz26_1 := blk_frozen BK276.out 1; have hfz26_2 := blk_frozen BK276.out 2; have hfz26_3 := blk_frozen BK276.out 3; have hfz26_4 := blk_frozen BK276.out 4; have hfz26_5 := blk_frozen BK276.out 5; have hfz26_6 := blk_frozen BK276.out 6; have hfz26_7 := blk_frozen BK276.out 7; have hfz26_8 := blk_frozen BK276.out 8; have hfz26_9 := blk_frozen BK276.out 9; have hfz26_10 := blk_frozen BK276.out 10; have hfz26_11 := blk_frozen BK276.out 11; have hfz26_12 := blk_frozen BK276.out 12; have hcz27_0 : w25.cell? ⟨gb277, 0, none⟩ = some (.slice A1_0 l1_0.length c1_0) := (blk_cell BK277.out 0).trans rfl; have hcz27_1 : w25.cell? ⟨gb277, 1, none⟩ = some (.string a1_1) := (blk_cell BK277.out 1).trans rfl; have hcz27_2 : w25.cell? ⟨gb277, 2, none⟩ = some (.int .i64 a1_2) := (blk_cell BK277.out 2).trans rfl; have hcz27_3 : w25.cell? ⟨gb277, 3, none⟩ = some (.string a1_3) := (blk_cell BK277.out 3).trans rfl; have hcz27_4 : w25.cell? ⟨gb277, 4, none⟩ = some (.int .i64 a1_4) := (blk_cell BK277.out 4).trans rfl; have hcz27_5 : w25.cell? ⟨gb277, 5, none⟩ = some (.slice A1_5 l1_5.length c1_5) := (blk_cell BK277.out 5).trans rfl; have hcz27_6 : w25.cell? ⟨gb277, 6, none⟩ = some (.int .i64 a1_6) := (blk_cell BK277.out 6).trans rfl; have hcz27_7 : w25.cell? ⟨gb277, 7, none⟩ = some (.int .i64 a1_7) := (blk_cell BK277.out 7).trans rfl; have hcz27_8 : w25.cell? ⟨gb277, 8, none⟩ = some (.int .i64 a1_8) := (blk_cell BK277.out 8).trans rfl; have hcz27_9 : w25.cell? ⟨gb277, 9, none⟩ = some (.slice A1_9 l1_9.length c1_9) := (blk_cell BK277.out 9).trans rfl; have hcz27_10 : w25.cell? ⟨gb277, 10, none⟩ = some (.int .u8 a1_10) := (blk_cell BK277.out 10).trans rfl; have hcz27_11 : w25.cell? ⟨gb277, 11, none⟩ = some (.int .i64 a1_11) := (blk_cell BK277.out 11).trans rfl; have hcz27_12 : w25.cell? ⟨gb277, 12, none⟩ = some (.int .i64 a1_12) := (blk_cell BK277.out 12).trans rfl; have hfz27_0 := blk_frozen BK277.out 0; have hfz27_1 := blk_frozen BK277.out 1; have hfz27_2 := blk_frozen BK277.out 2; have hfz27_3 := blk_frozen BK277.out 3; have hfz27_4 := blk_frozen BK277.out 4; have hfz27_5 := blk_frozen BK277.out 5; have hfz27_6 := blk_frozen BK277.out 6; have hfz27_7 := blk_frozen BK277.out 7; have hfz27_8 := blk_frozen BK277.out 8; have hfz27_9 := blk_frozen BK277.out 9; have hfz27_10 := blk_frozen BK277.out 10; have hfz27_11 := blk_frozen BK277.out 11; have hfz27_12 := blk_frozen BK277.out 12))
    go_ret
    exact ⟨by first | rfl | (simp [errW_none, errW_some] <;> rfl) | (simp [*, errW_none, errW_some] <;> rfl), by repeat (first | (with_reducible first | exact HB.out | apply below_alloc | apply pw_below_drewN | apply below_drew1 | refine below_set ?_ GE276.out | refine below_set ?_ GE277.out) | exact HB.out)⟩

end Go.Proofs.YtabhhfpfdndidaaGreatDoor.Print
