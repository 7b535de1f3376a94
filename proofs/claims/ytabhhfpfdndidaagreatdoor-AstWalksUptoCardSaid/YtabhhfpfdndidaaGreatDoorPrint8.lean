-- Made by wip/mkprint.sh of this repo over the kit's print.
import Derived.Test.YtabhhfpfdndidaaGreatDoorPrint0
import Derived.Test.YtabhhfpfdndidaaGreatDoorPrint4
import Derived.Test.YtabhhfpfdndidaaGreatDoorPrint5
import Derived.Test.YtabhhfpfdndidaaGreatDoorPrint7
namespace Go.Proofs.YtabhhfpfdndidaaGreatDoor.Print
open Go.RowKit Go.Proofs.YtabhhfpfdndidaaGreatDoorW.PrintWords Go.Proofs.YtabhhfpfdndidaaGreatDoorW.PrintLast Go.Proofs Go.Proofs.YtabhhfpfdndidaaGreatDoor Go.Proofs.YtabhhfpfdndidaaGreatDoor.Base Go.Proofs.YtabhhfpfdndidaaGreatDoorW.PrintMore
attribute [local go_sem] max2_int min2_int max_two min_two max_three min_three max_four min_four   -- for this text's walks alone
set_option linter.unusedVariables false
set_option linter.unusedSimpArgs false

/-! ### ast_PrintSum: function 36 -/
def ast_PrintSum.f (k : Nat) (l0 : List (S35)) : Option (ByteArray × Option Int) := (ast_Sum.f k l0).bind fun t217 => (if t217.isNone = true then ((ast_sumText.f k l0 0).bind fun t219 => (some (t219, none))) else (some ((⟨#[]⟩ : ByteArray), some (t217.getD 0))))
theorem ast_PrintSum.mono : ∀ a0 k, LeO (ast_PrintSum.f k a0) (ast_PrintSum.f (k + 1) a0) := by
  intro a0 k
  unfold ast_PrintSum.f
  repeat' first
      | (with_reducible exact ast_Sum.mono _ _)
      | (with_reducible exact ast_sumText.mono _ _ _)
      | (with_reducible exact LeO.refl _)
      | (with_reducible exact LeO.none _)
      | (with_reducible refine LeO.ite ?_ ?_)
      | (with_reducible refine LeO.bind ?_ (fun _ => ?_))
      | exact ast_Sum.mono _ _
      | exact ast_sumText.mono _ _ _
      | exact LeO.none _
      | refine LeO.ite ?_ ?_
      | refine LeO.bind ?_ (fun _ => ?_)
set_option maxHeartbeats 8000000 in
set_option maxRecDepth 100000 in
theorem ast_PrintSum.calls (k : Nat) (A0 : Option Addr) (c0 : Nat) (l0 : List (S35)) (r1 : ByteArray) (r2 : Option Int) (w : World) (hr0 : Kd.C k35 w A0 l0.length l0) (hc0 : l0.length ≤ c0) (hG : Globs w) (h : ast_PrintSum.f k l0 = some (r1, r2)) :
    Calls Tryz.prog 36 #[.slice A0 l0.length c0] w fun e w' => e = .returned (.tuple #[.string r1, errW r2]) ∧ Below w.heap.size w w' := by
  have hu84 := Tryz.underlying84
  have hu87 := Tryz.underlying87
  have HG := Aside0.mk hG
  clear hG
  have HR0 := Aside0.mk hr0
  have HC0 := Aside0.mk hc0
  clear hr0 hc0
  have HB := Aside0.mk (Below.refl w.heap.size w)
  have H : ((ast_Sum.f k l0).bind fun t217 => (if t217.isNone = true then ((ast_sumText.f k l0 0).bind fun t219 => (some (t219, none))) else (some ((⟨#[]⟩ : ByteArray), some (t217.getD 0))))) = some (r1, r2) := h
  clear h
  replace H := Option.bind_eq_some_iff.mp H
  obtain ⟨t217, A20, H⟩ := H
  replace H : (if t217.isNone = true then ((ast_sumText.f k l0 0).bind fun t219 => (some (t219, none))) else (some ((⟨#[]⟩ : ByteArray), some (t217.getD 0)))) = some (r1, r2) := H
  have A2 := Aside0.mk A20
  clear A20
  rcases t217 with _ | q218
  · have H1 : ((ast_sumText.f k l0 0).bind fun t219 => (some (t219, none))) = some (r1, r2) := by rw [if_pos (show (none : Option Int).isNone = true by rfl)] at H; exact H
    clear H
    have H := H1
    clear H1
    try simp only [errW_none, errW_some]
    replace H := Option.bind_eq_some_iff.mp H
    obtain ⟨t219, A30, H⟩ := H
    replace H : (some (t219, none)) = some (r1, r2) := H
    have A3 := Aside0.mk A30
    clear A30
    simp only [Option.some.injEq, Prod.mk.injEq] at H
    obtain ⟨rfl, rfl⟩ := H
    go_enter Tryz.func36, Tryz.ntmps36
    go_wp2_with (first | ((with_reducible refine gate_callee (f := 41) rfl ?_); refine goesL_ (some 6) rfl rfl Tryz.func41 (by kernel_rfl) rfl #[.slice A0 l0.length c0] rfl (by (try simp only [List.map_toArray, List.map_cons, List.map_nil]); first | done | rfl | (simp only [List.length_drop, List.length_take]; rfl)) ?_; (with_reducible refine (ast_Sum.calls k _ _ l0 none _ ?side1 ?side2 ?side3 A2.out).mono ?_); (case side1 => repeat (first | exact HR0.out | (with_reducible refine Kd.C_alloc ?_ _) | (with_reducible refine Kd.C_drewN ?_ _) | (with_reducible refine Kd.C_drew ?_))); (case side2 => exact HC0.out); (case side3 => exact Globs.below HG.out (by repeat (first | (with_reducible first | exact HB.out | apply below_alloc | apply pw_below_drewN | apply below_drew1) | exact HB.out))); rintro e w4 ⟨rfl, hb⟩; refine ⟨_, rfl, ?_⟩; have n0_ := Aside0.mk (below_step (by repeat (first | (with_reducible first | exact HB.out | apply below_alloc | apply pw_below_drewN | apply below_drew1) | exact HB.out)) hb); clear HB; have HB := n0_; clear n0_; (try clear hb); (try clear hb2); (try clear hk); (try clear hi); (try simp only [errW_none, errW_some])) | ((with_reducible refine gate_callee (f := 96) rfl ?_); refine goesL_ (some 11) rfl rfl Tryz.func96 (by kernel_rfl) rfl #[.slice A0 l0.length c0, .int .i64 0] rfl (by (try simp only [List.map_toArray, List.map_cons, List.map_nil]); first | done | rfl | (simp only [List.length_drop, List.length_take]; rfl)) ?_; (with_reducible refine (ast_sumText.calls k _ _ l0 0 t219 _ ?side1 ?side2 ?side3 A3.out).mono ?_); (case side1 => repeat (first | exact (Kd.C_below HR0.out HB.out) | (with_reducible refine Kd.C_alloc ?_ _) | (with_reducible refine Kd.C_drewN ?_ _) | (with_reducible refine Kd.C_drew ?_))); (case side2 => exact HC0.out); (case side3 => exact Globs.below HG.out (by repeat (first | (with_reducible first | exact HB.out | apply below_alloc | apply pw_below_drewN | apply below_drew1) | exact HB.out))); rintro e w5 ⟨rfl, hb⟩; refine ⟨_, rfl, ?_⟩; have n0_ := Aside0.mk (below_step (by repeat (first | (with_reducible first | exact HB.out | apply below_alloc | apply pw_below_drewN | apply below_drew1) | exact HB.out)) hb); clear HB; have HB := n0_; clear n0_; (try clear hb); (try clear hb2); (try clear hk); (try clear hi)))
    go_ret2
    exact ⟨by first | rfl | (simp [errW_none, errW_some] <;> rfl) | (simp [*, errW_none, errW_some] <;> rfl), by repeat (first | (with_reducible first | exact HB.out | apply below_alloc | apply pw_below_drewN | apply below_drew1) | exact HB.out)⟩
  · have H1 : (some ((⟨#[]⟩ : ByteArray), some q218)) = some (r1, r2) := by rw [if_neg (show ¬ (some q218).isNone = true by simp)] at H; exact H
    clear H
    have H := H1
    clear H1
    try simp only [errW_none, errW_some]
    simp only [Option.some.injEq, Prod.mk.injEq] at H
    obtain ⟨rfl, rfl⟩ := H
    go_enter Tryz.func36, Tryz.ntmps36
    go_wp2_with (first | ((with_reducible refine gate_callee (f := 41) rfl ?_); refine goesL_ (some 6) rfl rfl Tryz.func41 (by kernel_rfl) rfl #[.slice A0 l0.length c0] rfl (by (try simp only [List.map_toArray, List.map_cons, List.map_nil]); first | done | rfl | (simp only [List.length_drop, List.length_take]; rfl)) ?_; (with_reducible refine (ast_Sum.calls k _ _ l0 (some q218) _ ?side1 ?side2 ?side3 A2.out).mono ?_); (case side1 => repeat (first | exact HR0.out | (with_reducible refine Kd.C_alloc ?_ _) | (with_reducible refine Kd.C_drewN ?_ _) | (with_reducible refine Kd.C_drew ?_))); (case side2 => exact HC0.out); (case side3 => exact Globs.below HG.out (by repeat (first | (with_reducible first | exact HB.out | apply below_alloc | apply pw_below_drewN | apply below_drew1) | exact HB.out))); rintro e w6 ⟨rfl, hb⟩; refine ⟨_, rfl, ?_⟩; have n0_ := Aside0.mk (below_step (by repeat (first | (with_reducible first | exact HB.out | apply below_alloc | apply pw_below_drewN | apply below_drew1) | exact HB.out)) hb); clear HB; have HB := n0_; clear n0_; (try clear hb); (try clear hb2); (try clear hk); (try clear hi); (try simp only [errW_none, errW_some])))
    go_ret2
    exact ⟨by first | rfl | (simp [errW_none, errW_some] <;> rfl) | (simp [*, errW_none, errW_some] <;> rfl), by repeat (first | (with_reducible first | exact HB.out | apply below_alloc | apply pw_below_drewN | apply below_drew1) | exact HB.out)⟩

/-! ### weirboth_Is: function 49 (its contract typed by hand) -/
def weirboth_Is.f (a0 : Option Int) (a1 : Int) : Option Bool := some (match a0 with | none => a1 == 0 | some c => !(a1 == 0) && (c == a1))
set_option maxHeartbeats 1000000 in
set_option maxRecDepth 100000 in
theorem weirboth_Is.calls (a0 : Option Int) (a1 : Int) (r : Bool) (w : World) (hG : Globs w) (h : weirboth_Is.f a0 a1 = some r) :
    Calls Tryz.prog 49 #[errW a0, .int .i64 a1] w fun e w' => e = .returned (.bool r) ∧ Below w.heap.size w w' := by
  obtain rfl := Option.some.inj h
  have HG := Aside0.mk hG
  clear hG h
  cases a0 with
  | none =>
    rw [errW_none]
    by_cases hz : a1 = 0
    · subst hz
      go_enter Tryz.func49, Tryz.ntmps49
      go_wp2
      go_ret
      exact ⟨rfl, below_alloc (Below.refl _ _) _⟩
    · have hb : (a1 == 0) = false := beq_eq_false_iff_ne.mpr hz
      have HB := Aside0.mk hb
      clear hz
      go_enter Tryz.func49, Tryz.ntmps49
      go_wp2
      go_ret
      exact ⟨by rw [HB.out]; rfl, below_alloc (Below.refl _ _) _⟩
  | some c =>
    rw [errW_some]
    by_cases hz : a1 = 0
    · subst hz
      go_enter Tryz.func49, Tryz.ntmps49
      go_wp2
      go_ret
      exact ⟨rfl, below_alloc (Below.refl _ _) _⟩
    · have hb : (a1 == 0) = false := beq_eq_false_iff_ne.mpr hz
      have HB := Aside0.mk hb
      clear hz
      have hA := As.as_hit c ⟨w.heap.size, 0, none⟩ (.int .i64 0) (w.alloc (.cells #[.int .i64 0] 87)) ((HG.out.below (below_alloc (Below.refl _ _) _)).err) (by simp) (by simp)
      go_enter Tryz.func49, Tryz.ntmps49
      go_wp2_with fail
      clear HG
      refine hA.mono ?_
      rintro e w2 ⟨rfl, w1, hb1, rfl⟩
      clear hA
      have hc : (w1.setCell ⟨w.heap.size, 0, none⟩ (.int .i64 c)).cell? ⟨w.heap.size, 0, none⟩ = some (.int .i64 c) := by
        have h1 := (hb1.cell (p := ⟨w.heap.size, 0, none⟩) (by simp)).trans (show (w.alloc (.cells #[.int .i64 0] 87)).cell? ⟨w.heap.size, 0, none⟩ = some (.int .i64 0) by simp)
        exact World.cell?_setCell_same _ _ _ h1
      go_wp2
      go_ret
      refine ⟨by simp [HB.out], ?_⟩
      exact Below.setCell (below_then (below_alloc (Below.refl _ _) _) (by simp) hb1) (Nat.le_refl _) _

/-! ### weirlaw13_live: function 19 -/
def weirlaw13_live.f (k : Nat)  : Option (Bool) := (ast_PrintSum.f k (([(⟨4, 0, (⟨#[]⟩ : ByteArray), 0, 2, 0⟩ : S35), (⟨1, 0, (⟨#[]⟩ : ByteArray), 1, 0, 0⟩ : S35), (⟨2, 3, (⟨#[118]⟩ : ByteArray), 0, 0, 0⟩ : S35)] : List (S35)))).bind fun bt223 => (if bt223.2.isNone = true then (if bt223.1.toList = ([49, 32, 43, 32, 109, 101, 97, 110, 40, 118, 41] : List UInt8) then ((ast_Sum.f k ([] : List (S35))).bind fun t226 => ((weirboth_Is.f t226 130).bind fun t227 => (some t227))) else (some false)) else (some false))
theorem weirlaw13_live.mono : ∀ k, LeO (weirlaw13_live.f k ) (weirlaw13_live.f (k + 1) ) := by
  intro  k
  unfold weirlaw13_live.f
  repeat' first
      | (with_reducible exact ast_PrintSum.mono _ _)
      | (with_reducible exact ast_Sum.mono _ _)
      | (with_reducible exact LeO.refl _)
      | (with_reducible exact LeO.none _)
      | (with_reducible refine LeO.ite ?_ ?_)
      | (with_reducible refine LeO.bind ?_ (fun _ => ?_))
      | exact ast_PrintSum.mono _ _
      | exact ast_Sum.mono _ _
      | exact LeO.none _
      | refine LeO.ite ?_ ?_
      | refine LeO.bind ?_ (fun _ => ?_)
set_option maxHeartbeats 8000000 in
set_option maxRecDepth 100000 in
theorem weirlaw13_live.calls (k : Nat)  (r : Bool) (w : World) (hG : Globs w) (h : weirlaw13_live.f k  = some r) :
    Calls Tryz.prog 19 #[] w fun e w' => e = .returned (.bool r) ∧ Below w.heap.size w w' := by
  have hu35 := Tryz.underlying35
  have hu84 := Tryz.underlying84
  have hu87 := Tryz.underlying87
  have HG := Aside0.mk hG
  clear hG
  have HB := Aside0.mk (Below.refl w.heap.size w)
  have H : ((ast_PrintSum.f k (([(⟨4, 0, (⟨#[]⟩ : ByteArray), 0, 2, 0⟩ : S35), (⟨1, 0, (⟨#[]⟩ : ByteArray), 1, 0, 0⟩ : S35), (⟨2, 3, (⟨#[118]⟩ : ByteArray), 0, 0, 0⟩ : S35)] : List (S35)))).bind fun bt223 => (if bt223.2.isNone = true then (if bt223.1.toList = ([49, 32, 43, 32, 109, 101, 97, 110, 40, 118, 41] : List UInt8) then ((ast_Sum.f k ([] : List (S35))).bind fun t226 => ((weirboth_Is.f t226 130).bind fun t227 => (some t227))) else (some false)) else (some false))) = some r := h
  clear h
  obtain ⟨y220, hy220⟩ : ∃ y_ : List (S35), y_ = (([(⟨4, 0, (⟨#[]⟩ : ByteArray), 0, 2, 0⟩ : S35), (⟨1, 0, (⟨#[]⟩ : ByteArray), 1, 0, 0⟩ : S35), (⟨2, 3, (⟨#[118]⟩ : ByteArray), 0, 0, 0⟩ : S35)] : List (S35))) := ⟨_, rfl⟩
  replace H : ((ast_PrintSum.f k y220).bind fun bt223 => (if bt223.2.isNone = true then (if bt223.1.toList = ([49, 32, 43, 32, 109, 101, 97, 110, 40, 118, 41] : List UInt8) then ((ast_Sum.f k ([] : List (S35))).bind fun t226 => ((weirboth_Is.f t226 130).bind fun t227 => (some t227))) else (some false)) else (some false))) = some r := by first | (rw [hy220]; with_reducible exact H) | (have H2_ := (Option.bind_some _ _).symm.trans H; rw [hy220]; with_reducible exact H2_) | (have H2_ := (Option.bind_some _ _).symm.trans H; with_reducible exact H2_) | with_reducible exact H | (rw [hy220]; exact H) | exact H
  have Ny220 := Aside0.mk hy220
  clear hy220
  replace H := Option.bind_eq_some_iff.mp H
  obtain ⟨⟨t223, t224⟩, A10, H⟩ := H
  replace H : (if t224.isNone = true then (if t223.toList = ([49, 32, 43, 32, 109, 101, 97, 110, 40, 118, 41] : List UInt8) then ((ast_Sum.f k ([] : List (S35))).bind fun t226 => ((weirboth_Is.f t226 130).bind fun t227 => (some t227))) else (some false)) else (some false)) = some r := H
  have A1 := Aside0.mk A10
  clear A10
  rcases t224 with _ | q225
  · have H1 : (if t223.toList = ([49, 32, 43, 32, 109, 101, 97, 110, 40, 118, 41] : List UInt8) then ((ast_Sum.f k ([] : List (S35))).bind fun t226 => ((weirboth_Is.f t226 130).bind fun t227 => (some t227))) else (some false)) = some r := by rw [if_pos (show (none : Option Int).isNone = true by rfl)] at H; exact H
    clear H
    have H := H1
    clear H1
    try simp only [errW_none, errW_some]
    by_cases c2 : t223.toList = ([49, 32, 43, 32, 109, 101, 97, 110, 40, 118, 41] : List UInt8)
    · rw [if_pos c2] at H
      have c2b0 : (t223.toList == ([49, 32, 43, 32, 109, 101, 97, 110, 40, 118, 41] : List UInt8)) = true := beq_iff_eq.mpr c2
      have c2b1 : (t223.toList != ([49, 32, 43, 32, 109, 101, 97, 110, 40, 118, 41] : List UInt8)) = false := bne_eq_false_iff_eq.mpr c2
      clear c2
      replace H := Option.bind_eq_some_iff.mp H
      obtain ⟨t226, A30, H⟩ := H
      replace H : ((weirboth_Is.f t226 130).bind fun t227 => (some t227)) = some r := H
      have A3 := Aside0.mk A30
      clear A30
      replace H := Option.bind_eq_some_iff.mp H
      obtain ⟨t227, A40, H⟩ := H
      replace H : (some t227) = some r := H
      have A4 := Aside0.mk A40
      clear A40
      obtain rfl := Option.some.inj H
      go_enter Tryz.func19, Tryz.ntmps19
      go_wp2_with (first | ((with_reducible refine gate_dst (N := 7) rfl ?_); refine Kd.R_lit k35 _ 35 ?hg (N := 7) ?hd (xs := ([(⟨4, 0, (⟨#[]⟩ : ByteArray), 0, 2, 0⟩ : S35), (⟨1, 0, (⟨#[]⟩ : ByteArray), 1, 0, 0⟩ : S35), (⟨2, 3, (⟨#[118]⟩ : ByteArray), 0, 0, 0⟩ : S35)] : List (S35))) (inner := [.int .u8 4, .int .u8 0, .string (⟨#[]⟩ : ByteArray), .int .i64 0, .int .i64 2, .int .i64 0, .int .u8 1, .int .u8 0, .string (⟨#[]⟩ : ByteArray), .int .i64 1, .int .i64 0, .int .i64 0, .int .u8 2, .int .u8 3, .string (⟨#[118]⟩ : ByteArray), .int .i64 0, .int .i64 0, .int .i64 0]) (ok := fun _ => True) (okp := fun _ => True) ?hr ?hp (fun _ hk => hk) trivial (Below.refl _ _) (Nat.le_refl _) (by simp) ?_; (case hd => rfl); (case hg => rfl); (case hr => first | (go_simp; done) | (go_simp; rfl)); (case hp => exact (Reps.c6 (show Kd.M k35 _ _ _ (⟨4, 0, (⟨#[]⟩ : ByteArray), 0, 2, 0⟩ : S35) [.int .u8 4, .int .u8 0, .string (⟨#[]⟩ : ByteArray), .int .i64 0, .int .i64 2, .int .i64 0] from (k35_mkM _ _ _ (⟨4, 0, (⟨#[]⟩ : ByteArray), 0, 2, 0⟩ : S35) )) (Reps.c6 (show Kd.M k35 _ _ _ (⟨1, 0, (⟨#[]⟩ : ByteArray), 1, 0, 0⟩ : S35) [.int .u8 1, .int .u8 0, .string (⟨#[]⟩ : ByteArray), .int .i64 1, .int .i64 0, .int .i64 0] from (k35_mkM _ _ _ (⟨1, 0, (⟨#[]⟩ : ByteArray), 1, 0, 0⟩ : S35) )) (Reps.c6 (show Kd.M k35 _ _ _ (⟨2, 3, (⟨#[118]⟩ : ByteArray), 0, 0, 0⟩ : S35) [.int .u8 2, .int .u8 3, .string (⟨#[118]⟩ : ByteArray), .int .i64 0, .int .i64 0, .int .i64 0] from (k35_mkM _ _ _ (⟨2, 3, (⟨#[118]⟩ : ByteArray), 0, 0, 0⟩ : S35) )) (Reps.none _ _))))); intro v221 w5 ho6 hb hg_ hnew_; clear hg_ hnew_; (first | rw [← Ny220.out] at ho6 | (simp only [Int.reduceToNat] at ho6; rw [← Ny220.out] at ho6)); have n0_ := Aside0.mk (Kd.R_lower ho6 (below_size (by repeat (first | (with_reducible first | exact HB.out | apply below_alloc | apply pw_below_drewN | apply below_drew1) | exact HB.out)))); have n1_ := Aside0.mk (below_step (by repeat (first | (with_reducible first | exact HB.out | apply below_alloc | apply pw_below_drewN | apply below_drew1) | exact HB.out)) hb); clear HB; have HO222 := n0_; have HB := n1_; clear n0_ n1_; clear hb ho6; obtain ⟨Ao7, co7, eo7⟩ := Kd.R_slice HO222.out; subst eo7) | ((with_reducible refine gate_callee (f := 36) rfl ?_); refine goesL_ (some 8) rfl rfl Tryz.func36 (by kernel_rfl) rfl #[.slice Ao7 y220.length co7] rfl (by (try simp only [List.map_toArray, List.map_cons, List.map_nil]); first | done | rfl | (simp only [List.length_drop, List.length_take]; rfl)) ?_; (with_reducible refine (ast_PrintSum.calls k _ _ y220 t223 none _ ?side1 ?side2 ?side3 A1.out).mono ?_); (case side1 => repeat (first | exact (Kd.R_reads' HO222.out).2.2 | (with_reducible refine Kd.C_alloc ?_ _) | (with_reducible refine Kd.C_drewN ?_ _) | (with_reducible refine Kd.C_drew ?_))); (case side2 => exact (Kd.R_reads' HO222.out).2.1); (case side3 => exact Globs.below HG.out (by repeat (first | (with_reducible first | exact HB.out | apply below_alloc | apply pw_below_drewN | apply below_drew1) | exact HB.out))); rintro e w8 ⟨rfl, hb⟩; refine ⟨_, rfl, ?_⟩; have n0_ := Aside0.mk (Kd.R_below (by (with_reducible repeat (first | apply Kd.R_alloc | apply Kd.R_drewN | apply Kd.R_drew)); exact HO222.out) hb); have n1_ := Aside0.mk (below_step (by repeat (first | (with_reducible first | exact HB.out | apply below_alloc | apply pw_below_drewN | apply below_drew1) | exact HB.out)) hb); clear HO222; clear HB; have HO222 := n0_; have HB := n1_; clear n0_ n1_; (try clear hb); (try clear hb2); (try clear hk); (try clear hi); (try simp only [errW_none, errW_some])) | (go_at_call 41; (refine (ast_Sum.calls k _ _ ([] : List (S35)) t226 _ ?side1 ?side2 ?side3 A3.out).mono ?_); (case side1 => exact Kd.C_nil _ _); (case side2 => exact Nat.le_refl _); (case side3 => exact Globs.below HG.out (by repeat (first | (with_reducible first | exact HB.out | apply below_alloc | apply pw_below_drewN | apply below_drew1) | exact HB.out))); rintro e w9 ⟨rfl, hb⟩; have n0_ := Aside0.mk (Kd.R_below (by (with_reducible repeat (first | apply Kd.R_alloc | apply Kd.R_drewN | apply Kd.R_drew)); exact HO222.out) hb); have n1_ := Aside0.mk (below_step (by repeat (first | (with_reducible first | exact HB.out | apply below_alloc | apply pw_below_drewN | apply below_drew1) | exact HB.out)) hb); clear HO222; clear HB; have HO222 := n0_; have HB := n1_; clear n0_ n1_; (try clear hb); (try clear hb2); (try clear hk); (try clear hi); (try simp only [errW_none, errW_some]); have CA4 := fun W (hG_ : Globs W) => weirboth_Is.calls t226 130 t227 W hG_ A4.out; try simp only [errW_none, errW_some] at CA4) | (go_at_call 49; (with_reducible refine (CA4 _ ?sideG).mono ?_); (case sideG => exact Globs.below HG.out (by repeat (first | (with_reducible first | exact HB.out | apply below_alloc | apply pw_below_drewN | apply below_drew1) | exact HB.out))); rintro e w10 ⟨rfl, hb⟩; have n0_ := Aside0.mk (Kd.R_below (by (with_reducible repeat (first | apply Kd.R_alloc | apply Kd.R_drewN | apply Kd.R_drew)); exact HO222.out) hb); have n1_ := Aside0.mk (below_step (by repeat (first | (with_reducible first | exact HB.out | apply below_alloc | apply pw_below_drewN | apply below_drew1) | exact HB.out)) hb); clear HO222; clear HB; have HO222 := n0_; have HB := n1_; clear n0_ n1_; (try clear hb); (try clear hb2); (try clear hk); (try clear hi)))
      go_ret
      exact ⟨by first | rfl | (simp [errW_none, errW_some] <;> rfl) | (simp [*, errW_none, errW_some] <;> rfl), by repeat (first | (with_reducible first | exact HB.out | apply below_alloc | apply pw_below_drewN | apply below_drew1) | exact HB.out)⟩
    · rw [if_neg c2] at H
      have c2b0 : (t223.toList == ([49, 32, 43, 32, 109, 101, 97, 110, 40, 118, 41] : List UInt8)) = false := beq_eq_false_iff_ne.mpr c2
      have c2b1 : (t223.toList != ([49, 32, 43, 32, 109, 101, 97, 110, 40, 118, 41] : List UInt8)) = true := bne_iff_ne.mpr c2
      obtain rfl := Option.some.inj H
      go_enter Tryz.func19, Tryz.ntmps19
      go_wp2_with (first | ((with_reducible refine gate_dst (N := 7) rfl ?_); refine Kd.R_lit k35 _ 35 ?hg (N := 7) ?hd (xs := ([(⟨4, 0, (⟨#[]⟩ : ByteArray), 0, 2, 0⟩ : S35), (⟨1, 0, (⟨#[]⟩ : ByteArray), 1, 0, 0⟩ : S35), (⟨2, 3, (⟨#[118]⟩ : ByteArray), 0, 0, 0⟩ : S35)] : List (S35))) (inner := [.int .u8 4, .int .u8 0, .string (⟨#[]⟩ : ByteArray), .int .i64 0, .int .i64 2, .int .i64 0, .int .u8 1, .int .u8 0, .string (⟨#[]⟩ : ByteArray), .int .i64 1, .int .i64 0, .int .i64 0, .int .u8 2, .int .u8 3, .string (⟨#[118]⟩ : ByteArray), .int .i64 0, .int .i64 0, .int .i64 0]) (ok := fun _ => True) (okp := fun _ => True) ?hr ?hp (fun _ hk => hk) trivial (Below.refl _ _) (Nat.le_refl _) (by simp) ?_; (case hd => rfl); (case hg => rfl); (case hr => first | (go_simp; done) | (go_simp; rfl)); (case hp => exact (Reps.c6 (show Kd.M k35 _ _ _ (⟨4, 0, (⟨#[]⟩ : ByteArray), 0, 2, 0⟩ : S35) [.int .u8 4, .int .u8 0, .string (⟨#[]⟩ : ByteArray), .int .i64 0, .int .i64 2, .int .i64 0] from (k35_mkM _ _ _ (⟨4, 0, (⟨#[]⟩ : ByteArray), 0, 2, 0⟩ : S35) )) (Reps.c6 (show Kd.M k35 _ _ _ (⟨1, 0, (⟨#[]⟩ : ByteArray), 1, 0, 0⟩ : S35) [.int .u8 1, .int .u8 0, .string (⟨#[]⟩ : ByteArray), .int .i64 1, .int .i64 0, .int .i64 0] from (k35_mkM _ _ _ (⟨1, 0, (⟨#[]⟩ : ByteArray), 1, 0, 0⟩ : S35) )) (Reps.c6 (show Kd.M k35 _ _ _ (⟨2, 3, (⟨#[118]⟩ : ByteArray), 0, 0, 0⟩ : S35) [.int .u8 2, .int .u8 3, .string (⟨#[118]⟩ : ByteArray), .int .i64 0, .int .i64 0, .int .i64 0] from (k35_mkM _ _ _ (⟨2, 3, (⟨#[118]⟩ : ByteArray), 0, 0, 0⟩ : S35) )) (Reps.none _ _))))); intro v221 w11 ho12 hb hg_ hnew_; clear hg_ hnew_; (first | rw [← Ny220.out] at ho12 | (simp only [Int.reduceToNat] at ho12; rw [← Ny220.out] at ho12)); have n0_ := Aside0.mk (Kd.R_lower ho12 (below_size (by repeat (first | (with_reducible first | exact HB.out | apply below_alloc | apply pw_below_drewN | apply below_drew1) | exact HB.out)))); have n1_ := Aside0.mk (below_step (by repeat (first | (with_reducible first | exact HB.out | apply below_alloc | apply pw_below_drewN | apply below_drew1) | exact HB.out)) hb); clear HB; have HO222 := n0_; have HB := n1_; clear n0_ n1_; clear hb ho12; obtain ⟨Ao13, co13, eo13⟩ := Kd.R_slice HO222.out; subst eo13) | ((with_reducible refine gate_callee (f := 36) rfl ?_); refine goesL_ (some 8) rfl rfl Tryz.func36 (by kernel_rfl) rfl #[.slice Ao13 y220.length co13] rfl (by (try simp only [List.map_toArray, List.map_cons, List.map_nil]); first | done | rfl | (simp only [List.length_drop, List.length_take]; rfl)) ?_; (with_reducible refine (ast_PrintSum.calls k _ _ y220 t223 none _ ?side1 ?side2 ?side3 A1.out).mono ?_); (case side1 => repeat (first | exact (Kd.R_reads' HO222.out).2.2 | (with_reducible refine Kd.C_alloc ?_ _) | (with_reducible refine Kd.C_drewN ?_ _) | (with_reducible refine Kd.C_drew ?_))); (case side2 => exact (Kd.R_reads' HO222.out).2.1); (case side3 => exact Globs.below HG.out (by repeat (first | (with_reducible first | exact HB.out | apply below_alloc | apply pw_below_drewN | apply below_drew1) | exact HB.out))); rintro e w14 ⟨rfl, hb⟩; refine ⟨_, rfl, ?_⟩; have n0_ := Aside0.mk (Kd.R_below (by (with_reducible repeat (first | apply Kd.R_alloc | apply Kd.R_drewN | apply Kd.R_drew)); exact HO222.out) hb); have n1_ := Aside0.mk (below_step (by repeat (first | (with_reducible first | exact HB.out | apply below_alloc | apply pw_below_drewN | apply below_drew1) | exact HB.out)) hb); clear HO222; clear HB; have HO222 := n0_; have HB := n1_; clear n0_ n1_; (try clear hb); (try clear hb2); (try clear hk); (try clear hi); (try simp only [errW_none, errW_some])))
      go_ret
      exact ⟨by first | rfl | (simp [errW_none, errW_some] <;> rfl) | (simp [*, errW_none, errW_some] <;> rfl), by repeat (first | (with_reducible first | exact HB.out | apply below_alloc | apply pw_below_drewN | apply below_drew1) | exact HB.out)⟩
  · have H1 : (some false) = some r := by rw [if_neg (show ¬ (some q225).isNone = true by simp)] at H; exact H
    clear H
    have H := H1
    clear H1
    try simp only [errW_none, errW_some]
    obtain rfl := Option.some.inj H
    go_enter Tryz.func19, Tryz.ntmps19
    go_wp2_with (first | ((with_reducible refine gate_dst (N := 7) rfl ?_); refine Kd.R_lit k35 _ 35 ?hg (N := 7) ?hd (xs := ([(⟨4, 0, (⟨#[]⟩ : ByteArray), 0, 2, 0⟩ : S35), (⟨1, 0, (⟨#[]⟩ : ByteArray), 1, 0, 0⟩ : S35), (⟨2, 3, (⟨#[118]⟩ : ByteArray), 0, 0, 0⟩ : S35)] : List (S35))) (inner := [.int .u8 4, .int .u8 0, .string (⟨#[]⟩ : ByteArray), .int .i64 0, .int .i64 2, .int .i64 0, .int .u8 1, .int .u8 0, .string (⟨#[]⟩ : ByteArray), .int .i64 1, .int .i64 0, .int .i64 0, .int .u8 2, .int .u8 3, .string (⟨#[118]⟩ : ByteArray), .int .i64 0, .int .i64 0, .int .i64 0]) (ok := fun _ => True) (okp := fun _ => True) ?hr ?hp (fun _ hk => hk) trivial (Below.refl _ _) (Nat.le_refl _) (by simp) ?_; (case hd => rfl); (case hg => rfl); (case hr => first | (go_simp; done) | (go_simp; rfl)); (case hp => exact (Reps.c6 (show Kd.M k35 _ _ _ (⟨4, 0, (⟨#[]⟩ : ByteArray), 0, 2, 0⟩ : S35) [.int .u8 4, .int .u8 0, .string (⟨#[]⟩ : ByteArray), .int .i64 0, .int .i64 2, .int .i64 0] from (k35_mkM _ _ _ (⟨4, 0, (⟨#[]⟩ : ByteArray), 0, 2, 0⟩ : S35) )) (Reps.c6 (show Kd.M k35 _ _ _ (⟨1, 0, (⟨#[]⟩ : ByteArray), 1, 0, 0⟩ : S35) [.int .u8 1, .int .u8 0, .string (⟨#[]⟩ : ByteArray), .int .i64 1, .int .i64 0, .int .i64 0] from (k35_mkM _ _ _ (⟨1, 0, (⟨#[]⟩ : ByteArray), 1, 0, 0⟩ : S35) )) (Reps.c6 (show Kd.M k35 _ _ _ (⟨2, 3, (⟨#[118]⟩ : ByteArray), 0, 0, 0⟩ : S35) [.int .u8 2, .int .u8 3, .string (⟨#[118]⟩ : ByteArray), .int .i64 0, .int .i64 0, .int .i64 0] from (k35_mkM _ _ _ (⟨2, 3, (⟨#[118]⟩ : ByteArray), 0, 0, 0⟩ : S35) )) (Reps.none _ _))))); intro v221 w15 ho16 hb hg_ hnew_; clear hg_ hnew_; (first | rw [← Ny220.out] at ho16 | (simp only [Int.reduceToNat] at ho16; rw [← Ny220.out] at ho16)); have n0_ := Aside0.mk (Kd.R_lower ho16 (below_size (by repeat (first | (with_reducible first | exact HB.out | apply below_alloc | apply pw_below_drewN | apply below_drew1) | exact HB.out)))); have n1_ := Aside0.mk (below_step (by repeat (first | (with_reducible first | exact HB.out | apply below_alloc | apply pw_below_drewN | apply below_drew1) | exact HB.out)) hb); clear HB; have HO222 := n0_; have HB := n1_; clear n0_ n1_; clear hb ho16; obtain ⟨Ao17, co17, eo17⟩ := Kd.R_slice HO222.out; subst eo17) | ((with_reducible refine gate_callee (f := 36) rfl ?_); refine goesL_ (some 8) rfl rfl Tryz.func36 (by kernel_rfl) rfl #[.slice Ao17 y220.length co17] rfl (by (try simp only [List.map_toArray, List.map_cons, List.map_nil]); first | done | rfl | (simp only [List.length_drop, List.length_take]; rfl)) ?_; (with_reducible refine (ast_PrintSum.calls k _ _ y220 t223 (some q225) _ ?side1 ?side2 ?side3 A1.out).mono ?_); (case side1 => repeat (first | exact (Kd.R_reads' HO222.out).2.2 | (with_reducible refine Kd.C_alloc ?_ _) | (with_reducible refine Kd.C_drewN ?_ _) | (with_reducible refine Kd.C_drew ?_))); (case side2 => exact (Kd.R_reads' HO222.out).2.1); (case side3 => exact Globs.below HG.out (by repeat (first | (with_reducible first | exact HB.out | apply below_alloc | apply pw_below_drewN | apply below_drew1) | exact HB.out))); rintro e w18 ⟨rfl, hb⟩; refine ⟨_, rfl, ?_⟩; have n0_ := Aside0.mk (Kd.R_below (by (with_reducible repeat (first | apply Kd.R_alloc | apply Kd.R_drewN | apply Kd.R_drew)); exact HO222.out) hb); have n1_ := Aside0.mk (below_step (by repeat (first | (with_reducible first | exact HB.out | apply below_alloc | apply pw_below_drewN | apply below_drew1) | exact HB.out)) hb); clear HO222; clear HB; have HO222 := n0_; have HB := n1_; clear n0_ n1_; (try clear hb); (try clear hb2); (try clear hk); (try clear hi); (try simp only [errW_none, errW_some])))
    go_ret
    exact ⟨by first | rfl | (simp [errW_none, errW_some] <;> rfl) | (simp [*, errW_none, errW_some] <;> rfl), by repeat (first | (with_reducible first | exact HB.out | apply below_alloc | apply pw_below_drewN | apply below_drew1) | exact HB.out)⟩

/-! ### weirlaw13_AstEnds: function 4 -/
mutual
def weirlaw13_AstEnds.l0 : Nat → List (S35) → Int → Option (Bool)
  | 0, _, _ => none
  | k + 1, x0, x3 => if x3 < (x0.length : Int) then ((ast_End.f k x0 x3).bind fun t233 => ((ast_Kids.f k x0 x3).bind fun t234 => (if t233 = 0 then (weirlaw13_AstEnds.j1 k x0 x3 t233 t234 true) else (weirlaw13_AstEnds.j1 k x0 x3 t233 t234 ((t234.length : Int) == 0))))) else ((weirlaw13_live.f k).bind fun t228 => (if t228 = true then ((ast_End.f k (([(⟨0, 0, (⟨#[]⟩ : ByteArray), 0, 1, 0⟩ : S35), (⟨0, 0, (⟨#[]⟩ : ByteArray), 0, 0, 0⟩ : S35)] : List (S35))) 0).bind fun t232 => (some (t232 == 2))) else (some false)))
def weirlaw13_AstEnds.j1 : Nat → List (S35) → Int → Int → List Int → Bool → Option (Bool)
  | 0, _, _, _, _, _ => none
  | k + 1, x0, x3, x4, x5, x26 => if x26 = true then (if x4 = 0 then (weirlaw13_AstEnds.l0 k x0 (wrap64 (x3 + 1))) else (if 0 ≤ x3 then (if x3 < (x0.length : Int) then (if ((rd_T35 x0 x3).f4) = 0 then (weirlaw13_AstEnds.l0 k x0 (wrap64 (x3 + 1))) else (some false)) else (none)) else (none))) else (weirlaw13_AstEnds.l1 k x0 x3 x4 x5 (wrap64 (x3 + 1)) 0)
def weirlaw13_AstEnds.l1 : Nat → List (S35) → Int → Int → List Int → Int → Int → Option (Bool)
  | 0, _, _, _, _, _, _ => none
  | k + 1, x0, x3, x4, x5, x6, x7 => if x7 < (x5.length : Int) then (if 0 ≤ x7 then (if (rd x5 x7) = x6 then ((ast_End.f k x0 (rd x5 x7)).bind fun t240 => (weirlaw13_AstEnds.l1 k x0 x3 x4 x5 t240 (wrap64 (x7 + 1)))) else (some false)) else (none)) else (if x6 = x4 then (if 0 ≤ x3 then (if x3 < (x0.length : Int) then (if (x5.length : Int) = ((rd_T35 x0 x3).f4) then (weirlaw13_AstEnds.l0 k x0 (wrap64 (x3 + 1))) else (some false)) else (none)) else (none)) else (some false))
end
def weirlaw13_AstEnds.f (k : Nat) (l0 : List (S35)) : Option (Bool) := weirlaw13_AstEnds.l0 k l0 0
theorem weirlaw13_AstEnds.mono_l : ∀ k, (∀ y0 y1, LeO (weirlaw13_AstEnds.l0 k y0 y1) (weirlaw13_AstEnds.l0 (k + 1) y0 y1)) ∧ (∀ y0 y1 y2 y3 y4, LeO (weirlaw13_AstEnds.j1 k y0 y1 y2 y3 y4) (weirlaw13_AstEnds.j1 (k + 1) y0 y1 y2 y3 y4)) ∧ (∀ y0 y1 y2 y3 y4 y5, LeO (weirlaw13_AstEnds.l1 k y0 y1 y2 y3 y4 y5) (weirlaw13_AstEnds.l1 (k + 1) y0 y1 y2 y3 y4 y5))
  | 0 => ⟨fun _ _ r h => by simp [weirlaw13_AstEnds.l0] at h, fun _ _ _ _ _ r h => by simp [weirlaw13_AstEnds.j1] at h, fun _ _ _ _ _ _ r h => by simp [weirlaw13_AstEnds.l1] at h⟩
  | k + 1 => by
    obtain ⟨ih0, ih1, ih2⟩ := weirlaw13_AstEnds.mono_l k
    refine ⟨?_, ?_, ?_⟩
    · intro y0 y1
      unfold weirlaw13_AstEnds.l0
      repeat' first
      | (with_reducible exact ih0 _ _)
      | (with_reducible exact ih1 _ _ _ _ _)
      | (with_reducible exact ih2 _ _ _ _ _ _)
      | (with_reducible exact ast_End.mono _ _ _)
      | (with_reducible exact ast_Kids.mono _ _ _)
      | (with_reducible exact weirlaw13_live.mono _)
      | (with_reducible exact LeO.refl _)
      | (with_reducible exact LeO.none _)
      | (with_reducible refine LeO.ite ?_ ?_)
      | (with_reducible refine LeO.bind ?_ (fun _ => ?_))
      | exact ih0 _ _
      | exact ih1 _ _ _ _ _
      | exact ih2 _ _ _ _ _ _
      | exact ast_End.mono _ _ _
      | exact ast_Kids.mono _ _ _
      | exact weirlaw13_live.mono _
      | exact LeO.none _
      | refine LeO.ite ?_ ?_
      | refine LeO.bind ?_ (fun _ => ?_)
    · intro y0 y1 y2 y3 y4
      unfold weirlaw13_AstEnds.j1
      repeat' first
      | (with_reducible exact ih0 _ _)
      | (with_reducible exact ih1 _ _ _ _ _)
      | (with_reducible exact ih2 _ _ _ _ _ _)
      | (with_reducible exact ast_End.mono _ _ _)
      | (with_reducible exact ast_Kids.mono _ _ _)
      | (with_reducible exact weirlaw13_live.mono _)
      | (with_reducible exact LeO.refl _)
      | (with_reducible exact LeO.none _)
      | (with_reducible refine LeO.ite ?_ ?_)
      | (with_reducible refine LeO.bind ?_ (fun _ => ?_))
      | exact ih0 _ _
      | exact ih1 _ _ _ _ _
      | exact ih2 _ _ _ _ _ _
      | exact ast_End.mono _ _ _
      | exact ast_Kids.mono _ _ _
      | exact weirlaw13_live.mono _
      | exact LeO.none _
      | refine LeO.ite ?_ ?_
      | refine LeO.bind ?_ (fun _ => ?_)
    · intro y0 y1 y2 y3 y4 y5
      unfold weirlaw13_AstEnds.l1
      repeat' first
      | (with_reducible exact ih0 _ _)
      | (with_reducible exact ih1 _ _ _ _ _)
      | (with_reducible exact ih2 _ _ _ _ _ _)
      | (with_reducible exact ast_End.mono _ _ _)
      | (with_reducible exact ast_Kids.mono _ _ _)
      | (with_reducible exact weirlaw13_live.mono _)
      | (with_reducible exact LeO.refl _)
      | (with_reducible exact LeO.none _)
      | (with_reducible refine LeO.ite ?_ ?_)
      | (with_reducible refine LeO.bind ?_ (fun _ => ?_))
      | exact ih0 _ _
      | exact ih1 _ _ _ _ _
      | exact ih2 _ _ _ _ _ _
      | exact ast_End.mono _ _ _
      | exact ast_Kids.mono _ _ _
      | exact weirlaw13_live.mono _
      | exact LeO.none _
      | refine LeO.ite ?_ ?_
      | refine LeO.bind ?_ (fun _ => ?_)
theorem weirlaw13_AstEnds.mono : ∀ a0 k, LeO (weirlaw13_AstEnds.f k a0) (weirlaw13_AstEnds.f (k + 1) a0) := by
  intro a0 k
  obtain ⟨ih0, ih1, ih2⟩ := weirlaw13_AstEnds.mono_l k
  unfold weirlaw13_AstEnds.f
  repeat' first
      | (with_reducible exact ih0 _ _)
      | (with_reducible exact ih1 _ _ _ _ _)
      | (with_reducible exact ih2 _ _ _ _ _ _)
      | (with_reducible exact ast_End.mono _ _ _)
      | (with_reducible exact ast_Kids.mono _ _ _)
      | (with_reducible exact weirlaw13_live.mono _)
      | (with_reducible exact LeO.refl _)
      | (with_reducible exact LeO.none _)
      | (with_reducible refine LeO.ite ?_ ?_)
      | (with_reducible refine LeO.bind ?_ (fun _ => ?_))
      | exact ih0 _ _
      | exact ih1 _ _ _ _ _
      | exact ih2 _ _ _ _ _ _
      | exact ast_End.mono _ _ _
      | exact ast_Kids.mono _ _ _
      | exact weirlaw13_live.mono _
      | exact LeO.none _
      | refine LeO.ite ?_ ?_
      | refine LeO.bind ?_ (fun _ => ?_)
set_option maxHeartbeats 8000000 in
set_option maxRecDepth 100000 in
theorem weirlaw13_AstEnds.calls (k : Nat) (A0 : Option Addr) (c0 : Nat) (l0 : List (S35)) (r : Bool) (w : World) (hr0 : Kd.C k35 w A0 l0.length l0) (hc0 : l0.length ≤ c0) (hG : Globs w) (h : weirlaw13_AstEnds.f k l0 = some r) :
    Calls Tryz.prog 4 #[.slice A0 l0.length c0] w fun e w' => e = .returned (.bool r) ∧ Below w.heap.size w w' := by
  have hu35 := Tryz.underlying35
  have HG := Aside0.mk hG
  clear hG
  have HR0 := Aside0.mk hr0
  have HC0 := Aside0.mk hc0
  clear hr0 hc0
  have HB := Aside0.mk (Below.refl w.heap.size w)
  have H : (weirlaw13_AstEnds.l0 k l0 0) = some r := h
  clear h
  have H' := Aside0.mk H
  clear H
  go_enter Tryz.func4, Tryz.ntmps4
  go_wp2
  go_loopg [3] k (fun kq v3 w' => ∃ (x3_1 : Int), v3 = .int .i64 x3_1 ∧ Aside0 (weirlaw13_AstEnds.l0 kq l0 x3_1 = some r) ∧ Aside0 (kq ≤ k) ∧ Aside0 (Below w.heap.size w w'))
  case atStart => exact ⟨(0), (by first | rfl | (simp; done) | (simp [*]; done)), H', ⟨Nat.le_refl _⟩, ⟨by repeat (first | (with_reducible first | exact HB.out | apply below_alloc | apply pw_below_drewN | apply below_drew1) | exact HB.out)⟩⟩
  case round =>
    clear H'
    obtain ⟨x3_1, rfl, HA, HK1, HB⟩ := hrel
    cases gk with
    | zero => exact absurd HA.out (by simp [weirlaw13_AstEnds.l0])
    | succ k1 =>
      have H := HA.out
      clear HA
      simp only [weirlaw13_AstEnds.l0] at H
      by_cases c2 : x3_1 < (l0.length : Int)
      · rw [if_pos c2] at H
        have c2b0 : decide (x3_1 < (l0.length : Int)) = true := decide_eq_true c2
        clear c2
        replace H := Option.bind_eq_some_iff.mp H
        obtain ⟨t233, A30, H⟩ := H
        replace H : ((ast_Kids.f k1 l0 x3_1).bind fun t234 => (if t233 = 0 then (weirlaw13_AstEnds.j1 k1 l0 x3_1 t233 t234 true) else (weirlaw13_AstEnds.j1 k1 l0 x3_1 t233 t234 ((t234.length : Int) == 0)))) = some r := H
        have A3 := Aside0.mk A30
        clear A30
        replace H := Option.bind_eq_some_iff.mp H
        obtain ⟨t234, A40, H⟩ := H
        replace H : (if t233 = 0 then (weirlaw13_AstEnds.j1 k1 l0 x3_1 t233 t234 true) else (weirlaw13_AstEnds.j1 k1 l0 x3_1 t233 t234 ((t234.length : Int) == 0))) = some r := H
        have A4 := Aside0.mk A40
        clear A40
        have HC5 := Aside0.mk H
        clear H
        go_upto_region 6 with (first | ((with_reducible refine gate_callee (f := 17) rfl ?_); refine goesL_ (some 16) rfl rfl Tryz.func17 (by kernel_rfl) rfl #[.slice A0 l0.length c0, .int .i64 x3_1] rfl (by (try simp only [List.map_toArray, List.map_cons, List.map_nil]); first | done | rfl | (simp only [List.length_drop, List.length_take]; rfl)) ?_; (with_reducible refine (ast_End.calls k1 _ _ l0 x3_1 t233 _ ?side1 ?side2 A3.out).mono ?_); (case side1 => repeat (first | exact (Kd.C_below HR0.out HB.out) | (with_reducible refine Kd.C_alloc ?_ _) | (with_reducible refine Kd.C_drewN ?_ _) | (with_reducible refine Kd.C_drew ?_))); (case side2 => exact HC0.out); rintro e w' ⟨rfl, ⟨nd, rfl⟩⟩; refine ⟨_, rfl, ?_⟩) | ((with_reducible refine gate_callee (f := 15) rfl ?_); refine goesL_ (some 19) rfl rfl Tryz.func15 (by kernel_rfl) rfl #[.slice A0 l0.length c0, .int .i64 x3_1] rfl (by (try simp only [List.map_toArray, List.map_cons, List.map_nil]); first | done | rfl | (simp only [List.length_drop, List.length_take]; rfl)) ?_; (with_reducible refine (ast_Kids.calls k1 _ _ l0 x3_1 t234 _ ?side1 ?side2 A4.out).mono ?_); (case side1 => repeat (first | exact (Kd.C_below HR0.out (by repeat (first | (with_reducible first | exact HB.out | apply below_alloc | apply pw_below_drewN | apply below_drew1) | exact HB.out))) | (with_reducible refine Kd.C_alloc ?_ _) | (with_reducible refine Kd.C_drewN ?_ _) | (with_reducible refine Kd.C_drew ?_))); (case side2 => exact HC0.out); rintro e w6 ⟨v235, rfl, ho0, hb⟩; refine ⟨_, rfl, ?_⟩; have n0_ := Aside0.mk (Kd.R_lower ho0 (below_size (by repeat (first | (with_reducible first | exact HB.out | apply below_alloc | apply pw_below_drewN | apply below_drew1) | exact HB.out)))); have n1_ := Aside0.mk (below_step (by repeat (first | (with_reducible first | exact HB.out | apply below_alloc | apply pw_below_drewN | apply below_drew1) | exact HB.out)) hb); clear HB; have HO236 := n0_; have HB := n1_; clear n0_ n1_; (try clear hb); (try clear hb2); (try clear hk); (try clear hi); (try clear ho0)))
        (try simp only [Act.put, List.setIfInBounds_toArray, List.set_cons_zero, List.set_cons_succ])
        go_cut [26] (fun v26 wc => ∃ (kq : Nat) (x26_4 : Bool), v26 = .bool x26_4 ∧ Aside0 (weirlaw13_AstEnds.j1 kq l0 x3_1 t233 t234 x26_4 = some r) ∧ Aside0 (kq ≤ k1) ∧ Aside0 (Kd.R (Kd.int .i64) 3 wc w.heap.size (fun _ => True) v235 t234) ∧ Aside0 (Below w.heap.size w wc))
        case first =>
          have H := HC5.out
          clear HC5
          by_cases c7 : t233 = 0
          · rw [if_pos c7] at H
            have c7b0 : (t233 == 0) = true := beq_iff_eq.mpr c7
            have c7b1 : (t233 != 0) = false := bne_eq_false_iff_eq.mpr c7
            clear c7
            (first | rw [c7b0] | (simp only [i64_w, i32_w]; rw [c7b0]) | skip)
            have H' := Aside0.mk H
            clear H
            go_wp2
            go_meet
            case rel => exact ⟨_, (true), (by first | rfl | (simp; done) | (simp [*]; done)), H', ⟨by have := HK1.out; first | omega | exact Nat.le_refl _⟩, ⟨by (with_reducible repeat (first | apply Kd.R_alloc | apply Kd.R_drewN | apply Kd.R_drew)); exact HO236.out⟩, ⟨by repeat (first | (with_reducible first | exact HB.out | apply below_alloc | apply pw_below_drewN | apply below_drew1) | exact HB.out)⟩⟩
          · rw [if_neg c7] at H
            have c7b0 : (t233 == 0) = false := beq_eq_false_iff_ne.mpr c7
            have c7b1 : (t233 != 0) = true := bne_iff_ne.mpr c7
            (first | rw [c7b0] | (simp only [i64_w, i32_w]; rw [c7b0]) | skip)
            have H' := Aside0.mk H
            clear H
            obtain ⟨Ao8, co8, eo8⟩ := Kd.R_slice HO236.out
            subst eo8
            go_wp2
            go_meet
            case rel => exact ⟨_, (((t234.length : Int) == 0)), (by first | rfl | (simp; done) | (simp [*]; done)), H', ⟨by have := HK1.out; first | omega | exact Nat.le_refl _⟩, ⟨by (with_reducible repeat (first | apply Kd.R_alloc | apply Kd.R_drewN | apply Kd.R_drew)); exact HO236.out⟩, ⟨by repeat (first | (with_reducible first | exact HB.out | apply below_alloc | apply pw_below_drewN | apply below_drew1) | exact HB.out)⟩⟩
        case rest =>
          clear HC5
          try clear c1
          try clear c2
          try clear c2b0
          try clear p2
          try clear c4
          try clear c7
          try clear c7b0
          try clear c7b1
          obtain ⟨kq, x26_4, rfl, HA, HJ4, HO_5, HB⟩ := hcut
          cases kq with
          | zero => exact absurd HA.out (by simp [weirlaw13_AstEnds.j1])
          | succ kj4 =>
            have H := HA.out
            clear HA
            simp only [weirlaw13_AstEnds.j1] at H
            by_cases c9 : x26_4 = true
            · subst c9
              have H1 : (if t233 = 0 then (weirlaw13_AstEnds.l0 kj4 l0 (wrap64 (x3_1 + 1))) else (if 0 ≤ x3_1 then (if x3_1 < (l0.length : Int) then (if ((rd_T35 l0 x3_1).f4) = 0 then (weirlaw13_AstEnds.l0 kj4 l0 (wrap64 (x3_1 + 1))) else (some false)) else (none)) else (none))) = some r := by rw [if_pos rfl] at H; exact H
              clear H
              have H := H1
              clear H1
              by_cases c10 : t233 = 0
              · rw [if_pos c10] at H
                have c10b0 : (t233 == 0) = true := beq_iff_eq.mpr c10
                have c10b1 : (t233 != 0) = false := bne_eq_false_iff_eq.mpr c10
                clear c10
                have H' := Aside0.mk H
                clear H
                go_wp2
                go_roundg kj4
                case measure => have := HK1.out; have := HJ4.out; omega
                case rel => exact ⟨(wrap64 (x3_1 + 1)), (by first | rfl | (simp; done) | (simp [*]; done)), H', ⟨by have := HK1.out; have := HJ4.out; omega⟩, ⟨by repeat (first | (with_reducible first | exact HB.out | apply below_alloc | apply pw_below_drewN | apply below_drew1) | exact HB.out)⟩⟩
              · rw [if_neg c10] at H
                have c10b0 : (t233 == 0) = false := beq_eq_false_iff_ne.mpr c10
                have c10b1 : (t233 != 0) = true := bne_iff_ne.mpr c10
                by_cases c11 : 0 ≤ x3_1
                · rw [if_pos c11] at H
                  have c11b0 : decide (0 ≤ x3_1) = true := decide_eq_true c11
                  clear c11
                  by_cases c12 : x3_1 < (l0.length : Int)
                  · rw [if_pos c12] at H
                    have c12b0 : decide (x3_1 < (l0.length : Int)) = true := decide_eq_true c12
                    clear c12
                    by_cases c13 : ((rd_T35 l0 x3_1).f4) = 0
                    · rw [if_pos c13] at H
                      have c13b0 : (((rd_T35 l0 x3_1).f4) == 0) = true := beq_iff_eq.mpr c13
                      have c13b1 : (((rd_T35 l0 x3_1).f4) != 0) = false := bne_eq_false_iff_eq.mpr c13
                      clear c13
                      have H' := Aside0.mk H
                      clear H
                      have p237 : 0 ≤ (x3_1 : Int) := of_decide_eq_true (by first | (with_reducible assumption) | assumption)
                      have q237 : x3_1 < (l0.length : Int) := of_decide_eq_true (by first | (with_reducible assumption) | assumption)
                      obtain ⟨ad237, e237, hx237_0, hx237_1, hx237_2, hx237_3, hx237_4, hx237_5⟩ := at_T35 HR0.out x3_1 p237 q237
                      cases e237
                      replace hx237_0 := (HB.out.cell (World.block_lt_of_cell? w _ hx237_0)).trans hx237_0
                      replace hx237_1 := (HB.out.cell (World.block_lt_of_cell? w _ hx237_1)).trans hx237_1
                      replace hx237_2 := (HB.out.cell (World.block_lt_of_cell? w _ hx237_2)).trans hx237_2
                      replace hx237_3 := (HB.out.cell (World.block_lt_of_cell? w _ hx237_3)).trans hx237_3
                      replace hx237_4 := (HB.out.cell (World.block_lt_of_cell? w _ hx237_4)).trans hx237_4
                      replace hx237_5 := (HB.out.cell (World.block_lt_of_cell? w _ hx237_5)).trans hx237_5
                      replace p237 := eq_true p237
                      replace q237 := eq_true q237
                      go_wp2
                      go_roundg kj4
                      case measure => have := HK1.out; have := HJ4.out; omega
                      case rel => exact ⟨(wrap64 (x3_1 + 1)), (by first | rfl | (simp; done) | (simp [*]; done)), H', ⟨by have := HK1.out; have := HJ4.out; omega⟩, ⟨by repeat (first | (with_reducible first | exact HB.out | apply below_alloc | apply pw_below_drewN | apply below_drew1) | exact HB.out)⟩⟩
                    · rw [if_neg c13] at H
                      have c13b0 : (((rd_T35 l0 x3_1).f4) == 0) = false := beq_eq_false_iff_ne.mpr c13
                      have c13b1 : (((rd_T35 l0 x3_1).f4) != 0) = true := bne_iff_ne.mpr c13
                      obtain rfl := Option.some.inj H
                      have p237 : 0 ≤ (x3_1 : Int) := of_decide_eq_true (by first | (with_reducible assumption) | assumption)
                      have q237 : x3_1 < (l0.length : Int) := of_decide_eq_true (by first | (with_reducible assumption) | assumption)
                      obtain ⟨ad237, e237, hx237_0, hx237_1, hx237_2, hx237_3, hx237_4, hx237_5⟩ := at_T35 HR0.out x3_1 p237 q237
                      cases e237
                      replace hx237_0 := (HB.out.cell (World.block_lt_of_cell? w _ hx237_0)).trans hx237_0
                      replace hx237_1 := (HB.out.cell (World.block_lt_of_cell? w _ hx237_1)).trans hx237_1
                      replace hx237_2 := (HB.out.cell (World.block_lt_of_cell? w _ hx237_2)).trans hx237_2
                      replace hx237_3 := (HB.out.cell (World.block_lt_of_cell? w _ hx237_3)).trans hx237_3
                      replace hx237_4 := (HB.out.cell (World.block_lt_of_cell? w _ hx237_4)).trans hx237_4
                      replace hx237_5 := (HB.out.cell (World.block_lt_of_cell? w _ hx237_5)).trans hx237_5
                      replace p237 := eq_true p237
                      replace q237 := eq_true q237
                      go_wp2
                      go_ret
                      exact ⟨by first | rfl | (simp [errW_none, errW_some] <;> rfl) | (simp [*, errW_none, errW_some] <;> rfl), by repeat (first | (with_reducible first | exact HB.out | apply below_alloc | apply pw_below_drewN | apply below_drew1) | exact HB.out)⟩
                  · rw [if_neg c12] at H
                    exact absurd H (by simp)
                · rw [if_neg c11] at H
                  exact absurd H (by simp)
            · replace c9 := Bool.eq_false_iff.mpr c9
              subst c9
              have H1 : (weirlaw13_AstEnds.l1 kj4 l0 x3_1 t233 t234 (wrap64 (x3_1 + 1)) 0) = some r := by rw [if_neg (show ¬ (false = true) by decide)] at H; exact H
              clear H
              have H := H1
              clear H1
              have H' := Aside0.mk H
              clear H
              go_wp2
              go_loopg [6, 7] kj4 (fun kq v6 v7 w' => ∃ (x6_3 : Int) (x7_3 : Int), v6 = .int .i64 x6_3 ∧ v7 = .int .i64 x7_3 ∧ Aside0 (weirlaw13_AstEnds.l1 kq l0 x3_1 t233 t234 x6_3 x7_3 = some r) ∧ Aside0 (kq ≤ kj4) ∧ Aside0 (Kd.R (Kd.int .i64) 3 w' w.heap.size (fun _ => True) v235 t234) ∧ Aside0 (Below w.heap.size w w'))
              case atStart => exact ⟨(wrap64 (x3_1 + 1)), (0), (by first | rfl | (simp; done) | (simp [*]; done)), (by first | rfl | (simp; done) | (simp [*]; done)), H', ⟨Nat.le_refl _⟩, ⟨by (with_reducible repeat (first | apply Kd.R_alloc | apply Kd.R_drewN | apply Kd.R_drew)); exact HO_5.out⟩, ⟨by repeat (first | (with_reducible first | exact HB.out | apply below_alloc | apply pw_below_drewN | apply below_drew1) | exact HB.out)⟩⟩
              case round =>
                clear H'
                try clear c1
                try clear c2
                try clear c2b0
                try clear p2
                try clear q2
                try clear hx2
                try clear c4
                try clear p6
                try clear c7
                try clear c7b0
                try clear c7b1
                try clear c9
                try clear c10
                try clear c10b0
                try clear c10b1
                try clear c11
                try clear c11b0
                try clear c12
                try clear c12b0
                try clear c13
                try clear c13b0
                try clear c13b1
                try clear hx237_0
                try clear hx237_1
                try clear hx237_2
                try clear hx237_3
                try clear hx237_4
                try clear hx237_5
                try clear p2
                try clear p237
                try clear q237
                obtain ⟨x6_3, x7_3, rfl, rfl, HA, HK3, HO_5, HB⟩ := hrel
                cases gk with
                | zero => exact absurd HA.out (by simp [weirlaw13_AstEnds.l1])
                | succ k3 =>
                  have H := HA.out
                  clear HA
                  simp only [weirlaw13_AstEnds.l1] at H
                  by_cases c14 : x7_3 < (t234.length : Int)
                  · rw [if_pos c14] at H
                    have c14b0 : decide (x7_3 < (t234.length : Int)) = true := decide_eq_true c14
                    clear c14
                    by_cases c15 : 0 ≤ x7_3
                    · rw [if_pos c15] at H
                      have c15b0 : decide (0 ≤ x7_3) = true := decide_eq_true c15
                      clear c15
                      by_cases c16 : (rd t234 x7_3) = x6_3
                      · rw [if_pos c16] at H
                        have c16b0 : ((rd t234 x7_3) == x6_3) = true := beq_iff_eq.mpr c16
                        have c16b1 : ((rd t234 x7_3) != x6_3) = false := bne_eq_false_iff_eq.mpr c16
                        clear c16
                        replace H := Option.bind_eq_some_iff.mp H
                        obtain ⟨t240, A170, H⟩ := H
                        replace H : (weirlaw13_AstEnds.l1 k3 l0 x3_1 t233 t234 t240 (wrap64 (x7_3 + 1))) = some r := H
                        have A17 := Aside0.mk A170
                        clear A170
                        have H' := Aside0.mk H
                        clear H
                        obtain ⟨Ao18, co18, eo18⟩ := Kd.R_slice HO_5.out
                        subst eo18
                        have p238 : 0 ≤ (x7_3 : Int) := of_decide_eq_true (by first | (with_reducible assumption) | assumption)
                        have q238 : x7_3 < (t234.length : Int) := of_decide_eq_true (by first | (with_reducible assumption) | assumption)
                        obtain ⟨ad238, e238, hx238_0⟩ := Kd.at_int (Kd.R_reads' HO_5.out).2.2 x7_3 p238 q238
                        cases e238
                        replace p238 := eq_true p238
                        replace q238 := eq_true q238
                        have p239 : 0 ≤ (x7_3 : Int) := of_decide_eq_true (by first | (with_reducible assumption) | assumption)
                        have q239 : x7_3 < (t234.length : Int) := of_decide_eq_true (by first | (with_reducible assumption) | assumption)
                        obtain ⟨ad239, e239, hx239_0⟩ := Kd.at_int (Kd.R_reads' HO_5.out).2.2 x7_3 p239 q239
                        obtain rfl : ad238 = ad239 := (by injection e239)
                        replace p239 := eq_true p239
                        replace q239 := eq_true q239
                        go_wp2_with (first | ((with_reducible refine gate_callee (f := 17) rfl ?_); refine goesL_ (some 56) rfl rfl Tryz.func17 (by kernel_rfl) rfl #[.slice A0 l0.length c0, .int .i64 (rd t234 x7_3)] rfl (by (try simp only [List.map_toArray, List.map_cons, List.map_nil]); first | done | rfl | (simp only [List.length_drop, List.length_take]; rfl)) ?_; (with_reducible refine (ast_End.calls k3 _ _ l0 (rd t234 x7_3) t240 _ ?side1 ?side2 A17.out).mono ?_); (case side1 => repeat (first | exact (Kd.C_below HR0.out HB.out) | (with_reducible refine Kd.C_alloc ?_ _) | (with_reducible refine Kd.C_drewN ?_ _) | (with_reducible refine Kd.C_drew ?_))); (case side2 => exact HC0.out); rintro e w' ⟨rfl, ⟨nd, rfl⟩⟩; refine ⟨_, rfl, ?_⟩))
                        go_roundg k3
                        case measure => have := HK1.out; have := HJ4.out; have := HK3.out; omega
                        case rel => exact ⟨(t240), (wrap64 (x7_3 + 1)), (by first | rfl | (simp; done) | (simp [*]; done)), (by first | rfl | (simp; done) | (simp [*]; done)), H', ⟨by have := HK1.out; have := HJ4.out; have := HK3.out; omega⟩, ⟨by (with_reducible repeat (first | apply Kd.R_alloc | apply Kd.R_drewN | apply Kd.R_drew)); exact HO_5.out⟩, ⟨by repeat (first | (with_reducible first | exact HB.out | apply below_alloc | apply pw_below_drewN | apply below_drew1) | exact HB.out)⟩⟩
                      · rw [if_neg c16] at H
                        have c16b0 : ((rd t234 x7_3) == x6_3) = false := beq_eq_false_iff_ne.mpr c16
                        have c16b1 : ((rd t234 x7_3) != x6_3) = true := bne_iff_ne.mpr c16
                        obtain rfl := Option.some.inj H
                        obtain ⟨Ao19, co19, eo19⟩ := Kd.R_slice HO_5.out
                        subst eo19
                        have p238 : 0 ≤ (x7_3 : Int) := of_decide_eq_true (by first | (with_reducible assumption) | assumption)
                        have q238 : x7_3 < (t234.length : Int) := of_decide_eq_true (by first | (with_reducible assumption) | assumption)
                        obtain ⟨ad238, e238, hx238_0⟩ := Kd.at_int (Kd.R_reads' HO_5.out).2.2 x7_3 p238 q238
                        cases e238
                        replace p238 := eq_true p238
                        replace q238 := eq_true q238
                        go_wp2
                        go_ret
                        exact ⟨by first | rfl | (simp [errW_none, errW_some] <;> rfl) | (simp [*, errW_none, errW_some] <;> rfl), by repeat (first | (with_reducible first | exact HB.out | apply below_alloc | apply pw_below_drewN | apply below_drew1) | exact HB.out)⟩
                    · rw [if_neg c15] at H
                      exact absurd H (by simp)
                  · rw [if_neg c14] at H
                    have c14b0 : decide (x7_3 < (t234.length : Int)) = false := decide_eq_false c14
                    clear c14
                    by_cases c20 : x6_3 = t233
                    · rw [if_pos c20] at H
                      have c20b0 : (x6_3 == t233) = true := beq_iff_eq.mpr c20
                      have c20b1 : (x6_3 != t233) = false := bne_eq_false_iff_eq.mpr c20
                      clear c20
                      by_cases c21 : 0 ≤ x3_1
                      · rw [if_pos c21] at H
                        have c21b0 : decide (0 ≤ x3_1) = true := decide_eq_true c21
                        clear c21
                        by_cases c22 : x3_1 < (l0.length : Int)
                        · rw [if_pos c22] at H
                          have c22b0 : decide (x3_1 < (l0.length : Int)) = true := decide_eq_true c22
                          clear c22
                          by_cases c23 : (t234.length : Int) = ((rd_T35 l0 x3_1).f4)
                          · rw [if_pos c23] at H
                            have c23b0 : ((t234.length : Int) == ((rd_T35 l0 x3_1).f4)) = true := beq_iff_eq.mpr c23
                            have c23b1 : ((t234.length : Int) != ((rd_T35 l0 x3_1).f4)) = false := bne_eq_false_iff_eq.mpr c23
                            clear c23
                            have H' := Aside0.mk H
                            clear H
                            obtain ⟨Ao24, co24, eo24⟩ := Kd.R_slice HO_5.out
                            subst eo24
                            have p241 : 0 ≤ (x3_1 : Int) := of_decide_eq_true (by first | (with_reducible assumption) | assumption)
                            have q241 : x3_1 < (l0.length : Int) := of_decide_eq_true (by first | (with_reducible assumption) | assumption)
                            obtain ⟨ad241, e241, hx241_0, hx241_1, hx241_2, hx241_3, hx241_4, hx241_5⟩ := at_T35 HR0.out x3_1 p241 q241
                            cases e241
                            replace hx241_0 := (HB.out.cell (World.block_lt_of_cell? w _ hx241_0)).trans hx241_0
                            replace hx241_1 := (HB.out.cell (World.block_lt_of_cell? w _ hx241_1)).trans hx241_1
                            replace hx241_2 := (HB.out.cell (World.block_lt_of_cell? w _ hx241_2)).trans hx241_2
                            replace hx241_3 := (HB.out.cell (World.block_lt_of_cell? w _ hx241_3)).trans hx241_3
                            replace hx241_4 := (HB.out.cell (World.block_lt_of_cell? w _ hx241_4)).trans hx241_4
                            replace hx241_5 := (HB.out.cell (World.block_lt_of_cell? w _ hx241_5)).trans hx241_5
                            replace p241 := eq_true p241
                            replace q241 := eq_true q241
                            go_wp2
                            go_roundg k3
                            case measure => have := HK1.out; have := HJ4.out; have := HK3.out; omega
                            case rel => exact ⟨(wrap64 (x3_1 + 1)), (by first | rfl | (simp; done) | (simp [*]; done)), H', ⟨by have := HK1.out; have := HJ4.out; have := HK3.out; omega⟩, ⟨by repeat (first | (with_reducible first | exact HB.out | apply below_alloc | apply pw_below_drewN | apply below_drew1) | exact HB.out)⟩⟩
                          · rw [if_neg c23] at H
                            have c23b0 : ((t234.length : Int) == ((rd_T35 l0 x3_1).f4)) = false := beq_eq_false_iff_ne.mpr c23
                            have c23b1 : ((t234.length : Int) != ((rd_T35 l0 x3_1).f4)) = true := bne_iff_ne.mpr c23
                            obtain rfl := Option.some.inj H
                            obtain ⟨Ao25, co25, eo25⟩ := Kd.R_slice HO_5.out
                            subst eo25
                            have p241 : 0 ≤ (x3_1 : Int) := of_decide_eq_true (by first | (with_reducible assumption) | assumption)
                            have q241 : x3_1 < (l0.length : Int) := of_decide_eq_true (by first | (with_reducible assumption) | assumption)
                            obtain ⟨ad241, e241, hx241_0, hx241_1, hx241_2, hx241_3, hx241_4, hx241_5⟩ := at_T35 HR0.out x3_1 p241 q241
                            cases e241
                            replace hx241_0 := (HB.out.cell (World.block_lt_of_cell? w _ hx241_0)).trans hx241_0
                            replace hx241_1 := (HB.out.cell (World.block_lt_of_cell? w _ hx241_1)).trans hx241_1
                            replace hx241_2 := (HB.out.cell (World.block_lt_of_cell? w _ hx241_2)).trans hx241_2
                            replace hx241_3 := (HB.out.cell (World.block_lt_of_cell? w _ hx241_3)).trans hx241_3
                            replace hx241_4 := (HB.out.cell (World.block_lt_of_cell? w _ hx241_4)).trans hx241_4
                            replace hx241_5 := (HB.out.cell (World.block_lt_of_cell? w _ hx241_5)).trans hx241_5
                            replace p241 := eq_true p241
                            replace q241 := eq_true q241
                            go_wp2
                            go_ret
                            exact ⟨by first | rfl | (simp [errW_none, errW_some] <;> rfl) | (simp [*, errW_none, errW_some] <;> rfl), by repeat (first | (with_reducible first | exact HB.out | apply below_alloc | apply pw_below_drewN | apply below_drew1) | exact HB.out)⟩
                        · rw [if_neg c22] at H
                          exact absurd H (by simp)
                      · rw [if_neg c21] at H
                        exact absurd H (by simp)
                    · rw [if_neg c20] at H
                      have c20b0 : (x6_3 == t233) = false := beq_eq_false_iff_ne.mpr c20
                      have c20b1 : (x6_3 != t233) = true := bne_iff_ne.mpr c20
                      obtain rfl := Option.some.inj H
                      obtain ⟨Ao26, co26, eo26⟩ := Kd.R_slice HO_5.out
                      subst eo26
                      go_wp2
                      go_ret
                      exact ⟨by first | rfl | (simp [errW_none, errW_some] <;> rfl) | (simp [*, errW_none, errW_some] <;> rfl), by repeat (first | (with_reducible first | exact HB.out | apply below_alloc | apply pw_below_drewN | apply below_drew1) | exact HB.out)⟩
      · rw [if_neg c2] at H
        have c2b0 : decide (x3_1 < (l0.length : Int)) = false := decide_eq_false c2
        clear c2
        replace H := Option.bind_eq_some_iff.mp H
        obtain ⟨t228, A270, H⟩ := H
        replace H : (if t228 = true then ((ast_End.f k1 (([(⟨0, 0, (⟨#[]⟩ : ByteArray), 0, 1, 0⟩ : S35), (⟨0, 0, (⟨#[]⟩ : ByteArray), 0, 0, 0⟩ : S35)] : List (S35))) 0).bind fun t232 => (some (t232 == 2))) else (some false)) = some r := H
        have A27 := Aside0.mk A270
        clear A270
        by_cases c28 : t228 = true
        · subst c28
          have H1 : ((ast_End.f k1 (([(⟨0, 0, (⟨#[]⟩ : ByteArray), 0, 1, 0⟩ : S35), (⟨0, 0, (⟨#[]⟩ : ByteArray), 0, 0, 0⟩ : S35)] : List (S35))) 0).bind fun t232 => (some (t232 == 2))) = some r := by rw [if_pos rfl] at H; exact H
          clear H
          have H := H1
          clear H1
          obtain ⟨y229, hy229⟩ : ∃ y_ : List (S35), y_ = (([(⟨0, 0, (⟨#[]⟩ : ByteArray), 0, 1, 0⟩ : S35), (⟨0, 0, (⟨#[]⟩ : ByteArray), 0, 0, 0⟩ : S35)] : List (S35))) := ⟨_, rfl⟩
          replace H : ((ast_End.f k1 y229 0).bind fun t232 => (some (t232 == 2))) = some r := by first | (rw [hy229]; with_reducible exact H) | (have H2_ := (Option.bind_some _ _).symm.trans H; rw [hy229]; with_reducible exact H2_) | (have H2_ := (Option.bind_some _ _).symm.trans H; with_reducible exact H2_) | with_reducible exact H | (rw [hy229]; exact H) | exact H
          have Ny229 := Aside0.mk hy229
          clear hy229
          replace H := Option.bind_eq_some_iff.mp H
          obtain ⟨t232, A290, H⟩ := H
          replace H : (some (t232 == 2)) = some r := H
          have A29 := Aside0.mk A290
          clear A290
          obtain rfl := Option.some.inj H
          go_wp2_with (first | ((with_reducible refine gate_callee (f := 19) rfl ?_); refine goesL_ (some 70) rfl rfl Tryz.func19 (by kernel_rfl) rfl #[] rfl (by (try simp only [List.map_toArray, List.map_cons, List.map_nil]); first | done | rfl | (simp only [List.length_drop, List.length_take]; rfl)) ?_; (with_reducible refine (weirlaw13_live.calls k1  true _ ?side1 A27.out).mono ?_); (case side1 => exact Globs.below HG.out (by repeat (first | (with_reducible first | exact HB.out | apply below_alloc | apply pw_below_drewN | apply below_drew1) | exact HB.out))); rintro e w30 ⟨rfl, hb⟩; refine ⟨_, rfl, ?_⟩; have n0_ := Aside0.mk (below_step (by repeat (first | (with_reducible first | exact HB.out | apply below_alloc | apply pw_below_drewN | apply below_drew1) | exact HB.out)) hb); clear HB; have HB := n0_; clear n0_; (try clear hb); (try clear hb2); (try clear hk); (try clear hi)) | ((with_reducible refine gate_dst (N := 74) rfl ?_); (try (refine gate_guard (by rfl) ?_; dsimp only)); refine Kd.R_lit k35 _ 35 ?hg (N := 74) ?hd (xs := ([(⟨0, 0, (⟨#[]⟩ : ByteArray), 0, 1, 0⟩ : S35), (⟨0, 0, (⟨#[]⟩ : ByteArray), 0, 0, 0⟩ : S35)] : List (S35))) (inner := [.int .u8 0, .int .u8 0, .string (⟨#[]⟩ : ByteArray), .int .i64 0, .int .i64 1, .int .i64 0, .int .u8 0, .int .u8 0, .string (⟨#[]⟩ : ByteArray), .int .i64 0, .int .i64 0, .int .i64 0]) (ok := fun _ => True) (okp := fun _ => True) ?hr ?hp (fun _ hk => hk) trivial (Below.refl _ _) (Nat.le_refl _) (by simp) ?_; (case hd => rfl); (case hg => rfl); (case hr => first | (go_simp; done) | (go_simp; rfl)); (case hp => exact (Reps.c6 (show Kd.M k35 _ _ _ (⟨0, 0, (⟨#[]⟩ : ByteArray), 0, 1, 0⟩ : S35) [.int .u8 0, .int .u8 0, .string (⟨#[]⟩ : ByteArray), .int .i64 0, .int .i64 1, .int .i64 0] from (k35_mkM _ _ _ (⟨0, 0, (⟨#[]⟩ : ByteArray), 0, 1, 0⟩ : S35) )) (Reps.c6 (show Kd.M k35 _ _ _ (⟨0, 0, (⟨#[]⟩ : ByteArray), 0, 0, 0⟩ : S35) [.int .u8 0, .int .u8 0, .string (⟨#[]⟩ : ByteArray), .int .i64 0, .int .i64 0, .int .i64 0] from (k35_mkM _ _ _ (⟨0, 0, (⟨#[]⟩ : ByteArray), 0, 0, 0⟩ : S35) )) (Reps.none _ _)))); intro v230 w31 ho32 hb hg_ hnew_; clear hg_ hnew_; (first | rw [← Ny229.out] at ho32 | (simp only [Int.reduceToNat] at ho32; rw [← Ny229.out] at ho32)); have n0_ := Aside0.mk (Kd.R_lower ho32 (below_size (by repeat (first | (with_reducible first | exact HB.out | apply below_alloc | apply pw_below_drewN | apply below_drew1) | exact HB.out)))); have n1_ := Aside0.mk (below_step (by repeat (first | (with_reducible first | exact HB.out | apply below_alloc | apply pw_below_drewN | apply below_drew1) | exact HB.out)) hb); clear HB; have HO231 := n0_; have HB := n1_; clear n0_ n1_; clear hb ho32; obtain ⟨Ao33, co33, eo33⟩ := Kd.R_slice HO231.out; subst eo33) | (go_at_call 17; (with_reducible refine (ast_End.calls k1 _ _ y229 0 t232 _ ?side1 ?side2 A29.out).mono ?_); (case side1 => repeat (first | exact (Kd.R_reads' HO231.out).2.2 | (with_reducible refine Kd.C_alloc ?_ _) | (with_reducible refine Kd.C_drewN ?_ _) | (with_reducible refine Kd.C_drew ?_))); (case side2 => exact (Kd.R_reads' HO231.out).2.1); rintro e w' ⟨rfl, ⟨nd, rfl⟩⟩))
          go_ret
          exact ⟨by first | rfl | (simp [errW_none, errW_some] <;> rfl) | (simp [*, errW_none, errW_some] <;> rfl), by repeat (first | (with_reducible first | exact HB.out | apply below_alloc | apply pw_below_drewN | apply below_drew1) | exact HB.out)⟩
        · replace c28 := Bool.eq_false_iff.mpr c28
          subst c28
          have H1 : (some false) = some r := by rw [if_neg (show ¬ (false = true) by decide)] at H; exact H
          clear H
          have H := H1
          clear H1
          obtain rfl := Option.some.inj H
          go_wp2_with (first | ((with_reducible refine gate_callee (f := 19) rfl ?_); refine goesL_ (some 70) rfl rfl Tryz.func19 (by kernel_rfl) rfl #[] rfl (by (try simp only [List.map_toArray, List.map_cons, List.map_nil]); first | done | rfl | (simp only [List.length_drop, List.length_take]; rfl)) ?_; (with_reducible refine (weirlaw13_live.calls k1  false _ ?side1 A27.out).mono ?_); (case side1 => exact Globs.below HG.out (by repeat (first | (with_reducible first | exact HB.out | apply below_alloc | apply pw_below_drewN | apply below_drew1) | exact HB.out))); rintro e w34 ⟨rfl, hb⟩; refine ⟨_, rfl, ?_⟩; have n0_ := Aside0.mk (below_step (by repeat (first | (with_reducible first | exact HB.out | apply below_alloc | apply pw_below_drewN | apply below_drew1) | exact HB.out)) hb); clear HB; have HB := n0_; clear n0_; (try clear hb); (try clear hb2); (try clear hk); (try clear hi)))
          go_ret
          exact ⟨by first | rfl | (simp [errW_none, errW_some] <;> rfl) | (simp [*, errW_none, errW_some] <;> rfl), by repeat (first | (with_reducible first | exact HB.out | apply below_alloc | apply pw_below_drewN | apply below_drew1) | exact HB.out)⟩

end Go.Proofs.YtabhhfpfdndidaaGreatDoor.Print
