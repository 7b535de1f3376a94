-- Made by wip/mkprint.sh of this repo over the kit's print.
import Derived.Test.YtlbjfomcgbiagaaGreatDoorPrint0
namespace Go.Proofs.YtlbjfomcgbiagaaGreatDoor.Print
open Go.RowKit Go.Proofs.YtlbjfomcgbiagaaGreatDoorW.PrintWords Go.Proofs.YtlbjfomcgbiagaaGreatDoorW.PrintLast Go.Proofs Go.Proofs.YtlbjfomcgbiagaaGreatDoor Go.Proofs.YtlbjfomcgbiagaaGreatDoor.Base Go.Proofs.YtlbjfomcgbiagaaGreatDoorW.PrintMore
attribute [local go_sem] gtr_text max2_int min2_int max_two min_two max_three min_three max_four min_four   -- for this text's walks alone
set_option linter.unusedVariables false
set_option linter.unusedSimpArgs false

/-! ### fault_New: function 36 -/
def fault_New.f (a0 : Int) : Option (Option Int) := if a0 = 0 then (some none) else (some (some a0))
set_option maxHeartbeats 8000000 in
set_option maxRecDepth 100000 in
theorem fault_New.calls (a0 : Int) (r : Option Int) (w : World) (h : fault_New.f a0 = some r) :
    Calls Tryz.prog 36 #[.int .i64 a0] w fun e w' => e = .returned (errW r) ∧ Drawn0 w w' := by
  have hu25 := Tryz.underlying25
  have hu28 := Tryz.underlying28
  have H : (if a0 = 0 then (some none) else (some (some a0))) = some r := h
  clear h
  by_cases c2 : a0 = 0
  · rw [if_pos c2] at H
    have c2b0 : (a0 == 0) = true := beq_iff_eq.mpr c2
    have c2b1 : (a0 != 0) = false := bne_eq_false_iff_eq.mpr c2
    clear c2
    obtain rfl := Option.some.inj H
    go_enter Tryz.func36, Tryz.ntmps36
    go_wp2
    go_ret
    exact ⟨by first | rfl | (simp; done) | (simp [*]; done), by repeat (first | exact Drawn0.refl _ | apply Drawn0.step)⟩
  · rw [if_neg c2] at H
    have c2b0 : (a0 == 0) = false := beq_eq_false_iff_ne.mpr c2
    have c2b1 : (a0 != 0) = true := bne_iff_ne.mpr c2
    obtain rfl := Option.some.inj H
    go_enter Tryz.func36, Tryz.ntmps36
    go_wp2
    go_ret
    exact ⟨by first | rfl | (simp; done) | (simp [*]; done), by repeat (first | exact Drawn0.refl _ | apply Drawn0.step)⟩

/-! ### key_right: function 96 (its contract typed by hand) -/
/-- A control, or 127. -/
def isCtl (r : Nat) : Bool := decide (r < 32) || decide (r = 127)
theorem ctl_pred (w : World) : PredAt Tryz.prog 122 #[] encR isCtl w := fun W r _ => by
  unfold FnGives isCtl
  by_cases h1 : r < 32
  · have z1 : (r : Int) < 32 := by omega
    have hd : decide (r < 32) = true := decide_eq_true h1
    have HD := Aside0.mk hd
    clear hd h1
    go_enter Tryz.func122, Tryz.ntmps122
    go_wp2
    go_ret
    exact ⟨by rw [HD.out]; rfl, 0, rfl⟩
  · have z1 : ¬ (r : Int) < 32 := by omega
    have hd : decide (r < 32) = false := decide_eq_false h1
    have HD := Aside0.mk hd
    clear hd h1
    by_cases h2 : r = 127
    · subst h2
      go_enter Tryz.func122, Tryz.ntmps122
      go_wp2
      go_ret
      exact ⟨rfl, 0, rfl⟩
    · have z2 : ((r : Int) == 127) = false := beq_eq_false_iff_ne.mpr (by omega)
      have hd2 : decide (r = 127) = false := decide_eq_false h2
      have HD2 := Aside0.mk hd2
      clear hd2 h2
      go_enter Tryz.func122, Tryz.ntmps122
      go_wp2
      go_ret
      exact ⟨by rw [HD.out, HD2.out]; simp, 0, rfl⟩
/-- Valid, without controls, of 1 to 'most' bytes. -/
def rightB (s : ByteArray) (most : Int) : Bool := !s.toList.isEmpty && (decide ((s.size : Int) ≤ most) && (Lib.validD s.data.toList && !decide (0 ≤ Lib.idxFunc isCtl true s)))
def key_right.f (a0 : ByteArray) (a1 : Int) : Option Bool := if a0.size ≤ 140737488351232 then some (rightB a0 a1) else none
set_option maxHeartbeats 1000000 in
set_option maxRecDepth 100000 in
theorem key_right.calls (a0 : ByteArray) (a1 : Int) (r : Bool) (w : World) (hG : Globs w) (h : key_right.f a0 a1 = some r) :
    Calls Tryz.prog 96 #[.string a0, .int .i64 a1] w fun e w' => e = .returned (.bool r) ∧ Below w.heap.size w w' := by
  unfold key_right.f at h
  split at h
  case isFalse => cases h
  rename_i hs
  obtain rfl := Option.some.inj h
  have HG := Aside0.mk hG
  clear hG h
  cases he : a0.toList.isEmpty with
  | true =>
    have hr : rightB a0 a1 = false := by simp [rightB, he]
    have HR := Aside0.mk hr
    have hl : a0.toList = [] := List.isEmpty_iff.1 he
    have he2 : (!a0.toList.isEmpty) = false := by rw [he]; rfl
    clear hr
    go_enter Tryz.func96, Tryz.ntmps96
    go_wp2
    go_ret
    exact ⟨by rw [HR.out]; rfl, Below.refl _ _⟩
  | false =>
    have hl : a0.toList ≠ [] := fun h => by rw [h] at he; cases he
    have he2 : (!a0.toList.isEmpty) = true := by rw [he]; rfl
    by_cases hle : (a0.size : Int) ≤ a1
    · have hV := Tryz.utf8_ValidString a0 w (by omega) HG.out.utf
      obtain ⟨V, hVe⟩ : ∃ V, Lib.validD a0.data.toList = V := ⟨_, rfl⟩
      rw [hVe] at hV
      have HV := Aside0.mk hVe
      clear hVe
      cases V with
      | false =>
        have hr : rightB a0 a1 = false := by simp [rightB, HV.out]
        have HR := Aside0.mk hr
        clear hr
        go_enter Tryz.func96, Tryz.ntmps96
        go_wp2_with (go_at_call 123; refine hV.mono ?_; rintro e w1 ⟨rfl, hb1⟩)
        go_ret
        exact ⟨by rw [HR.out]; rfl, hb1⟩
      | true =>
        have hC := fun W : World => Tryz.strings_ContainsFunc 122 #[] (enters_of Tryz.func122 (by kernel_rfl) rfl) isCtl a0 W (ctl_pred W)
        obtain ⟨C, hCe⟩ : ∃ C, decide (0 ≤ Lib.idxFunc isCtl true a0) = C := ⟨_, rfl⟩
        rw [hCe] at hC
        have hr : rightB a0 a1 = !C := by simp [rightB, HV.out, he, hle, ← hCe]
        have HR := Aside0.mk hr
        have HC := Aside0.mk hC
        clear hr hCe hC
        go_enter Tryz.func96, Tryz.ntmps96
        go_wp2_with (first | (go_at_call 123; refine hV.mono ?_; rintro e w1 ⟨rfl, hb1⟩) | (go_at_call 124; refine (HC.out _).mono ?_; rintro e w2 ⟨rfl, hb2⟩))
        go_ret
        exact ⟨by rw [HR.out]; rfl, below_then hb1 hb1.size hb2⟩
    · have hr : rightB a0 a1 = false := by simp [rightB, hle]
      have HR := Aside0.mk hr
      clear hr
      go_enter Tryz.func96, Tryz.ntmps96
      go_wp2
      go_ret
      exact ⟨by rw [HR.out]; rfl, Below.refl _ _⟩

/-! ### key_Name: function 49 -/
def key_Name.f (a0 : ByteArray) : Option (Option Int) := (key_right.f a0 64).bind fun t101 => (if t101 = true then (some none) else ((fault_New.f 50).bind fun t102 => (some t102)))
set_option maxHeartbeats 8000000 in
set_option maxRecDepth 100000 in
theorem key_Name.calls (a0 : ByteArray) (r : Option Int) (w : World) (hG : Globs w) (h : key_Name.f a0 = some r) :
    Calls Tryz.prog 49 #[.string a0] w fun e w' => e = .returned (errW r) ∧ Below w.heap.size w w' := by
  have HG := Aside0.mk hG
  clear hG
  have HB := Aside0.mk (Below.refl w.heap.size w)
  have H : ((key_right.f a0 64).bind fun t101 => (if t101 = true then (some none) else ((fault_New.f 50).bind fun t102 => (some t102)))) = some r := h
  clear h
  replace H := Option.bind_eq_some_iff.mp H
  obtain ⟨t101, A20, H⟩ := H
  replace H : (if t101 = true then (some none) else ((fault_New.f 50).bind fun t102 => (some t102))) = some r := H
  have A2 := Aside0.mk A20
  clear A20
  by_cases c3 : t101 = true
  · subst c3
    have H1 : (some none) = some r := by rw [if_pos rfl] at H; exact H
    clear H
    have H := H1
    clear H1
    obtain rfl := Option.some.inj H
    go_enter Tryz.func49, Tryz.ntmps49
    go_wp2_with (first | ((with_reducible refine gate_callee (f := 96) rfl ?_); refine goesL_ (some 4) rfl rfl Tryz.func96 (by kernel_rfl) rfl #[.string a0, .int .i64 64] rfl (by (try simp only [List.map_toArray, List.map_cons, List.map_nil]); first | done | rfl | (simp only [List.length_drop, List.length_take]; rfl)) ?_; (with_reducible refine (key_right.calls a0 64 true _ ?side1 A2.out).mono ?_); (case side1 => exact Globs.below HG.out (by repeat (first | (with_reducible first | exact HB.out | apply below_alloc | apply pw_below_drewN | apply below_drew1) | exact HB.out))); rintro e w4 ⟨rfl, hb⟩; refine ⟨_, rfl, ?_⟩; have n0_ := Aside0.mk (below_step (by repeat (first | (with_reducible first | exact HB.out | apply below_alloc | apply pw_below_drewN | apply below_drew1) | exact HB.out)) hb); clear HB; have HB := n0_; clear n0_; (try clear hb); (try clear hb2); (try clear hk); (try clear hi)))
    go_ret
    exact ⟨by first | rfl | (simp [errW_none, errW_some] <;> rfl) | (simp [*, errW_none, errW_some] <;> rfl), by repeat (first | (with_reducible first | exact HB.out | apply below_alloc | apply pw_below_drewN | apply below_drew1) | exact HB.out)⟩
  · replace c3 := Bool.eq_false_iff.mpr c3
    subst c3
    have H1 : ((fault_New.f 50).bind fun t102 => (some t102)) = some r := by rw [if_neg (show ¬ (false = true) by decide)] at H; exact H
    clear H
    have H := H1
    clear H1
    replace H := Option.bind_eq_some_iff.mp H
    obtain ⟨t102, A50, H⟩ := H
    replace H : (some t102) = some r := H
    have A5 := Aside0.mk A50
    clear A50
    obtain rfl := Option.some.inj H
    go_enter Tryz.func49, Tryz.ntmps49
    go_wp2_with (first | ((with_reducible refine gate_callee (f := 96) rfl ?_); refine goesL_ (some 4) rfl rfl Tryz.func96 (by kernel_rfl) rfl #[.string a0, .int .i64 64] rfl (by (try simp only [List.map_toArray, List.map_cons, List.map_nil]); first | done | rfl | (simp only [List.length_drop, List.length_take]; rfl)) ?_; (with_reducible refine (key_right.calls a0 64 false _ ?side1 A2.out).mono ?_); (case side1 => exact Globs.below HG.out (by repeat (first | (with_reducible first | exact HB.out | apply below_alloc | apply pw_below_drewN | apply below_drew1) | exact HB.out))); rintro e w6 ⟨rfl, hb⟩; refine ⟨_, rfl, ?_⟩; have n0_ := Aside0.mk (below_step (by repeat (first | (with_reducible first | exact HB.out | apply below_alloc | apply pw_below_drewN | apply below_drew1) | exact HB.out)) hb); clear HB; have HB := n0_; clear n0_; (try clear hb); (try clear hb2); (try clear hk); (try clear hi)) | ((with_reducible refine gate_callee (f := 36) rfl ?_); refine goesL_ (some 6) rfl rfl Tryz.func36 (by kernel_rfl) rfl #[.int .i64 50] rfl (by (try simp only [List.map_toArray, List.map_cons, List.map_nil]); first | done | rfl | (simp only [List.length_drop, List.length_take]; rfl)) ?_; (with_reducible refine (fault_New.calls 50 t102 _ A5.out).mono ?_); rintro e w' ⟨rfl, ⟨nd, rfl⟩⟩; refine ⟨_, rfl, ?_⟩; (try simp only [errW_none, errW_some])))
    go_ret
    exact ⟨by first | rfl | (simp [errW_none, errW_some] <;> rfl) | (simp [*, errW_none, errW_some] <;> rfl), by repeat (first | (with_reducible first | exact HB.out | apply below_alloc | apply pw_below_drewN | apply below_drew1) | exact HB.out)⟩

/-! ### ast_word: function 48 -/
def ast_word.f (a0 : ByteArray) : Option (Bool) := (key_Name.f a0).bind fun t103 => (if t103.isNone = true then (some (a0.toList != ([116, 105, 109, 101] : List UInt8))) else (some false))
set_option maxHeartbeats 8000000 in
set_option maxRecDepth 100000 in
theorem ast_word.calls (a0 : ByteArray) (r : Bool) (w : World) (hG : Globs w) (h : ast_word.f a0 = some r) :
    Calls Tryz.prog 48 #[.string a0] w fun e w' => e = .returned (.bool r) ∧ Below w.heap.size w w' := by
  have hu25 := Tryz.underlying25
  have hu28 := Tryz.underlying28
  have HG := Aside0.mk hG
  clear hG
  have HB := Aside0.mk (Below.refl w.heap.size w)
  have H : ((key_Name.f a0).bind fun t103 => (if t103.isNone = true then (some (a0.toList != ([116, 105, 109, 101] : List UInt8))) else (some false))) = some r := h
  clear h
  replace H := Option.bind_eq_some_iff.mp H
  obtain ⟨t103, A20, H⟩ := H
  replace H : (if t103.isNone = true then (some (a0.toList != ([116, 105, 109, 101] : List UInt8))) else (some false)) = some r := H
  have A2 := Aside0.mk A20
  clear A20
  rcases t103 with _ | q104
  · have H1 : (some (a0.toList != ([116, 105, 109, 101] : List UInt8))) = some r := by rw [if_pos (show (none : Option Int).isNone = true by rfl)] at H; exact H
    clear H
    have H := H1
    clear H1
    try simp only [errW_none, errW_some]
    obtain rfl := Option.some.inj H
    go_enter Tryz.func48, Tryz.ntmps48
    go_wp2_with (first | ((with_reducible refine gate_callee (f := 49) rfl ?_); refine goesL_ (some 4) rfl rfl Tryz.func49 (by kernel_rfl) rfl #[.string a0] rfl (by (try simp only [List.map_toArray, List.map_cons, List.map_nil]); first | done | rfl | (simp only [List.length_drop, List.length_take]; rfl)) ?_; (with_reducible refine (key_Name.calls a0 none _ ?side1 A2.out).mono ?_); (case side1 => exact Globs.below HG.out (by repeat (first | (with_reducible first | exact HB.out | apply below_alloc | apply pw_below_drewN | apply below_drew1) | exact HB.out))); rintro e w3 ⟨rfl, hb⟩; refine ⟨_, rfl, ?_⟩; have n0_ := Aside0.mk (below_step (by repeat (first | (with_reducible first | exact HB.out | apply below_alloc | apply pw_below_drewN | apply below_drew1) | exact HB.out)) hb); clear HB; have HB := n0_; clear n0_; (try clear hb); (try clear hb2); (try clear hk); (try clear hi); (try simp only [errW_none, errW_some])))
    go_ret
    exact ⟨by first | rfl | (simp [errW_none, errW_some] <;> rfl) | (simp [*, errW_none, errW_some] <;> rfl), by repeat (first | (with_reducible first | exact HB.out | apply below_alloc | apply pw_below_drewN | apply below_drew1) | exact HB.out)⟩
  · have H1 : (some false) = some r := by rw [if_neg (show ¬ (some q104).isNone = true by simp)] at H; exact H
    clear H
    have H := H1
    clear H1
    try simp only [errW_none, errW_some]
    obtain rfl := Option.some.inj H
    go_enter Tryz.func48, Tryz.ntmps48
    go_wp2_with (first | ((with_reducible refine gate_callee (f := 49) rfl ?_); refine goesL_ (some 4) rfl rfl Tryz.func49 (by kernel_rfl) rfl #[.string a0] rfl (by (try simp only [List.map_toArray, List.map_cons, List.map_nil]); first | done | rfl | (simp only [List.length_drop, List.length_take]; rfl)) ?_; (with_reducible refine (key_Name.calls a0 (some q104) _ ?side1 A2.out).mono ?_); (case side1 => exact Globs.below HG.out (by repeat (first | (with_reducible first | exact HB.out | apply below_alloc | apply pw_below_drewN | apply below_drew1) | exact HB.out))); rintro e w4 ⟨rfl, hb⟩; refine ⟨_, rfl, ?_⟩; have n0_ := Aside0.mk (below_step (by repeat (first | (with_reducible first | exact HB.out | apply below_alloc | apply pw_below_drewN | apply below_drew1) | exact HB.out)) hb); clear HB; have HB := n0_; clear n0_; (try clear hb); (try clear hb2); (try clear hk); (try clear hi); (try simp only [errW_none, errW_some])))
    go_ret
    exact ⟨by first | rfl | (simp [errW_none, errW_some] <;> rfl) | (simp [*, errW_none, errW_some] <;> rfl), by repeat (first | (with_reducible first | exact HB.out | apply below_alloc | apply pw_below_drewN | apply below_drew1) | exact HB.out)⟩

/-! ### ast_bare: function 80 -/
def ast_bare.f (a0_0 : Int) (a0_1 : Int) (a0_2 : ByteArray) (a0_3 : Int) (a0_4 : Int) (a0_5 : Int) : Option (Int × Int × ByteArray × Int × Int × Int) := some (a0_0, a0_1, a0_2, a0_3, 0, 0)
set_option maxHeartbeats 8000000 in
set_option maxRecDepth 100000 in
theorem ast_bare.calls (a0_0 : Int) (a0_1 : Int) (a0_2 : ByteArray) (a0_3 : Int) (a0_4 : Int) (a0_5 : Int) (r1 : Int) (r2 : Int) (r3 : ByteArray) (r4 : Int) (r5 : Int) (r6 : Int) (w : World) (h : ast_bare.f a0_0 a0_1 a0_2 a0_3 a0_4 a0_5 = some (r1, r2, r3, r4, r5, r6)) :
    Calls Tryz.prog 80 #[.agg #[.int .u8 a0_0, .int .u8 a0_1, .string a0_2, .int .i64 a0_3, .int .i64 a0_4, .int .i64 a0_5]] w fun e w' => e = .returned (.agg #[.int .u8 r1, .int .u8 r2, .string r3, .int .i64 r4, .int .i64 r5, .int .i64 r6]) ∧ Below w.heap.size w w' := by
  have hu56 := Tryz.underlying56
  have HB := Aside0.mk (Below.refl w.heap.size w)
  have H : (some (a0_0, a0_1, a0_2, a0_3, 0, 0)) = some (r1, r2, r3, r4, r5, r6) := h
  clear h
  simp only [Option.some.injEq, Prod.mk.injEq] at H
  obtain ⟨rfl, rfl, rfl, rfl, rfl, rfl⟩ := H
  go_enter Tryz.func80, Tryz.ntmps80
  go_wp2_with (first | ((with_reducible refine gate_dst (N := 1) rfl ?_); refine box_event ?hg (N := 1) ?hd (cs := #[.int .u8 a0_0, .int .u8 a0_1, .string a0_2, .int .i64 a0_3, .int .i64 a0_4, .int .i64 a0_5]) (t := 56) ?hr ?_; (case hd => rfl); (case hg => rfl); (case hr => first | (go_simp; done) | (go_simp; rfl)); intro gb105 hg w2 hbox hb; have n0_ := Aside0.mk (below_step (by repeat (first | (with_reducible first | exact HB.out | apply below_alloc | apply pw_below_drewN | apply below_drew1) | exact HB.out)) hb); have n1_ := Aside0.mk (hbox); have n2_ := Aside0.mk ((by rw [hg]; exact (below_size (by repeat (first | (with_reducible first | exact HB.out | apply below_alloc | apply pw_below_drewN | apply below_drew1) | exact HB.out))) : w.heap.size ≤ gb105)); have n3_ := Aside0.mk ((by rw [hg]; exact (below_size (by repeat (first | (with_reducible first | exact HB.out | apply below_alloc | apply pw_below_drewN | apply below_drew1) | exact HB.out))) : w.heap.size ≤ gb105)); clear HB; have HB := n0_; have BK105 := n1_; have GW105 := n2_; have GE105 := n3_; clear n0_ n1_ n2_ n3_; clear hb hbox hg) | ((with_reducible refine gate_dst (N := 2) rfl ?_); refine box_event ?hg (N := 2) ?hd (cs := #[.int .u8 0, .int .u8 0, .string (⟨#[]⟩ : ByteArray), .int .i64 0, .int .i64 0, .int .i64 0]) (t := 56) ?hr ?_; (case hd => rfl); (case hg => rfl); (case hr => first | (go_simp; done) | (go_simp; rfl)); intro gb106 hg w3 hbox hb; have n0_ := Aside0.mk (blk_below (g := gb105) (o := .cells #[.int .u8 a0_0, .int .u8 a0_1, .string a0_2, .int .i64 a0_3, .int .i64 a0_4, .int .i64 a0_5] 56 (0, 0)) (by (with_reducible repeat (first | refine blk_drewN ?_ _ | refine blk_drew ?_ | refine blk_alloc ?_ _)); exact BK105.out) hb); have n1_ := Aside0.mk (below_step (by repeat (first | (with_reducible first | exact HB.out | apply below_alloc | apply pw_below_drewN | apply below_drew1 | refine below_set ?_ GE105.out) | exact HB.out)) hb); have n2_ := Aside0.mk (hbox); have n3_ := Aside0.mk ((by rw [hg]; exact (below_size (by repeat (first | (with_reducible first | exact HB.out | apply below_alloc | apply pw_below_drewN | apply below_drew1 | refine below_set ?_ GE105.out) | exact HB.out))) : w.heap.size ≤ gb106)); have n4_ := Aside0.mk ((by rw [hg]; exact (below_size (by repeat (first | (with_reducible first | exact HB.out | apply below_alloc | apply pw_below_drewN | apply below_drew1 | refine below_set ?_ GE105.out) | exact HB.out))) : w.heap.size ≤ gb106)); have n5_ := Aside0.mk ((by rw [hg]; exact Nat.ne_of_lt (blk_lt (g := gb105) (o := .cells #[.int .u8 a0_0, .int .u8 a0_1, .string a0_2, .int .i64 a0_3, .int .i64 a0_4, .int .i64 a0_5] 56 (0, 0)) (by (with_reducible repeat (first | refine blk_drewN ?_ _ | refine blk_drew ?_ | refine blk_alloc ?_ _)); exact BK105.out)) : gb105 ≠ gb106)); have n6_ := Aside0.mk ((by rw [hg]; exact Nat.ne_of_gt (blk_lt (g := gb105) (o := .cells #[.int .u8 a0_0, .int .u8 a0_1, .string a0_2, .int .i64 a0_3, .int .i64 a0_4, .int .i64 a0_5] 56 (0, 0)) (by (with_reducible repeat (first | refine blk_drewN ?_ _ | refine blk_drew ?_ | refine blk_alloc ?_ _)); exact BK105.out)) : gb106 ≠ gb105)); clear BK105; clear HB; have BK105 := n0_; have HB := n1_; have BK106 := n2_; have GW106 := n3_; have GE106 := n4_; have NB105_106 := n5_; have NB106_105 := n6_; clear n0_ n1_ n2_ n3_ n4_ n5_ n6_; clear hb hbox hg; have hnb4 := NB105_106.out; have hnc4 := NB106_105.out; have hcz5_0 : w3.cell? ⟨gb105, 0, none⟩ = some (.int .u8 a0_0) := (blk_cell BK105.out 0).trans rfl; have hcz5_1 : w3.cell? ⟨gb105, 1, none⟩ = some (.int .u8 a0_1) := (blk_cell BK105.out 1).trans rfl; have hcz5_2 : w3.cell? ⟨gb105, 2, none⟩ = some (.string a0_2) := (blk_cell BK105.out 2).trans rfl; have hcz5_3 : w3.cell? ⟨gb105, 3, none⟩ = some (.int .i64 a0_3) := (blk_cell BK105.out 3).trans rfl; have hcz5_4 : w3.cell? ⟨gb105, 4, none⟩ = some (.int .i64 a0_4) := (blk_cell BK105.out 4).trans rfl; have hcz5_5 : w3.cell? ⟨gb105, 5, none⟩ = some (.int .i64 a0_5) := (blk_cell BK105.out 5).trans rfl; have hfz5_0 := blk_frozen BK105.out 0; have hfz5_1 := blk_frozen BK105.out 1; have hfz5_2 := blk_frozen BK105.out 2; have hfz5_3 := blk_frozen BK105.out 3; have hfz5_4 := blk_frozen BK105.out 4; have hfz5_5 := blk_frozen BK105.out 5; have hcz6_0 : w3.cell? ⟨gb106, 0, none⟩ = some (.int .u8 0) := (blk_cell BK106.out 0).trans rfl; have hcz6_1 : w3.cell? ⟨gb106, 1, none⟩ = some (.int .u8 0) := (blk_cell BK106.out 1).trans rfl; have hcz6_2 : w3.cell? ⟨gb106, 2, none⟩ = some (.string (⟨#[]⟩ : ByteArray)) := (blk_cell BK106.out 2).trans rfl; have hcz6_3 : w3.cell? ⟨gb106, 3, none⟩ = some (.int .i64 0) := (blk_cell BK106.out 3).trans rfl; have hcz6_4 : w3.cell? ⟨gb106, 4, none⟩ = some (.int .i64 0) := (blk_cell BK106.out 4).trans rfl; have hcz6_5 : w3.cell? ⟨gb106, 5, none⟩ = some (.int .i64 0) := (blk_cell BK106.out 5).trans rfl; have hfz6_0 := blk_frozen BK106.out 0; have hfz6_1 := blk_frozen BK106.out 1; have hfz6_2 := blk_frozen BK106.out 2; have hfz6_3 := blk_frozen BK106.out 3; have hfz6_4 := blk_frozen BK106.out 4; have hfz6_5 := blk_frozen BK106.out 5))
  refine bodyPost_ret (results_cell_row rfl _ _ gb106 56 #[.int .u8 a0_0, .int .u8 a0_1, .string a0_2, .int .i64 a0_3, .int .i64 0, .int .i64 0] (0, 0) _ rfl (by (with_reducible repeat (first | refine blk_drewN ?_ _ | refine blk_drew ?_ | refine blk_alloc ?_ _)); refine blk_put (cs := #[.int .u8 a0_0, .int .u8 a0_1, .string a0_2, .int .i64 a0_3, .int .i64 0, .int .i64 0]) ?_ 5 _ rfl; (with_reducible repeat (first | refine blk_drewN ?_ _ | refine blk_drew ?_ | refine blk_alloc ?_ _)); refine blk_put (cs := #[.int .u8 a0_0, .int .u8 a0_1, .string a0_2, .int .i64 a0_3, .int .i64 0, .int .i64 0]) ?_ 4 _ rfl; (with_reducible repeat (first | refine blk_drewN ?_ _ | refine blk_drew ?_ | refine blk_alloc ?_ _)); refine blk_put (cs := #[.int .u8 a0_0, .int .u8 a0_1, .string a0_2, .int .i64 0, .int .i64 0, .int .i64 0]) ?_ 3 _ rfl; (with_reducible repeat (first | refine blk_drewN ?_ _ | refine blk_drew ?_ | refine blk_alloc ?_ _)); refine blk_put (cs := #[.int .u8 a0_0, .int .u8 a0_1, .string (⟨#[]⟩ : ByteArray), .int .i64 0, .int .i64 0, .int .i64 0]) ?_ 2 _ rfl; (with_reducible repeat (first | refine blk_drewN ?_ _ | refine blk_drew ?_ | refine blk_alloc ?_ _)); refine blk_put (cs := #[.int .u8 a0_0, .int .u8 0, .string (⟨#[]⟩ : ByteArray), .int .i64 0, .int .i64 0, .int .i64 0]) ?_ 1 _ rfl; (with_reducible repeat (first | refine blk_drewN ?_ _ | refine blk_drew ?_ | refine blk_alloc ?_ _)); refine blk_put (cs := #[.int .u8 0, .int .u8 0, .string (⟨#[]⟩ : ByteArray), .int .i64 0, .int .i64 0, .int .i64 0]) ?_ 0 _ rfl; (with_reducible repeat (first | refine blk_drewN ?_ _ | refine blk_drew ?_ | refine blk_alloc ?_ _)); refine blk_far ?_ NB106_105.out _; (with_reducible repeat (first | refine blk_drewN ?_ _ | refine blk_drew ?_ | refine blk_alloc ?_ _)); refine blk_far ?_ NB106_105.out _; (with_reducible repeat (first | refine blk_drewN ?_ _ | refine blk_drew ?_ | refine blk_alloc ?_ _)); exact BK106.out) Tryz.underlying56 rfl (by kernel_rfl)) rfl ?_
  exact ⟨by first | rfl | (simp [errW_none, errW_some] <;> rfl) | (simp [*, errW_none, errW_some] <;> rfl), by repeat (first | (with_reducible first | exact HB.out | apply below_alloc | apply pw_below_drewN | apply below_drew1 | refine below_set ?_ GE105.out | refine below_set ?_ GE106.out) | exact HB.out)⟩

/-! ### ast_summed: function 33 (its contract typed by hand) -/
/-- What a sum's node is, by itself; c9: is its text a word? -/
def sumB (a0 a1 : Int) (a2 : ByteArray) (a3 a4 : Int) (c9 : Bool) : Bool :=
  if a0 = 1 then (a1 == 0 && a2.toList.isEmpty) && a4 == 0 && decide ((-9223372036854775807) ≤ a3)
  else if a0 = 2 then a3 == 0 && a4 == 0 && decide (1 ≤ a1) && decide (a1 ≤ 8) && c9
  else if a0 = 3 then (a1 == 0 && a2.toList.isEmpty && a3 == 0) && a4 == 1
  else if 4 ≤ a0 ∧ a0 ≤ 8 then (a1 == 0 && a2.toList.isEmpty && a3 == 0) && a4 == 2
  else false
section
attribute [local go_sem high] eqA56
def ast_summed.r3.T : Bool × List (List Nat × List Nat) := (true, [([], []), ([0], [0]), ([], []), ([2], [2]), ([], []), ([4], [4]), ([3, 5], [3, 5]), ([1, 6], [1, 6]), ([7, 1], [7]), ([8], [8]), ([9, 8], [8, 9]), ([10, 8], [8, 10]), ([8, 11], [8, 11]), ([12, 8], [12]), ([13], [13]), ([14, 13], [13, 14]), ([15, 13], [13, 15]), ([13, 16], [13, 16]), ([17, 13, 0, 1, 2, 3, 4, 5, 6, 7, 8, 9, 10, 11, 12, 13, 14, 15, 16, 17], [17])])
def ast_summed.r3.B : List Nat := [0, 1, 0, 4, 0, 16, 60, 127, 255, 511, 1023, 2047, 4095, 8191, 16383, 32767, 65535, 131071, 262143]
theorem ast_summed.r3.tab : rtab .any (opsOf Tryz.f33 3) = ast_summed.r3.T := by kernel_rfl
theorem ast_summed.r3.bits : waitsOk ast_summed.r3.T.2 ast_summed.r3.B = true := by kernel_rfl
def ast_summed.r5.T : Bool × List (List Nat × List Nat) := (true, [([], []), ([0], [0]), ([], []), ([2], [2]), ([], []), ([4], [4]), ([], []), ([6], [6]), ([3, 5, 7], [3, 5, 7]), ([1, 8], [1, 8]), ([9, 1], [9]), ([10], [10]), ([11, 10], [10, 11]), ([12, 10], [10, 12]), ([10, 13], [10, 13]), ([14, 10], [14]), ([15], [15]), ([16, 15], [15, 16]), ([17, 15], [15, 17]), ([15, 18], [15, 18]), ([19, 15], [19]), ([20], [20]), ([21, 20], [20, 21]), ([22, 20], [20, 22]), ([20, 23], [20, 23]), ([24, 20], [24]), ([25], [25]), ([26, 25], [25, 26]), ([27, 25, 25], [25, 27]), ([25, 28], [25, 28]), ([29, 28, 0, 1, 2, 3, 4, 5, 6, 7, 8, 9, 10, 11, 12, 13, 14, 15, 16, 17, 18, 19, 20, 21, 22, 23, 24, 25, 26, 27, 28, 29], [29])])
def ast_summed.r5.B : List Nat := [0, 1, 0, 4, 0, 16, 0, 64, 252, 511, 1023, 2047, 4095, 8191, 16383, 32767, 65535, 131071, 262143, 524287, 1048575, 2097151, 4194303, 8388607, 16777215, 33554431, 67108863, 134217727, 268435455, 536870911, 1073741823]
theorem ast_summed.r5.tab : rtab .any (opsOf Tryz.f33 5) = ast_summed.r5.T := by kernel_rfl
theorem ast_summed.r5.bits : waitsOk ast_summed.r5.T.2 ast_summed.r5.B = true := by kernel_rfl
def ast_summed.r7.T : Bool × List (List Nat × List Nat) := (true, [([], []), ([0], [0]), ([], []), ([2], [2]), ([3], [3]), ([1, 4], [1, 4]), ([5, 1], [5]), ([6], [6]), ([7, 6], [6, 7]), ([8, 6], [6, 8]), ([6, 9], [6, 9]), ([10, 6, 0, 1, 2, 3, 4, 5, 6, 7, 8, 9, 10], [10])])
def ast_summed.r7.B : List Nat := [0, 1, 0, 4, 12, 31, 63, 127, 255, 511, 1023, 2047]
theorem ast_summed.r7.tab : rtab .any (opsOf Tryz.f33 7) = ast_summed.r7.T := by kernel_rfl
theorem ast_summed.r7.bits : waitsOk ast_summed.r7.T.2 ast_summed.r7.B = true := by kernel_rfl
def ast_summed.r13.T : Bool × List (List Nat × List Nat) := (true, [([], []), ([0], [0]), ([], []), ([2], [2]), ([3], [3]), ([1, 4], [1, 4]), ([5, 1], [5]), ([6], [6]), ([7, 6], [6, 7]), ([8, 6], [6, 8]), ([6, 9], [6, 9]), ([10, 6, 0, 1, 2, 3, 4, 5, 6, 7, 8, 9, 10], [10])])
def ast_summed.r13.B : List Nat := [0, 1, 0, 4, 12, 31, 63, 127, 255, 511, 1023, 2047]
theorem ast_summed.r13.tab : rtab .any (opsOf Tryz.f33 13) = ast_summed.r13.T := by kernel_rfl
theorem ast_summed.r13.bits : waitsOk ast_summed.r13.T.2 ast_summed.r13.B = true := by kernel_rfl
set_option maxRecDepth 100000 in
set_option maxHeartbeats 8000000 in
theorem ast_summed.at1 (a1 : Int) (a2 : ByteArray) (a3 a4 a5 b0 b1 : Int) (b2 : ByteArray) (b3 b4 b5 : Int) (c1 c2 c3 : Bool) (w : World) (HB : ∀ W : World, Calls Tryz.prog 80 #[.agg #[.int .u8 1, .int .u8 a1, .string a2, .int .i64 a3, .int .i64 a4, .int .i64 a5]] W fun e w' => e = .returned (.agg #[.int .u8 b0, .int .u8 b1, .string b2, .int .i64 b3, .int .i64 b4, .int .i64 b5]) ∧ Below W.heap.size W w') (h1 : (b0 == 1 && (b1 == 0 && (b2.toList.isEmpty && (b3 == a3 && (b4 == 0 && b5 == 0))))) = c1) (h1b : (b0 == 1 && (b1 == 0 && (b2.toList == ([] : List UInt8) && (b3 == a3 && (b4 == 0 && b5 == 0))))) = c1) (h2 : (a4 == 0) = c2) (h3 : decide (a3 ≥ (-9223372036854775807)) = c3) (h3b : decide ((-9223372036854775807) ≤ a3) = c3) :
    Calls Tryz.prog 33 #[.agg #[.int .u8 1, .int .u8 a1, .string a2, .int .i64 a3, .int .i64 a4, .int .i64 a5]] w fun e w' => e = .returned (.bool (c1 && c2 && c3)) ∧ Below w.heap.size w w' := by
  have hu := Tryz.underlying56
  have hu2 := Tryz.underlying25
  replace HB := Aside0.mk HB
  go_enter Tryz.func33, Tryz.ntmps33
  go_wp2_with (first | ((with_reducible refine gate_dst (N := 1) rfl ?_); refine box_event ?hg (N := 1) ?hd (cs := #[.int .u8 1, .int .u8 a1, .string a2, .int .i64 a3, .int .i64 a4, .int .i64 a5]) (t := 56) ?hr ?_; (case hd => rfl); (case hg => rfl); (case hr => first | (go_simp; done) | (go_simp; rfl)); intro gb hg w6 hbox hb; (clear hg); have HX := Aside0.mk (box7 hb hbox); obtain ⟨_, z0, z1, z2, z3, z4, z5⟩ := box6 hb hbox; have HZ := Aside0.mk hb; (clear hb hbox)))
  refine start_ (n := 19) (S := fun W => Below w.heap.size w W ∧ W.cell? ⟨gb, 0, none⟩ = some (.int .u8 1) ∧ W.cell? ⟨gb, 1, none⟩ = some (.int .u8 a1) ∧ W.cell? ⟨gb, 2, none⟩ = some (.string a2) ∧ W.cell? ⟨gb, 3, none⟩ = some (.int .i64 a3) ∧ W.cell? ⟨gb, 4, none⟩ = some (.int .i64 a4) ∧ W.cell? ⟨gb, 5, none⟩ = some (.int .i64 a5)) (ds := []) #[false, false, false, false, false, false, false, false, false, false, false, false, false, false, false, false, false, false, false] (by kernel_rfl) rfl rfl HX.out (fun hHeld => ?_)
  refine with_tabW ast_summed.r3.tab ast_summed.r3.bits (fun HT_ HW_ => ?_)
  refine pT 0 7 ?_
  refine pP 2 9 ?_
  refine pT 3 10 ?_
  refine pP 4 11 ?_
  refine pT 5 12 ?_
  refine pP 6 13 ?_
  refine pO 1 8 (fun K hK => ?_)
  refine goes_ Tryz.func80 (by kernel_rfl) rfl #[.agg #[.int .u8 1, .int .u8 a1, .string a2, .int .i64 a3, .int .i64 a4, .int .i64 a5]] (by rfl) rfl rfl (by first | rfl | (simp only [q4, q5, q6]; rfl)) ?_
  refine (HB.out _).mono ?_
  rintro e w5 ⟨rfl, hb⟩
  refine ⟨_, rfl, ?_⟩
  refine hK.out _ _ (keep7 hHeld hb) (fun hHeld => ?_)
  clear hK K
  refine norm_ (a' := ?_) ?_ ?_
  rotate_left
  · show Act.put _ (some 8) _ = _
    simp only [Act.put, q1, q2, q3, i64_w, i32_w]
    rfl
  refine pP 7 14 ?_
  refine pP 8 15 ?_
  cases c1
  · refine pU 9 16 ?_
    refine pU 10 17 ?_
    refine pU 11 18 ?_
    refine pP 12 19 ?_
    refine pP 13 20 ?_
    refine pU 14 21 ?_
    refine pU 15 22 ?_
    refine pU 16 23 ?_
    refine pP 17 24 ?_
    refine pP 18 2 ?_
    refine done_ (done_of HT_.out (by kernel_rfl)) ?_
    go_wp2
    go_ret
    exact ⟨by first | rfl | (simp; done), hHeld.1⟩
  · refine pP 9 16 ?_
    refine pT 10 17 ?_
    refine pP 11 18 ?_
    refine pP 12 19 ?_
    refine pP 13 20 ?_
    cases c2
    · refine pU 14 21 ?_
      refine pU 15 22 ?_
      refine pU 16 23 ?_
      refine pP 17 24 ?_
      refine pP 18 2 ?_
      refine done_ (done_of HT_.out (by kernel_rfl)) ?_
      go_wp2
      go_ret
      exact ⟨by first | rfl | (simp; done), hHeld.1⟩
    · refine pP 14 21 ?_
      refine pT 15 22 ?_
      refine pP 16 23 ?_
      refine pP 17 24 ?_
      refine pP 18 2 ?_
      refine done_ (done_of HT_.out (by kernel_rfl)) ?_
      go_wp2
      go_ret
      exact ⟨by first | rfl | (simp; done), hHeld.1⟩
set_option maxRecDepth 100000 in
set_option maxHeartbeats 8000000 in
theorem ast_summed.at2 (a1 : Int) (a2 : ByteArray) (a3 a4 a5 b0 b1 : Int) (b2 : ByteArray) (b3 b4 b5 : Int) (c1 c2 c3 c4 c9 : Bool) (w : World) (HB : ∀ W : World, Calls Tryz.prog 80 #[.agg #[.int .u8 2, .int .u8 a1, .string a2, .int .i64 a3, .int .i64 a4, .int .i64 a5]] W fun e w' => e = .returned (.agg #[.int .u8 b0, .int .u8 b1, .string b2, .int .i64 b3, .int .i64 b4, .int .i64 b5]) ∧ Below W.heap.size W w') (HW : ∀ W : World, Below w.heap.size w W → Calls Tryz.prog 48 #[.string a2] W fun e w' => e = .returned (.bool c9) ∧ Below W.heap.size W w') (h1 : (b0 == 2 && (b1 == a1 && (b2.toList == a2.toList && (b3 == 0 && (b4 == 0 && b5 == 0))))) = c1)  (h2 : (a4 == 0) = c2) (h3 : decide (a1 ≥ 1) = c3) (h3b : decide (1 ≤ a1) = c3) (h4 : decide (a1 ≤ 8) = c4) :
    Calls Tryz.prog 33 #[.agg #[.int .u8 2, .int .u8 a1, .string a2, .int .i64 a3, .int .i64 a4, .int .i64 a5]] w fun e w' => e = .returned (.bool (c1 && c2 && c3 && c4 && c9)) ∧ Below w.heap.size w w' := by
  have hu := Tryz.underlying56
  have hu2 := Tryz.underlying25
  replace HB := Aside0.mk HB
  replace HW := Aside0.mk HW
  go_enter Tryz.func33, Tryz.ntmps33
  go_wp2_with (first | ((with_reducible refine gate_dst (N := 1) rfl ?_); refine box_event ?hg (N := 1) ?hd (cs := #[.int .u8 2, .int .u8 a1, .string a2, .int .i64 a3, .int .i64 a4, .int .i64 a5]) (t := 56) ?hr ?_; (case hd => rfl); (case hg => rfl); (case hr => first | (go_simp; done) | (go_simp; rfl)); intro gb hg w6 hbox hb; (clear hg); have HX := Aside0.mk (box7 hb hbox); obtain ⟨_, z0, z1, z2, z3, z4, z5⟩ := box6 hb hbox; have HZ := Aside0.mk hb; (clear hb hbox)))
  refine start_ (n := 31) (S := fun W => Below w.heap.size w W ∧ W.cell? ⟨gb, 0, none⟩ = some (.int .u8 2) ∧ W.cell? ⟨gb, 1, none⟩ = some (.int .u8 a1) ∧ W.cell? ⟨gb, 2, none⟩ = some (.string a2) ∧ W.cell? ⟨gb, 3, none⟩ = some (.int .i64 a3) ∧ W.cell? ⟨gb, 4, none⟩ = some (.int .i64 a4) ∧ W.cell? ⟨gb, 5, none⟩ = some (.int .i64 a5)) (ds := []) #[false, false, false, false, false, false, false, false, false, false, false, false, false, false, false, false, false, false, false, false, false, false, false, false, false, false, false, false, false, false, false] (by kernel_rfl) rfl rfl HX.out (fun hHeld => ?_)
  refine with_tabW ast_summed.r5.tab ast_summed.r5.bits (fun HT_ HW_ => ?_)
  refine pT 0 27 ?_
  refine pP 2 29 ?_
  refine pT 3 30 ?_
  refine pP 4 31 ?_
  refine pT 5 32 ?_
  refine pP 6 33 ?_
  refine pT 7 34 ?_
  refine pP 8 35 ?_
  refine pO 1 28 (fun K hK => ?_)
  refine goes_ Tryz.func80 (by kernel_rfl) rfl #[.agg #[.int .u8 2, .int .u8 a1, .string a2, .int .i64 a3, .int .i64 a4, .int .i64 a5]] (by rfl) rfl rfl (by first | rfl | (simp only [q4, q5, q6]; rfl)) ?_
  refine (HB.out _).mono ?_
  rintro e w5 ⟨rfl, hb⟩
  refine ⟨_, rfl, ?_⟩
  refine hK.out _ _ (keep7 hHeld hb) (fun hHeld => ?_)
  clear hK K
  refine norm_ (a' := ?_) ?_ ?_
  rotate_left
  · show Act.put _ (some 28) _ = _
    simp only [Act.put, q1, q2, q3, i64_w, i32_w]
    rfl
  refine pP 9 36 ?_
  refine pP 10 37 ?_
  cases c1
  · refine pU 11 38 ?_
    refine pU 12 39 ?_
    refine pU 13 40 ?_
    refine pP 14 41 ?_
    refine pP 15 42 ?_
    refine pU 16 43 ?_
    refine pU 17 44 ?_
    refine pU 18 45 ?_
    refine pP 19 46 ?_
    refine pP 20 47 ?_
    refine pU 21 48 ?_
    refine pU 22 49 ?_
    refine pU 23 50 ?_
    refine pP 24 51 ?_
    refine pP 25 52 ?_
    refine pU 26 53 ?_
    refine pU 27 54 ?_
    refine pU 28 55 ?_
    refine pP 29 56 ?_
    refine pP 30 2 ?_
    refine done_ (done_of HT_.out (by kernel_rfl)) ?_
    go_wp2
    go_ret
    exact ⟨by first | rfl | (simp; done), hHeld.1⟩
  · refine pP 11 38 ?_
    refine pT 12 39 ?_
    refine pP 13 40 ?_
    refine pP 14 41 ?_
    refine pP 15 42 ?_
    cases c2
    · refine pU 16 43 ?_
      refine pU 17 44 ?_
      refine pU 18 45 ?_
      refine pP 19 46 ?_
      refine pP 20 47 ?_
      refine pU 21 48 ?_
      refine pU 22 49 ?_
      refine pU 23 50 ?_
      refine pP 24 51 ?_
      refine pP 25 52 ?_
      refine pU 26 53 ?_
      refine pU 27 54 ?_
      refine pU 28 55 ?_
      refine pP 29 56 ?_
      refine pP 30 2 ?_
      refine done_ (done_of HT_.out (by kernel_rfl)) ?_
      go_wp2
      go_ret
      exact ⟨by first | rfl | (simp; done), hHeld.1⟩
    · refine pP 16 43 ?_
      refine pT 17 44 ?_
      refine pP 18 45 ?_
      refine pP 19 46 ?_
      refine pP 20 47 ?_
      cases c3
      · refine pU 21 48 ?_
        refine pU 22 49 ?_
        refine pU 23 50 ?_
        refine pP 24 51 ?_
        refine pP 25 52 ?_
        refine pU 26 53 ?_
        refine pU 27 54 ?_
        refine pU 28 55 ?_
        refine pP 29 56 ?_
        refine pP 30 2 ?_
        refine done_ (done_of HT_.out (by kernel_rfl)) ?_
        go_wp2
        go_ret
        exact ⟨by first | rfl | (simp; done), hHeld.1⟩
      · refine pP 21 48 ?_
        refine pT 22 49 ?_
        refine pP 23 50 ?_
        refine pP 24 51 ?_
        refine pP 25 52 ?_
        cases c4
        · refine pU 26 53 ?_
          refine pU 27 54 ?_
          refine pU 28 55 ?_
          refine pP 29 56 ?_
          refine pP 30 2 ?_
          refine done_ (done_of HT_.out (by kernel_rfl)) ?_
          go_wp2
          go_ret
          exact ⟨by first | rfl | (simp; done), hHeld.1⟩
        · refine pP 26 53 ?_
          refine pT 27 54 ?_
          refine pO 28 55 (fun K hK => ?_)
          refine goes_ Tryz.func48 (by kernel_rfl) rfl #[.string a2] (by rfl) rfl rfl (by first | rfl | (simp only [q4, q5, q6]; rfl)) ?_
          refine (HW.out _ hHeld.1).mono ?_
          rintro e w6 ⟨rfl, hb⟩
          refine ⟨_, rfl, ?_⟩
          refine hK.out _ _ (keep7 hHeld hb) (fun hHeld => ?_)
          clear hK K
          refine norm_ (a' := ?_) ?_ ?_
          rotate_left
          · show Act.put _ (some 55) _ = _
            simp only [Act.put, q1, q2, q3, i64_w, i32_w]
            rfl
          refine pP 29 56 ?_
          refine pP 30 2 ?_
          refine done_ (done_of HT_.out (by kernel_rfl)) ?_
          go_wp2
          go_ret
          exact ⟨by first | rfl | (simp; done), hHeld.1⟩
set_option maxRecDepth 100000 in
set_option maxHeartbeats 8000000 in
theorem ast_summed.at3 (a1 : Int) (a2 : ByteArray) (a3 a4 a5 b0 b1 : Int) (b2 : ByteArray) (b3 b4 b5 : Int) (c1 c2 : Bool) (w : World) (HB : ∀ W : World, Calls Tryz.prog 80 #[.agg #[.int .u8 3, .int .u8 a1, .string a2, .int .i64 a3, .int .i64 a4, .int .i64 a5]] W fun e w' => e = .returned (.agg #[.int .u8 b0, .int .u8 b1, .string b2, .int .i64 b3, .int .i64 b4, .int .i64 b5]) ∧ Below W.heap.size W w') (h1 : (b0 == 3 && (b1 == 0 && (b2.toList.isEmpty && (b3 == 0 && (b4 == 0 && b5 == 0))))) = c1) (h1b : (b0 == 3 && (b1 == 0 && (b2.toList == ([] : List UInt8) && (b3 == 0 && (b4 == 0 && b5 == 0))))) = c1) (h2 : (a4 == 1) = c2) :
    Calls Tryz.prog 33 #[.agg #[.int .u8 3, .int .u8 a1, .string a2, .int .i64 a3, .int .i64 a4, .int .i64 a5]] w fun e w' => e = .returned (.bool (c1 && c2)) ∧ Below w.heap.size w w' := by
  have hu := Tryz.underlying56
  have hu2 := Tryz.underlying25
  replace HB := Aside0.mk HB
  go_enter Tryz.func33, Tryz.ntmps33
  go_wp2_with (first | ((with_reducible refine gate_dst (N := 1) rfl ?_); refine box_event ?hg (N := 1) ?hd (cs := #[.int .u8 3, .int .u8 a1, .string a2, .int .i64 a3, .int .i64 a4, .int .i64 a5]) (t := 56) ?hr ?_; (case hd => rfl); (case hg => rfl); (case hr => first | (go_simp; done) | (go_simp; rfl)); intro gb hg w6 hbox hb; (clear hg); have HX := Aside0.mk (box7 hb hbox); obtain ⟨_, z0, z1, z2, z3, z4, z5⟩ := box6 hb hbox; have HZ := Aside0.mk hb; (clear hb hbox)))
  refine start_ (n := 12) (S := fun W => Below w.heap.size w W ∧ W.cell? ⟨gb, 0, none⟩ = some (.int .u8 3) ∧ W.cell? ⟨gb, 1, none⟩ = some (.int .u8 a1) ∧ W.cell? ⟨gb, 2, none⟩ = some (.string a2) ∧ W.cell? ⟨gb, 3, none⟩ = some (.int .i64 a3) ∧ W.cell? ⟨gb, 4, none⟩ = some (.int .i64 a4) ∧ W.cell? ⟨gb, 5, none⟩ = some (.int .i64 a5)) (ds := []) #[false, false, false, false, false, false, false, false, false, false, false, false] (by kernel_rfl) rfl rfl HX.out (fun hHeld => ?_)
  refine with_tabW ast_summed.r7.tab ast_summed.r7.bits (fun HT_ HW_ => ?_)
  refine pT 0 59 ?_
  refine pP 2 61 ?_
  refine pT 3 62 ?_
  refine pP 4 63 ?_
  refine pO 1 60 (fun K hK => ?_)
  refine goes_ Tryz.func80 (by kernel_rfl) rfl #[.agg #[.int .u8 3, .int .u8 a1, .string a2, .int .i64 a3, .int .i64 a4, .int .i64 a5]] (by rfl) rfl rfl (by first | rfl | (simp only [q4, q5, q6]; rfl)) ?_
  refine (HB.out _).mono ?_
  rintro e w5 ⟨rfl, hb⟩
  refine ⟨_, rfl, ?_⟩
  refine hK.out _ _ (keep7 hHeld hb) (fun hHeld => ?_)
  clear hK K
  refine norm_ (a' := ?_) ?_ ?_
  rotate_left
  · show Act.put _ (some 60) _ = _
    simp only [Act.put, q1, q2, q3, i64_w, i32_w]
    rfl
  refine pP 5 64 ?_
  refine pP 6 65 ?_
  cases c1
  · refine pU 7 66 ?_
    refine pU 8 67 ?_
    refine pU 9 68 ?_
    refine pP 10 69 ?_
    refine pP 11 2 ?_
    refine done_ (done_of HT_.out (by kernel_rfl)) ?_
    go_wp2
    go_ret
    exact ⟨by first | rfl | (simp; done), hHeld.1⟩
  · refine pP 7 66 ?_
    refine pT 8 67 ?_
    refine pP 9 68 ?_
    refine pP 10 69 ?_
    refine pP 11 2 ?_
    refine done_ (done_of HT_.out (by kernel_rfl)) ?_
    go_wp2
    go_ret
    exact ⟨by first | rfl | (simp; done), hHeld.1⟩
set_option maxRecDepth 100000 in
set_option maxHeartbeats 8000000 in
theorem ast_summed.at4 (a0 : Int) (a1 : Int) (a2 : ByteArray) (a3 a4 a5 b0 b1 : Int) (b2 : ByteArray) (b3 b4 b5 : Int) (c1 c2 : Bool) (w : World) (h0 : a0 = 4 ∨ a0 = 5 ∨ a0 = 6 ∨ a0 = 7 ∨ a0 = 8) (HB : ∀ W : World, Calls Tryz.prog 80 #[.agg #[.int .u8 a0, .int .u8 a1, .string a2, .int .i64 a3, .int .i64 a4, .int .i64 a5]] W fun e w' => e = .returned (.agg #[.int .u8 b0, .int .u8 b1, .string b2, .int .i64 b3, .int .i64 b4, .int .i64 b5]) ∧ Below W.heap.size W w') (h1 : (b0 == a0 && (b1 == 0 && (b2.toList.isEmpty && (b3 == 0 && (b4 == 0 && b5 == 0))))) = c1) (h1b : (b0 == a0 && (b1 == 0 && (b2.toList == ([] : List UInt8) && (b3 == 0 && (b4 == 0 && b5 == 0))))) = c1) (h2 : (a4 == 2) = c2) :
    Calls Tryz.prog 33 #[.agg #[.int .u8 a0, .int .u8 a1, .string a2, .int .i64 a3, .int .i64 a4, .int .i64 a5]] w fun e w' => e = .returned (.bool (c1 && c2)) ∧ Below w.heap.size w w' := by
  have hu := Tryz.underlying56
  have hu2 := Tryz.underlying25
  replace HB := Aside0.mk HB
  rcases h0 with h | h | h | h | h
  all_goals
    first | have m1 : (a0 == 1) = true := by rw [h]; rfl | have m1 : (a0 == 1) = false := by rw [h]; rfl
    first | have m2 : (a0 == 2) = true := by rw [h]; rfl | have m2 : (a0 == 2) = false := by rw [h]; rfl
    first | have m3 : (a0 == 3) = true := by rw [h]; rfl | have m3 : (a0 == 3) = false := by rw [h]; rfl
    first | have m4 : (a0 == 4) = true := by rw [h]; rfl | have m4 : (a0 == 4) = false := by rw [h]; rfl
    first | have m5 : (a0 == 5) = true := by rw [h]; rfl | have m5 : (a0 == 5) = false := by rw [h]; rfl
    first | have m6 : (a0 == 6) = true := by rw [h]; rfl | have m6 : (a0 == 6) = false := by rw [h]; rfl
    first | have m7 : (a0 == 7) = true := by rw [h]; rfl | have m7 : (a0 == 7) = false := by rw [h]; rfl
    first | have m8 : (a0 == 8) = true := by rw [h]; rfl | have m8 : (a0 == 8) = false := by rw [h]; rfl
    clear h
    go_enter Tryz.func33, Tryz.ntmps33
    go_wp2_with (first | ((with_reducible refine gate_dst (N := 1) rfl ?_); refine box_event ?hg (N := 1) ?hd (cs := #[.int .u8 a0, .int .u8 a1, .string a2, .int .i64 a3, .int .i64 a4, .int .i64 a5]) (t := 56) ?hr ?_; (case hd => rfl); (case hg => rfl); (case hr => first | (go_simp; done) | (go_simp; rfl)); intro gb hg w6 hbox hb; (clear hg); have HX := Aside0.mk (box7 hb hbox); obtain ⟨_, z0, z1, z2, z3, z4, z5⟩ := box6 hb hbox; have HZ := Aside0.mk hb; (clear hb hbox)))
    refine start_ (n := 12) (S := fun W => Below w.heap.size w W ∧ W.cell? ⟨gb, 0, none⟩ = some (.int .u8 a0) ∧ W.cell? ⟨gb, 1, none⟩ = some (.int .u8 a1) ∧ W.cell? ⟨gb, 2, none⟩ = some (.string a2) ∧ W.cell? ⟨gb, 3, none⟩ = some (.int .i64 a3) ∧ W.cell? ⟨gb, 4, none⟩ = some (.int .i64 a4) ∧ W.cell? ⟨gb, 5, none⟩ = some (.int .i64 a5)) (ds := []) #[false, false, false, false, false, false, false, false, false, false, false, false] (by kernel_rfl) rfl rfl HX.out (fun hHeld => ?_)
    refine with_tabW ast_summed.r13.tab ast_summed.r13.bits (fun HT_ HW_ => ?_)
    refine pT 0 76 ?_
    refine pP 2 78 ?_
    refine pT 3 79 ?_
    refine pP 4 80 ?_
    refine pO 1 77 (fun K hK => ?_)
    refine goes_ Tryz.func80 (by kernel_rfl) rfl #[.agg #[.int .u8 a0, .int .u8 a1, .string a2, .int .i64 a3, .int .i64 a4, .int .i64 a5]] (by rfl) rfl rfl (by first | rfl | (simp only [q4, q5, q6]; rfl)) ?_
    refine (HB.out _).mono ?_
    rintro e w5 ⟨rfl, hb⟩
    refine ⟨_, rfl, ?_⟩
    refine hK.out _ _ (keep7 hHeld hb) (fun hHeld => ?_)
    clear hK K
    refine norm_ (a' := ?_) ?_ ?_
    rotate_left
    · show Act.put _ (some 77) _ = _
      simp only [Act.put, q1, q2, q3, i64_w, i32_w]
      rfl
    refine pP 5 81 ?_
    refine pP 6 82 ?_
    cases c1
    · refine pU 7 83 ?_
      refine pU 8 84 ?_
      refine pU 9 85 ?_
      refine pP 10 86 ?_
      refine pP 11 2 ?_
      refine done_ (done_of HT_.out (by kernel_rfl)) ?_
      go_wp2
      go_ret
      exact ⟨by first | rfl | (simp; done), hHeld.1⟩
    · refine pP 7 83 ?_
      refine pT 8 84 ?_
      refine pP 9 85 ?_
      refine pP 10 86 ?_
      refine pP 11 2 ?_
      refine done_ (done_of HT_.out (by kernel_rfl)) ?_
      go_wp2
      go_ret
      exact ⟨by first | rfl | (simp; done), hHeld.1⟩
set_option maxRecDepth 100000 in
set_option maxHeartbeats 8000000 in
theorem ast_summed.at0 (a0 a1 : Int) (a2 : ByteArray) (a3 a4 a5 : Int) (w : World) (n1 : (a0 == 1) = false) (n2 : (a0 == 2) = false) (n3 : (a0 == 3) = false) (n4 : (a0 == 4) = false) (n5 : (a0 == 5) = false) (n6 : (a0 == 6) = false) (n7 : (a0 == 7) = false) (n8 : (a0 == 8) = false) :
    Calls Tryz.prog 33 #[.agg #[.int .u8 a0, .int .u8 a1, .string a2, .int .i64 a3, .int .i64 a4, .int .i64 a5]] w fun e w' => e = .returned (.bool false) ∧ Below w.heap.size w w' := by
  have hu := Tryz.underlying56
  go_enter Tryz.func33, Tryz.ntmps33
  go_wp2_with (first | ((with_reducible refine gate_dst (N := 1) rfl ?_); refine box_event ?hg (N := 1) ?hd (cs := #[.int .u8 a0, .int .u8 a1, .string a2, .int .i64 a3, .int .i64 a4, .int .i64 a5]) (t := 56) ?hr ?_; (case hd => rfl); (case hg => rfl); (case hr => first | (go_simp; done) | (go_simp; rfl)); intro gb hg w6 hbox hb; (clear hg); have HX := Aside0.mk (box7 hb hbox); obtain ⟨_, z0, z1, z2, z3, z4, z5⟩ := box6 hb hbox; have HZ := Aside0.mk hb; (clear hb hbox)))
  go_wp2
  go_ret
  exact ⟨rfl, HZ.out⟩
end
def ast_summed.f (a0 a1 : Int) (a2 : ByteArray) (a3 a4 a5 : Int) : Option Bool := (ast_word.f a2).bind fun c9 => some (sumB a0 a1 a2 a3 a4 c9)
theorem ast_summed.calls (a0 a1 : Int) (a2 : ByteArray) (a3 a4 a5 : Int) (r : Bool) (w : World) (hG : Globs w) (h : ast_summed.f a0 a1 a2 a3 a4 a5 = some r) :
    Calls Tryz.prog 33 #[.agg #[.int .u8 a0, .int .u8 a1, .string a2, .int .i64 a3, .int .i64 a4, .int .i64 a5]] w fun e w' => e = .returned (.bool r) ∧ Below w.heap.size w w' := by
  unfold ast_summed.f at h
  obtain ⟨c9, hw, h⟩ := Option.bind_eq_some_iff.mp h
  obtain rfl := Option.some.inj h
  have HW := fun (W : World) (hb : Below w.heap.size w W) => ast_word.calls a2 c9 W (hG.below hb) hw
  have HB := fun (W : World) => ast_bare.calls a0 a1 a2 a3 a4 a5 _ _ _ _ _ _ W rfl
  unfold sumB
  by_cases o1 : a0 = 1
  · subst o1
    simpa using ast_summed.at1 a1 a2 a3 a4 a5 1 a1 a2 a3 0 0 _ _ _ w HB rfl (by simp [isE]) rfl rfl rfl
  · by_cases o2 : a0 = 2
    · subst o2
      simpa using ast_summed.at2 a1 a2 a3 a4 a5 2 a1 a2 a3 0 0 _ _ _ _ c9 w HB HW rfl rfl rfl rfl rfl
    · by_cases o3 : a0 = 3
      · subst o3
        simpa [Bool.and_assoc] using ast_summed.at3 a1 a2 a3 a4 a5 3 a1 a2 a3 0 0 _ _ w HB rfl (by simp [isE]) rfl
      · by_cases o4 : 4 ≤ a0 ∧ a0 ≤ 8
        · simpa [o1, o2, o3, o4, Bool.and_assoc] using ast_summed.at4 a0 a1 a2 a3 a4 a5 a0 a1 a2 a3 0 0 _ _ w (by omega) HB rfl (by simp [isE]) rfl
        · rw [if_neg o1, if_neg o2, if_neg o3, if_neg o4]
          exact ast_summed.at0 a0 a1 a2 a3 a4 a5 w (by simpa using o1) (by simpa using o2) (by simpa using o3) (by simp; omega) (by simp; omega) (by simp; omega) (by simp; omega) (by simp; omega)

end Go.Proofs.YtlbjfomcgbiagaaGreatDoor.Print
