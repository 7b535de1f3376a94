-- Made by wip/mkprint.sh of this repo over the kit's print.
import Derived.Test.YtlbjfomcgbiagaaGreatDoorPrint0
namespace Go.Proofs.YtlbjfomcgbiagaaGreatDoor.Print
open Go.RowKit Go.Proofs.YtlbjfomcgbiagaaGreatDoorW.PrintWords Go.Proofs.YtlbjfomcgbiagaaGreatDoorW.PrintLast Go.Proofs Go.Proofs.YtlbjfomcgbiagaaGreatDoor Go.Proofs.YtlbjfomcgbiagaaGreatDoor.Base Go.Proofs.YtlbjfomcgbiagaaGreatDoorW.PrintMore
attribute [local go_sem] gtr_text max2_int min2_int max_two min_two max_three min_three max_four min_four   -- for this text's walks alone
set_option linter.unusedVariables false
set_option linter.unusedSimpArgs false

/-! ### weirref13_sign: function 71 -/
def weirref13_sign.f (a0 : Int) : Option (ByteArray) := if a0 = 4 then (some (⟨#[32, 43, 32]⟩ : ByteArray)) else (if a0 = 5 then (some (⟨#[32, 45, 32]⟩ : ByteArray)) else (if a0 = 6 then (some (⟨#[32, 42, 32]⟩ : ByteArray)) else (if a0 = 7 then (some (⟨#[32, 47, 32]⟩ : ByteArray)) else (if a0 = 8 then (some (⟨#[32, 37, 32]⟩ : ByteArray)) else (if a0 = 16 then (some (⟨#[32, 61, 32]⟩ : ByteArray)) else (if a0 = 17 then (some (⟨#[32, 33, 61, 32]⟩ : ByteArray)) else (if a0 = 18 then (some (⟨#[32, 60, 32]⟩ : ByteArray)) else (if a0 = 19 then (some (⟨#[32, 60, 61, 32]⟩ : ByteArray)) else (if a0 = 20 then (some (⟨#[32, 62, 32]⟩ : ByteArray)) else (if a0 = 21 then (some (⟨#[32, 62, 61, 32]⟩ : ByteArray)) else (if a0 = 14 then (some (⟨#[32, 65, 78, 68, 32]⟩ : ByteArray)) else (some (⟨#[32, 79, 82, 32]⟩ : ByteArray)))))))))))))
set_option maxHeartbeats 8000000 in
set_option maxRecDepth 100000 in
theorem weirref13_sign.calls (a0 : Int) (r : ByteArray) (w : World) (h : weirref13_sign.f a0 = some r) :
    Calls Tryz.prog 71 #[.int .u8 a0] w fun e w' => e = .returned (.string r) ∧ Drawn0 w w' := by
  have H : (if a0 = 4 then (some (⟨#[32, 43, 32]⟩ : ByteArray)) else (if a0 = 5 then (some (⟨#[32, 45, 32]⟩ : ByteArray)) else (if a0 = 6 then (some (⟨#[32, 42, 32]⟩ : ByteArray)) else (if a0 = 7 then (some (⟨#[32, 47, 32]⟩ : ByteArray)) else (if a0 = 8 then (some (⟨#[32, 37, 32]⟩ : ByteArray)) else (if a0 = 16 then (some (⟨#[32, 61, 32]⟩ : ByteArray)) else (if a0 = 17 then (some (⟨#[32, 33, 61, 32]⟩ : ByteArray)) else (if a0 = 18 then (some (⟨#[32, 60, 32]⟩ : ByteArray)) else (if a0 = 19 then (some (⟨#[32, 60, 61, 32]⟩ : ByteArray)) else (if a0 = 20 then (some (⟨#[32, 62, 32]⟩ : ByteArray)) else (if a0 = 21 then (some (⟨#[32, 62, 61, 32]⟩ : ByteArray)) else (if a0 = 14 then (some (⟨#[32, 65, 78, 68, 32]⟩ : ByteArray)) else (some (⟨#[32, 79, 82, 32]⟩ : ByteArray)))))))))))))) = some r := h
  clear h
  by_cases c2 : a0 = 4
  · rw [if_pos c2] at H
    have c2b0 : (a0 == 4) = true := beq_iff_eq.mpr c2
    have c2b1 : (a0 != 4) = false := bne_eq_false_iff_eq.mpr c2
    clear c2
    obtain rfl := Option.some.inj H
    go_enter Tryz.func71, Tryz.ntmps71
    go_wp2
    go_ret
    exact ⟨by first | rfl | (simp; done) | (simp [*]; done), by repeat (first | exact Drawn0.refl _ | apply Drawn0.step)⟩
  · rw [if_neg c2] at H
    have c2b0 : (a0 == 4) = false := beq_eq_false_iff_ne.mpr c2
    have c2b1 : (a0 != 4) = true := bne_iff_ne.mpr c2
    by_cases c3 : a0 = 5
    · rw [if_pos c3] at H
      have c3b0 : (a0 == 5) = true := beq_iff_eq.mpr c3
      have c3b1 : (a0 != 5) = false := bne_eq_false_iff_eq.mpr c3
      clear c3
      obtain rfl := Option.some.inj H
      go_enter Tryz.func71, Tryz.ntmps71
      go_wp2
      go_ret
      exact ⟨by first | rfl | (simp; done) | (simp [*]; done), by repeat (first | exact Drawn0.refl _ | apply Drawn0.step)⟩
    · rw [if_neg c3] at H
      have c3b0 : (a0 == 5) = false := beq_eq_false_iff_ne.mpr c3
      have c3b1 : (a0 != 5) = true := bne_iff_ne.mpr c3
      by_cases c4 : a0 = 6
      · rw [if_pos c4] at H
        have c4b0 : (a0 == 6) = true := beq_iff_eq.mpr c4
        have c4b1 : (a0 != 6) = false := bne_eq_false_iff_eq.mpr c4
        clear c4
        obtain rfl := Option.some.inj H
        go_enter Tryz.func71, Tryz.ntmps71
        go_wp2
        go_ret
        exact ⟨by first | rfl | (simp; done) | (simp [*]; done), by repeat (first | exact Drawn0.refl _ | apply Drawn0.step)⟩
      · rw [if_neg c4] at H
        have c4b0 : (a0 == 6) = false := beq_eq_false_iff_ne.mpr c4
        have c4b1 : (a0 != 6) = true := bne_iff_ne.mpr c4
        by_cases c5 : a0 = 7
        · rw [if_pos c5] at H
          have c5b0 : (a0 == 7) = true := beq_iff_eq.mpr c5
          have c5b1 : (a0 != 7) = false := bne_eq_false_iff_eq.mpr c5
          clear c5
          obtain rfl := Option.some.inj H
          go_enter Tryz.func71, Tryz.ntmps71
          go_wp2
          go_ret
          exact ⟨by first | rfl | (simp; done) | (simp [*]; done), by repeat (first | exact Drawn0.refl _ | apply Drawn0.step)⟩
        · rw [if_neg c5] at H
          have c5b0 : (a0 == 7) = false := beq_eq_false_iff_ne.mpr c5
          have c5b1 : (a0 != 7) = true := bne_iff_ne.mpr c5
          by_cases c6 : a0 = 8
          · rw [if_pos c6] at H
            have c6b0 : (a0 == 8) = true := beq_iff_eq.mpr c6
            have c6b1 : (a0 != 8) = false := bne_eq_false_iff_eq.mpr c6
            clear c6
            obtain rfl := Option.some.inj H
            go_enter Tryz.func71, Tryz.ntmps71
            go_wp2
            go_ret
            exact ⟨by first | rfl | (simp; done) | (simp [*]; done), by repeat (first | exact Drawn0.refl _ | apply Drawn0.step)⟩
          · rw [if_neg c6] at H
            have c6b0 : (a0 == 8) = false := beq_eq_false_iff_ne.mpr c6
            have c6b1 : (a0 != 8) = true := bne_iff_ne.mpr c6
            by_cases c7 : a0 = 16
            · rw [if_pos c7] at H
              have c7b0 : (a0 == 16) = true := beq_iff_eq.mpr c7
              have c7b1 : (a0 != 16) = false := bne_eq_false_iff_eq.mpr c7
              clear c7
              obtain rfl := Option.some.inj H
              go_enter Tryz.func71, Tryz.ntmps71
              go_wp2
              go_ret
              exact ⟨by first | rfl | (simp; done) | (simp [*]; done), by repeat (first | exact Drawn0.refl _ | apply Drawn0.step)⟩
            · rw [if_neg c7] at H
              have c7b0 : (a0 == 16) = false := beq_eq_false_iff_ne.mpr c7
              have c7b1 : (a0 != 16) = true := bne_iff_ne.mpr c7
              by_cases c8 : a0 = 17
              · rw [if_pos c8] at H
                have c8b0 : (a0 == 17) = true := beq_iff_eq.mpr c8
                have c8b1 : (a0 != 17) = false := bne_eq_false_iff_eq.mpr c8
                clear c8
                obtain rfl := Option.some.inj H
                go_enter Tryz.func71, Tryz.ntmps71
                go_wp2
                go_ret
                exact ⟨by first | rfl | (simp; done) | (simp [*]; done), by repeat (first | exact Drawn0.refl _ | apply Drawn0.step)⟩
              · rw [if_neg c8] at H
                have c8b0 : (a0 == 17) = false := beq_eq_false_iff_ne.mpr c8
                have c8b1 : (a0 != 17) = true := bne_iff_ne.mpr c8
                by_cases c9 : a0 = 18
                · rw [if_pos c9] at H
                  have c9b0 : (a0 == 18) = true := beq_iff_eq.mpr c9
                  have c9b1 : (a0 != 18) = false := bne_eq_false_iff_eq.mpr c9
                  clear c9
                  obtain rfl := Option.some.inj H
                  go_enter Tryz.func71, Tryz.ntmps71
                  go_wp2
                  go_ret
                  exact ⟨by first | rfl | (simp; done) | (simp [*]; done), by repeat (first | exact Drawn0.refl _ | apply Drawn0.step)⟩
                · rw [if_neg c9] at H
                  have c9b0 : (a0 == 18) = false := beq_eq_false_iff_ne.mpr c9
                  have c9b1 : (a0 != 18) = true := bne_iff_ne.mpr c9
                  by_cases c10 : a0 = 19
                  · rw [if_pos c10] at H
                    have c10b0 : (a0 == 19) = true := beq_iff_eq.mpr c10
                    have c10b1 : (a0 != 19) = false := bne_eq_false_iff_eq.mpr c10
                    clear c10
                    obtain rfl := Option.some.inj H
                    go_enter Tryz.func71, Tryz.ntmps71
                    go_wp2
                    go_ret
                    exact ⟨by first | rfl | (simp; done) | (simp [*]; done), by repeat (first | exact Drawn0.refl _ | apply Drawn0.step)⟩
                  · rw [if_neg c10] at H
                    have c10b0 : (a0 == 19) = false := beq_eq_false_iff_ne.mpr c10
                    have c10b1 : (a0 != 19) = true := bne_iff_ne.mpr c10
                    by_cases c11 : a0 = 20
                    · rw [if_pos c11] at H
                      have c11b0 : (a0 == 20) = true := beq_iff_eq.mpr c11
                      have c11b1 : (a0 != 20) = false := bne_eq_false_iff_eq.mpr c11
                      clear c11
                      obtain rfl := Option.some.inj H
                      go_enter Tryz.func71, Tryz.ntmps71
                      go_wp2
                      go_ret
                      exact ⟨by first | rfl | (simp; done) | (simp [*]; done), by repeat (first | exact Drawn0.refl _ | apply Drawn0.step)⟩
                    · rw [if_neg c11] at H
                      have c11b0 : (a0 == 20) = false := beq_eq_false_iff_ne.mpr c11
                      have c11b1 : (a0 != 20) = true := bne_iff_ne.mpr c11
                      by_cases c12 : a0 = 21
                      · rw [if_pos c12] at H
                        have c12b0 : (a0 == 21) = true := beq_iff_eq.mpr c12
                        have c12b1 : (a0 != 21) = false := bne_eq_false_iff_eq.mpr c12
                        clear c12
                        obtain rfl := Option.some.inj H
                        go_enter Tryz.func71, Tryz.ntmps71
                        go_wp2
                        go_ret
                        exact ⟨by first | rfl | (simp; done) | (simp [*]; done), by repeat (first | exact Drawn0.refl _ | apply Drawn0.step)⟩
                      · rw [if_neg c12] at H
                        have c12b0 : (a0 == 21) = false := beq_eq_false_iff_ne.mpr c12
                        have c12b1 : (a0 != 21) = true := bne_iff_ne.mpr c12
                        by_cases c13 : a0 = 14
                        · rw [if_pos c13] at H
                          have c13b0 : (a0 == 14) = true := beq_iff_eq.mpr c13
                          have c13b1 : (a0 != 14) = false := bne_eq_false_iff_eq.mpr c13
                          clear c13
                          obtain rfl := Option.some.inj H
                          go_enter Tryz.func71, Tryz.ntmps71
                          go_wp2
                          go_ret
                          exact ⟨by first | rfl | (simp; done) | (simp [*]; done), by repeat (first | exact Drawn0.refl _ | apply Drawn0.step)⟩
                        · rw [if_neg c13] at H
                          have c13b0 : (a0 == 14) = false := beq_eq_false_iff_ne.mpr c13
                          have c13b1 : (a0 != 14) = true := bne_iff_ne.mpr c13
                          obtain rfl := Option.some.inj H
                          go_enter Tryz.func71, Tryz.ntmps71
                          go_wp2
                          go_ret
                          exact ⟨by first | rfl | (simp; done) | (simp [*]; done), by repeat (first | exact Drawn0.refl _ | apply Drawn0.step)⟩

/-! ### weirref13_bracketed: function 69 -/
def weirref13_bracketed.f (a0 : ByteArray) (a1 : Bool) : Option (ByteArray) := if a1 = true then (if 1 + a0.size ≤ 9223372036854775807 then (if ((⟨#[40]⟩ : ByteArray) ++ a0).size + 1 ≤ 9223372036854775807 then (some (((⟨#[40]⟩ : ByteArray) ++ a0) ++ (⟨#[41]⟩ : ByteArray))) else (none)) else (none)) else (some a0)
set_option maxHeartbeats 8000000 in
set_option maxRecDepth 100000 in
theorem weirref13_bracketed.calls (a0 : ByteArray) (a1 : Bool) (r : ByteArray) (w : World) (h : weirref13_bracketed.f a0 a1 = some r) :
    Calls Tryz.prog 69 #[.string a0, .bool a1] w fun e w' => e = .returned (.string r) ∧ Drawn0 w w' := by
  have H : (if a1 = true then (if 1 + a0.size ≤ 9223372036854775807 then (if ((⟨#[40]⟩ : ByteArray) ++ a0).size + 1 ≤ 9223372036854775807 then (some (((⟨#[40]⟩ : ByteArray) ++ a0) ++ (⟨#[41]⟩ : ByteArray))) else (none)) else (none)) else (some a0)) = some r := h
  clear h
  by_cases c3 : a1 = true
  · subst c3
    have H1 : (if 1 + a0.size ≤ 9223372036854775807 then (if ((⟨#[40]⟩ : ByteArray) ++ a0).size + 1 ≤ 9223372036854775807 then (some (((⟨#[40]⟩ : ByteArray) ++ a0) ++ (⟨#[41]⟩ : ByteArray))) else (none)) else (none)) = some r := by rw [if_pos rfl] at H; exact H
    clear H
    have H := H1
    clear H1
    by_cases c4 : 1 + a0.size ≤ 9223372036854775807
    · rw [if_pos c4] at H
      have c4b0 := eq_true c4
      have c4b1 : decide (1 + a0.size ≤ 9223372036854775807) = true := decide_eq_true c4
      try have c4b2 : (9223372036854775807 < 1 + a0.size) = False := eq_false (Nat.not_lt.2 c4)
      by_cases c5 : ((⟨#[40]⟩ : ByteArray) ++ a0).size + 1 ≤ 9223372036854775807
      · rw [if_pos c5] at H
        have c5b0 := eq_true c5
        have c5b1 : decide (((⟨#[40]⟩ : ByteArray) ++ a0).size + 1 ≤ 9223372036854775807) = true := decide_eq_true c5
        try have c5b2 : (9223372036854775807 < ((⟨#[40]⟩ : ByteArray) ++ a0).size + 1) = False := eq_false (Nat.not_lt.2 c5)
        try have c5b3 : (9223372036854775807 < 1 + a0.size + 1) = False := eq_false (Nat.not_lt.2 (by have h_ := c5; simp only [ByteArray.size_append] at h_; exact h_))
        obtain rfl := Option.some.inj H
        go_enter Tryz.func69, Tryz.ntmps69
        go_wp2
        go_ret
        exact ⟨by first | rfl | (simp; done) | (simp [*]; done), by repeat (first | exact Drawn0.refl _ | apply Drawn0.step)⟩
      · rw [if_neg c5] at H
        exact absurd H (by simp)
    · rw [if_neg c4] at H
      exact absurd H (by simp)
  · replace c3 := Bool.eq_false_iff.mpr c3
    subst c3
    have H1 : (some a0) = some r := by rw [if_neg (show ¬ (false = true) by decide)] at H; exact H
    clear H
    have H := H1
    clear H1
    obtain rfl := Option.some.inj H
    go_enter Tryz.func69, Tryz.ntmps69
    go_wp2
    go_ret
    exact ⟨by first | rfl | (simp; done) | (simp [*]; done), by repeat (first | exact Drawn0.refl _ | apply Drawn0.step)⟩

end Go.Proofs.YtlbjfomcgbiagaaGreatDoor.Print
