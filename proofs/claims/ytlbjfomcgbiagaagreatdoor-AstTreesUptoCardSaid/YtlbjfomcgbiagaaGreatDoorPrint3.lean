-- Made by wip/mkprint.sh of this repo over the kit's print.
import Derived.Test.YtlbjfomcgbiagaaGreatDoorPrint0
import Derived.Test.YtlbjfomcgbiagaaGreatDoorPrint1
import Derived.Test.YtlbjfomcgbiagaaGreatDoorPrint2
namespace Go.Proofs.YtlbjfomcgbiagaaGreatDoor.Print
open Go.RowKit Go.Proofs.YtlbjfomcgbiagaaGreatDoorW.PrintWords Go.Proofs.YtlbjfomcgbiagaaGreatDoorW.PrintLast Go.Proofs Go.Proofs.YtlbjfomcgbiagaaGreatDoor Go.Proofs.YtlbjfomcgbiagaaGreatDoor.Base Go.Proofs.YtlbjfomcgbiagaaGreatDoorW.PrintMore
attribute [local go_sem] gtr_text max2_int min2_int max_two min_two max_three min_three max_four min_four   -- for this text's walks alone
set_option linter.unusedVariables false
set_option linter.unusedSimpArgs false

/-! ### ast_Sum: function 14 (its contract typed by hand) -/
/-- Is there a node that is none of a sum's? (The first one decides.) -/
def ast_Sum.wrong : List S56 → Option Bool
  | [] => some false
  | n :: l => (ast_summed.f n.f0 n.f1 n.f2 n.f3 n.f4 n.f5).bind fun b => if b = true then ast_Sum.wrong l else some true
def ast_Sum.f (k : Nat) (l0 : List (S56)) : Option (Option Int) := (ast_whole.f k l0).bind fun b => if b = true then ((ast_Sum.wrong l0).bind fun c => if c = true then some (some 130) else ast_deep.f k l0) else some (some 130)
theorem ast_Sum.mono : ∀ a0 k, LeO (ast_Sum.f k a0) (ast_Sum.f (k + 1) a0) := by
  intro a0 k
  unfold ast_Sum.f
  repeat' first
    | (with_reducible exact LeO.refl _)
    | (with_reducible exact LeO.none _)
    | (with_reducible exact ast_whole.mono _ _)
    | (with_reducible exact ast_deep.mono _ _)
    | (with_reducible refine LeO.ite ?_ ?_)
    | (with_reducible refine LeO.bind ?_ (fun _ => ?_))
/-- The function value 'wrong'. -/
theorem ast_Sum.closure (n : S56) (b : Bool) (w : World) (hG : Globs w) (h : ast_summed.f n.f0 n.f1 n.f2 n.f3 n.f4 n.f5 = some b) :
    Calls Tryz.prog 32 #[.agg #[.int .u8 n.f0, .int .u8 n.f1, .string n.f2, .int .i64 n.f3, .int .i64 n.f4, .int .i64 n.f5]] w fun e w' => e = .returned (.bool (!b)) ∧ Below w.heap.size w w' := by
  have hC := fun W (hb : Below w.heap.size w W) => ast_summed.calls n.f0 n.f1 n.f2 n.f3 n.f4 n.f5 b W (hG.below hb) h
  have HC := Aside0.mk hC
  clear hC hG h
  go_enter Tryz.func32, Tryz.ntmps32
  go_wp2_with (go_at_call 33; refine (HC.out _ (below_alloc (Below.refl _ _) _)).mono ?_; rintro e w1 ⟨rfl, hb1⟩)
  go_ret
  exact ⟨rfl, below_then (below_alloc (Below.refl _ _) _) (by simp) hb1⟩
set_option maxHeartbeats 1000000 in
set_option maxRecDepth 100000 in
theorem ast_Sum.index (A0 : Option Addr) (c0 : Nat) (l0 : List (S56)) (r : Bool) (w : World) (hG : Globs w) (hr0 : Kd.C k56 w A0 l0.length l0) (h : ast_Sum.wrong l0 = some r) :
    Calls Tryz.prog 82 #[.slice A0 l0.length c0, .func (.func 32) #[] #[]] w fun e w' => (∃ i : Int, e = .returned (.int .i64 i) ∧ decide (0 ≤ i) = r) ∧ Below w.heap.size w w' := by
  have HG := Aside0.mk hG
  have HR := Aside0.mk hr0
  have HH := Aside0.mk h
  clear hG hr0 h
  go_enter Tryz.func82, Tryz.ntmps82
  go_wp2
  go_loopw [4, 5, 8] (fun _ _ i wr => ∃ k : Nat, k ≤ l0.length ∧ i = .int .i64 k ∧ Aside0 (ast_Sum.wrong (l0.drop k) = some r) ∧ Aside0 (Below w.heap.size w wr)) (fun _ _ i _ => l0.length - (intOf i).toNat)
  case atStart => exact ⟨0, Nat.zero_le _, rfl, HH, ⟨Below.refl _ _⟩⟩
  case round =>
    clear HH
    obtain ⟨k, hk, rfl, HW, HB⟩ := hrel
    have hmax := Kd.C_max HR.out
    by_cases hlt : k < l0.length
    · obtain ⟨ad, rfl, hx0, hx1, hx2, hx3, hx4, hx5⟩ := at_T56 (Kd.C_below HR.out HB.out) (k : Int) (by omega) (by omega)
      simp only [Int.toNat_natCast] at hx0 hx1 hx2 hx3 hx4 hx5
      obtain ⟨n, hn⟩ : ∃ n, rd_T56 l0 (k : Int) = n := ⟨_, rfl⟩
      rw [hn] at hx0 hx1 hx2 hx3 hx4 hx5
      have hd : l0.drop k = n :: l0.drop (k + 1) := by
        rw [List.drop_eq_getElem_cons hlt, ← hn]
        simp [rd_T56, List.getD_eq_getElem?_getD, hlt]
      have hw := HW.out
      rw [hd, ast_Sum.wrong, Option.bind_eq_some_iff] at hw
      obtain ⟨b, hb, hw⟩ := hw
      have hC := ast_Sum.closure n b wr (HG.out.below HB.out) hb
      have HC := Aside0.mk hC
      have HW2 := Aside0.mk hw
      clear hn hd hb hC hw HW
      cases b with
      | true =>
        rw [if_pos rfl] at HW2
        go_wp2_with (go_at_call 32; refine HC.out.mono ?_; rintro e w1 ⟨rfl, hb1⟩)
        go_roundw
        case rel => exact ⟨k + 1, by omega, by go_num, HW2, ⟨below_then HB.out HB.out.size hb1⟩⟩
        case measure => simp [intOf]; omega
      | false =>
        obtain rfl : true = r := by simpa using HW2.out
        go_wp2_with (go_at_call 32; refine HC.out.mono ?_; rintro e w1 ⟨rfl, hb1⟩)
        go_ret
        exact ⟨⟨_, rfl, by simp⟩, below_then HB.out HB.out.size hb1⟩
    · obtain rfl : k = l0.length := by omega
      obtain rfl : false = r := by simpa [ast_Sum.wrong] using HW.out
      go_wp2
      go_ret
      exact ⟨⟨_, rfl, by simp⟩, HB.out⟩
set_option maxHeartbeats 1000000 in
set_option maxRecDepth 100000 in
theorem ast_Sum.contains (A0 : Option Addr) (c0 : Nat) (l0 : List (S56)) (r : Bool) (w : World) (hG : Globs w) (hr0 : Kd.C k56 w A0 l0.length l0) (h : ast_Sum.wrong l0 = some r) :
    Calls Tryz.prog 35 #[.slice A0 l0.length c0, .func (.func 32) #[] #[]] w fun e w' => e = .returned (.bool r) ∧ Below w.heap.size w w' := by
  have HI := Aside0.mk (ast_Sum.index A0 c0 l0 r w hG hr0 h)
  clear hG hr0 h
  go_enter Tryz.func35, Tryz.ntmps35
  go_wp2_with (go_at_call 82; refine HI.out.mono ?_; rintro e w1 ⟨⟨i, rfl, hi⟩, hb1⟩; have HD := Aside0.mk hi; clear hi)
  go_ret
  exact ⟨by rw [← HD.out]; rfl, hb1⟩
set_option maxHeartbeats 1000000 in
set_option maxRecDepth 100000 in
theorem ast_Sum.calls (k : Nat) (A0 : Option Addr) (c0 : Nat) (l0 : List (S56)) (r : Option Int) (w : World) (hr0 : Kd.C k56 w A0 l0.length l0) (hc0 : l0.length ≤ c0) (hG : Globs w) (h : ast_Sum.f k l0 = some r) :
    Calls Tryz.prog 14 #[.slice A0 l0.length c0] w fun e w' => e = .returned (errW r) ∧ Below w.heap.size w w' := by
  unfold ast_Sum.f at h
  obtain ⟨b, hb, h⟩ := Option.bind_eq_some_iff.1 h
  have hW := fun W (hw : Below w.heap.size w W) => ast_whole.calls k A0 c0 l0 b W (Kd.C_below hr0 hw) hc0 hb
  have HW := Aside0.mk hW
  have hN := fun W => fault_New.calls 130 (some 130) W rfl
  have HN := Aside0.mk hN
  clear hW hb hN
  simp only [errW_some] at HN
  cases b with
  | false =>
    obtain rfl : some 130 = r := by simpa using h
    rw [errW_some]
    go_enter Tryz.func14, Tryz.ntmps14
    go_wp2_with (first | (go_at_call 34; refine (HW.out _ (Below.refl _ _)).mono ?_; rintro e w1 ⟨rfl, hd1⟩; have HD1 := Aside0.mk hd1.below; clear hd1) | (go_at_call 36; refine (HN.out _).mono ?_; rintro e w2 ⟨rfl, hd2⟩; have HD2 := Aside0.mk hd2.below; clear hd2))
    go_ret
    exact ⟨rfl, below_then HD1.out HD1.out.size HD2.out⟩
  | true =>
    rw [if_pos rfl] at h
    obtain ⟨c, hc, h⟩ := Option.bind_eq_some_iff.1 h
    have hI := fun W (hw : Below w.heap.size w W) => ast_Sum.contains A0 c0 l0 c W (hG.below hw) (Kd.C_below hr0 hw) hc
    have HI := Aside0.mk hI
    clear hI hc
    cases c with
    | true =>
      obtain rfl : some 130 = r := by simpa using h
      rw [errW_some]
      clear h
      go_enter Tryz.func14, Tryz.ntmps14
      go_wp2_with (first | (go_at_call 34; refine (HW.out _ (Below.refl _ _)).mono ?_; rintro e w1 ⟨rfl, hd1⟩; have HD1 := Aside0.mk hd1.below; clear hd1) | (go_at_call 35; refine (HI.out _ HD1.out).mono ?_; rintro e w3 ⟨rfl, hd3⟩; have HD3 := Aside0.mk (below_then HD1.out HD1.out.size hd3); clear hd3) | (go_at_call 36; refine (HN.out _).mono ?_; rintro e w2 ⟨rfl, hd2⟩; have HD2 := Aside0.mk hd2.below; clear hd2))
      go_ret
      exact ⟨rfl, below_then HD3.out HD3.out.size HD2.out⟩
    | false =>
      rw [if_neg (by simp)] at h
      have hP := fun W (hw : Below w.heap.size w W) => ast_deep.calls k A0 c0 l0 r W (Kd.C_below hr0 hw) hc0 h
      have HP := Aside0.mk hP
      clear hP h
      go_enter Tryz.func14, Tryz.ntmps14
      go_wp2_with (first | (go_at_call 34; refine (HW.out _ (Below.refl _ _)).mono ?_; rintro e w1 ⟨rfl, hd1⟩; have HD1 := Aside0.mk hd1.below; clear hd1) | (go_at_call 35; refine (HI.out _ HD1.out).mono ?_; rintro e w3 ⟨rfl, hd3⟩; have HD3 := Aside0.mk (below_then HD1.out HD1.out.size hd3); clear hd3) | (go_at_call 37; refine (HP.out _ HD3.out).mono ?_; rintro e w2 ⟨rfl, hd2⟩; have HD2 := Aside0.mk hd2; clear hd2))
      go_ret
      exact ⟨rfl, below_then HD3.out HD3.out.size HD2.out⟩

/-! ### key_Text: function 87 -/
def key_Text.f (a0 : ByteArray) : Option (Option Int) := (key_right.f a0 256).bind fun t125 => (if t125 = true then (some none) else ((fault_New.f 51).bind fun t126 => (some t126)))
set_option maxHeartbeats 8000000 in
set_option maxRecDepth 100000 in
theorem key_Text.calls (a0 : ByteArray) (r : Option Int) (w : World) (hG : Globs w) (h : key_Text.f a0 = some r) :
    Calls Tryz.prog 87 #[.string a0] w fun e w' => e = .returned (errW r) ∧ Below w.heap.size w w' := by
  have HG := Aside0.mk hG
  clear hG
  have HB := Aside0.mk (Below.refl w.heap.size w)
  have H : ((key_right.f a0 256).bind fun t125 => (if t125 = true then (some none) else ((fault_New.f 51).bind fun t126 => (some t126)))) = some r := h
  clear h
  replace H := Option.bind_eq_some_iff.mp H
  obtain ⟨t125, A20, H⟩ := H
  replace H : (if t125 = true then (some none) else ((fault_New.f 51).bind fun t126 => (some t126))) = some r := H
  have A2 := Aside0.mk A20
  clear A20
  by_cases c3 : t125 = true
  · subst c3
    have H1 : (some none) = some r := by rw [if_pos rfl] at H; exact H
    clear H
    have H := H1
    clear H1
    obtain rfl := Option.some.inj H
    go_enter Tryz.func87, Tryz.ntmps87
    go_wp2_with (first | ((with_reducible refine gate_callee (f := 96) rfl ?_); refine goesL_ (some 4) rfl rfl Tryz.func96 (by kernel_rfl) rfl #[.string a0, .int .i64 256] rfl (by (try simp only [List.map_toArray, List.map_cons, List.map_nil]); first | done | rfl | (simp only [List.length_drop, List.length_take]; rfl)) ?_; (with_reducible refine (key_right.calls a0 256 true _ ?side1 A2.out).mono ?_); (case side1 => exact Globs.below HG.out (by repeat (first | (with_reducible first | exact HB.out | apply below_alloc | apply pw_below_drewN | apply below_drew1) | exact HB.out))); rintro e w4 ⟨rfl, hb⟩; refine ⟨_, rfl, ?_⟩; have n0_ := Aside0.mk (below_step (by repeat (first | (with_reducible first | exact HB.out | apply below_alloc | apply pw_below_drewN | apply below_drew1) | exact HB.out)) hb); clear HB; have HB := n0_; clear n0_; (try clear hb); (try clear hb2); (try clear hk); (try clear hi)))
    go_ret
    exact ⟨by first | rfl | (simp [errW_none, errW_some] <;> rfl) | (simp [*, errW_none, errW_some] <;> rfl), by repeat (first | (with_reducible first | exact HB.out | apply below_alloc | apply pw_below_drewN | apply below_drew1) | exact HB.out)⟩
  · replace c3 := Bool.eq_false_iff.mpr c3
    subst c3
    have H1 : ((fault_New.f 51).bind fun t126 => (some t126)) = some r := by rw [if_neg (show ¬ (false = true) by decide)] at H; exact H
    clear H
    have H := H1
    clear H1
    replace H := Option.bind_eq_some_iff.mp H
    obtain ⟨t126, A50, H⟩ := H
    replace H : (some t126) = some r := H
    have A5 := Aside0.mk A50
    clear A50
    obtain rfl := Option.some.inj H
    go_enter Tryz.func87, Tryz.ntmps87
    go_wp2_with (first | ((with_reducible refine gate_callee (f := 96) rfl ?_); refine goesL_ (some 4) rfl rfl Tryz.func96 (by kernel_rfl) rfl #[.string a0, .int .i64 256] rfl (by (try simp only [List.map_toArray, List.map_cons, List.map_nil]); first | done | rfl | (simp only [List.length_drop, List.length_take]; rfl)) ?_; (with_reducible refine (key_right.calls a0 256 false _ ?side1 A2.out).mono ?_); (case side1 => exact Globs.below HG.out (by repeat (first | (with_reducible first | exact HB.out | apply below_alloc | apply pw_below_drewN | apply below_drew1) | exact HB.out))); rintro e w6 ⟨rfl, hb⟩; refine ⟨_, rfl, ?_⟩; have n0_ := Aside0.mk (below_step (by repeat (first | (with_reducible first | exact HB.out | apply below_alloc | apply pw_below_drewN | apply below_drew1) | exact HB.out)) hb); clear HB; have HB := n0_; clear n0_; (try clear hb); (try clear hb2); (try clear hk); (try clear hi)) | ((with_reducible refine gate_callee (f := 36) rfl ?_); refine goesL_ (some 6) rfl rfl Tryz.func36 (by kernel_rfl) rfl #[.int .i64 51] rfl (by (try simp only [List.map_toArray, List.map_cons, List.map_nil]); first | done | rfl | (simp only [List.length_drop, List.length_take]; rfl)) ?_; (with_reducible refine (fault_New.calls 51 t126 _ A5.out).mono ?_); rintro e w' ⟨rfl, ⟨nd, rfl⟩⟩; refine ⟨_, rfl, ?_⟩; (try simp only [errW_none, errW_some])))
    go_ret
    exact ⟨by first | rfl | (simp [errW_none, errW_some] <;> rfl) | (simp [*, errW_none, errW_some] <;> rfl), by repeat (first | (with_reducible first | exact HB.out | apply below_alloc | apply pw_below_drewN | apply below_drew1) | exact HB.out)⟩

end Go.Proofs.YtlbjfomcgbiagaaGreatDoor.Print
