/- weirlaw13.live: true. -/
import Derived.Test.YtlbjfomcgbiagaaGreatDoorConds
import Derived.Test.YtlbjfomcgbiagaaGreatDoorPrint6
set_option linter.unusedVariables false
set_option linter.unusedSimpArgs false
namespace Go.Proofs.YtlbjfomcgbiagaaGreatDoor.Live13
open Go Go.RowKit Go.Proofs.YtlbjfomcgbiagaaGreatDoorW.PrintWords Go.Proofs.YtlbjfomcgbiagaaGreatDoorW.PrintLast Go.Proofs Go.Proofs.YtlbjfomcgbiagaaGreatDoor Go.Proofs.YtlbjfomcgbiagaaGreatDoor.Base Go.Proofs.YtlbjfomcgbiagaaGreatDoorW.PrintMore Go.Proofs.YtlbjfomcgbiagaaGreatDoor.Print Go.Proofs.YtlbjfomcgbiagaaGreatDoor.CondT Go.Proofs.YtlbjfomcgbiagaaGreatDoor.SumT Go.Proofs.YtlbjfomcgbiagaaGreatDoor.Conds

def weirboth_Is.f (a0 : Option Int) (a1 : Int) : Option Bool := some (match a0 with | none => a1 == 0 | some c => !(a1 == 0) && (c == a1))
set_option maxHeartbeats 1000000 in
set_option maxRecDepth 100000 in
theorem weirboth_Is.calls (a0 : Option Int) (a1 : Int) (r : Bool) (w : World) (hG : Globs w) (h : weirboth_Is.f a0 a1 = some r) :
    Calls Tryz.prog 30 #[errW a0, .int .i64 a1] w fun e w' => e = .returned (.bool r) ∧ Below w.heap.size w w' := by
  obtain rfl := Option.some.inj h
  have HG := Aside0.mk hG
  clear hG h
  cases a0 with
  | none =>
    rw [errW_none]
    by_cases hz : a1 = 0
    · subst hz
      go_enter Tryz.func30, Tryz.ntmps30
      go_wp2
      go_ret
      exact ⟨rfl, below_alloc (Below.refl _ _) _⟩
    · have hb : (a1 == 0) = false := beq_eq_false_iff_ne.mpr hz
      have HB := Aside0.mk hb
      clear hz
      go_enter Tryz.func30, Tryz.ntmps30
      go_wp2
      go_ret
      exact ⟨by rw [HB.out]; rfl, below_alloc (Below.refl _ _) _⟩
  | some c =>
    rw [errW_some]
    by_cases hz : a1 = 0
    · subst hz
      go_enter Tryz.func30, Tryz.ntmps30
      go_wp2
      go_ret
      exact ⟨rfl, below_alloc (Below.refl _ _) _⟩
    · have hb : (a1 == 0) = false := beq_eq_false_iff_ne.mpr hz
      have HB := Aside0.mk hb
      clear hz
      have hA := As.as_hit c ⟨w.heap.size, 0, none⟩ (.int .i64 0) (w.alloc (.cells #[.int .i64 0] 28)) ((HG.out.below (below_alloc (Below.refl _ _) _)).err) (by simp) (by simp)
      go_enter Tryz.func30, Tryz.ntmps30
      go_wp2_with fail
      clear HG
      refine hA.mono ?_
      rintro e w2 ⟨rfl, w1, hb1, rfl⟩
      clear hA
      have hc : (w1.setCell ⟨w.heap.size, 0, none⟩ (.int .i64 c)).cell? ⟨w.heap.size, 0, none⟩ = some (.int .i64 c) := by
        have h1 := (hb1.cell (p := ⟨w.heap.size, 0, none⟩) (by simp)).trans (show (w.alloc (.cells #[.int .i64 0] 28)).cell? ⟨w.heap.size, 0, none⟩ = some (.int .i64 0) by simp)
        exact World.cell?_setCell_same _ _ _ h1
      go_wp2
      go_ret
      refine ⟨by simp [HB.out], ?_⟩
      exact Below.setCell (below_then (below_alloc (Below.refl _ _) _) (by simp) hb1) (Nat.le_refl _) _
/-- The sum that live prints: 1 + mean(v). -/
def sum3 : List ND := [⟨4, 0, ⟨#[]⟩, 0, 2, 0⟩, ⟨1, 0, ⟨#[]⟩, 1, 0, 0⟩, ⟨2, 3, ⟨#[118]⟩, 0, 0, 0⟩]
def cells3 : Array Value := #[.int .u8 4, .int .u8 0, .string ⟨#[]⟩, .int .i64 0, .int .i64 2, .int .i64 0, .int .u8 1, .int .u8 0, .string ⟨#[]⟩, .int .i64 1, .int .i64 0, .int .i64 0, .int .u8 2, .int .u8 3, .string ⟨#[118]⟩, .int .i64 0, .int .i64 0, .int .i64 0]
theorem sum3_lies (w : World) : Kd.C k56 (w.alloc (.cells cells3 56)) (some ⟨w.heap.size, 0, none⟩) sum3.length sum3 := by
  have h := Rep.alloc_new w (.cells cells3 56)
  refine ⟨rfl, by decide, fun _ => ⟨_, rfl, fun j p hj => ?_⟩⟩
  refine ⟨[.int .u8 p.f0, .int .u8 p.f1, .string p.f2, .int .i64 p.f3, .int .i64 p.f4, .int .i64 p.f5], rfl, k56_mk _ p, fun i u hu => ?_⟩
  rw [Fits.add_any, Nat.zero_add, cell_of h]
  have hj3 : j < 3 := (List.getElem?_eq_some_iff.1 hj).1
  have hi6 : i < 6 := (List.getElem?_eq_some_iff.1 hu).1
  match j, hj3 with
  | 0, _ =>
    obtain rfl : ⟨4, 0, ⟨#[]⟩, 0, 2, 0⟩ = p := Option.some.inj hj
    match i, hi6 with
    | 0, _ => exact hu
    | 1, _ => exact hu
    | 2, _ => exact hu
    | 3, _ => exact hu
    | 4, _ => exact hu
    | 5, _ => exact hu
  | 1, _ =>
    obtain rfl : ⟨1, 0, ⟨#[]⟩, 1, 0, 0⟩ = p := Option.some.inj hj
    match i, hi6 with
    | 0, _ => exact hu
    | 1, _ => exact hu
    | 2, _ => exact hu
    | 3, _ => exact hu
    | 4, _ => exact hu
    | 5, _ => exact hu
  | 2, _ =>
    obtain rfl : ⟨2, 3, ⟨#[118]⟩, 0, 0, 0⟩ = p := Option.some.inj hj
    match i, hi6 with
    | 0, _ => exact hu
    | 1, _ => exact hu
    | 2, _ => exact hu
    | 3, _ => exact hu
    | 4, _ => exact hu
    | 5, _ => exact hu
theorem sum3_right : ast_Sum.f 40 sum3 = some none := by kernel_rfl
theorem nil_wrong : ast_Sum.f 40 [] = some (some 130) := by kernel_rfl
theorem kids0 : ast_Kids.f 40 sum3 0 = some [1, 2] := by kernel_rfl
theorem kids1 : ast_Kids.f 40 sum3 1 = some [] := by kernel_rfl
theorem kids2 : ast_Kids.f 40 sum3 2 = some [] := by kernel_rfl
theorem quote_v : lex_Quote.f 40 ⟨#[118]⟩ = some ⟨#[118]⟩ := by kernel_rfl
theorem one_text : strconv_FormatInt.f 1 10 = some ⟨#[49]⟩ := by kernel_rfl
theorem mean_text : ast_name.f 3 = some ⟨#[109, 101, 97, 110]⟩ := by kernel_rfl
theorem plus_text : ast_sign.f 4 = some ⟨#[43]⟩ := by kernel_rfl
theorem st1 : ST sum3 1 ⟨#[49]⟩ :=
  .mk 1 ⟨#[49]⟩ [] [] (by decide) (by decide) 40 kids1 rfl (fun j p t h => by simp at h) ⟨fun t h => by simp at h, by decide, fun p h => by simp at h, .inl ⟨rfl, one_text⟩⟩
theorem st2 : ST sum3 2 ⟨#[109, 101, 97, 110, 40, 118, 41]⟩ :=
  .mk 2 _ [] [] (by decide) (by decide) 40 kids2 rfl (fun j p t h => by simp at h) ⟨fun t h => by simp at h, by decide, fun p h => by simp at h, .inr (.inl ⟨rfl, 40, ⟨#[118]⟩, ⟨#[109, 101, 97, 110]⟩, quote_v, mean_text, by decide, by decide, by kernel_rfl⟩)⟩
theorem st0 : ST sum3 0 ⟨#[49, 32, 43, 32, 109, 101, 97, 110, 40, 118, 41]⟩ :=
  .mk 0 _ [1, 2] [⟨#[49]⟩, ⟨#[109, 101, 97, 110, 40, 118, 41]⟩] (by decide) (by decide) 40 kids0 rfl
    (fun j p t h1 h2 => by
      match j with
      | 0 => obtain rfl := Option.some.inj h1; obtain rfl := Option.some.inj h2; exact st1
      | 1 => obtain rfl := Option.some.inj h1; obtain rfl := Option.some.inj h2; exact st2
      | j + 2 => simp at h1)
    ⟨fun t h => by simp at h; rcases h with rfl | rfl <;> decide, by decide, fun p h => by simp at h; rcases h with rfl | rfl <;> decide, .inr (.inr (.inr ⟨by decide, 1, 2, _, _, ⟨#[43]⟩, rfl, rfl, plus_text, by decide, by kernel_rfl⟩))⟩
set_option maxHeartbeats 2000000 in
set_option maxRecDepth 100000 in
theorem live_calls (w : World) (hG : Globs w) : Calls Tryz.prog 12 #[] w fun e w' => e = .returned (.bool true) ∧ Below w.heap.size w w' := by
  have hb0 : Below w.heap.size w (w.alloc (.cells cells3 56)) := below_alloc (Below.refl _ _) _
  have hC := sum3_lies w
  have hP := print_sum (some ⟨w.heap.size, 0, none⟩) 3 sum3 none ⟨#[49, 32, 43, 32, 109, 101, 97, 110, 40, 118, 41]⟩ _ (ast_Sum.calls 40 _ 3 sum3 none _ hC (by decide) (hG.below hb0) sum3_right)
    (fun _ W hW => sum_any (some ⟨w.heap.size, 0, none⟩) 3 sum3 (by decide) W (Kd.C_below hC hW) (hG.below (below_then hb0 hb0.size hW)) 0 _ st0 W (Below.refl _ _))
  have HP := Aside0.mk hP
  have HB := Aside0.mk hb0
  have HS := Aside0.mk (fun (W : World) (hb : Below w.heap.size w W) => ast_Sum.calls 40 none 0 [] (some 130) W (Kd.C_nil _ _) (by decide) (hG.below hb) nil_wrong)
  have HI := Aside0.mk (fun (W : World) (hb : Below w.heap.size w W) => weirboth_Is.calls (some 130) 130 true W (hG.below hb) rfl)
  rw [errW_none, show textOf none ⟨#[49, 32, 43, 32, 109, 101, 97, 110, 40, 118, 41]⟩ = ⟨#[49, 32, 43, 32, 109, 101, 97, 110, 40, 118, 41]⟩ from rfl] at HP
  rw [errW_some] at HS HI
  unfold cells3 at HP HB
  clear hP hb0 hC hG
  go_enter Tryz.func12, Tryz.ntmps12
  go_wp2_with (first
    | (go_at_call 8; refine HP.out.mono ?_; rintro e w1 ⟨rfl, hb⟩; have HB1 := Aside0.mk (below_then HB.out HB.out.size hb); clear hb)
    | (go_at_call 14; refine (HS.out _ HB1.out).mono ?_; rintro e w2 ⟨rfl, hb⟩; have HB2 := Aside0.mk (below_then HB1.out HB1.out.size hb); clear hb)
    | (go_at_call 30; refine (HI.out _ HB2.out).mono ?_; rintro e w3 ⟨rfl, hb⟩; have HB3 := Aside0.mk (below_then HB2.out HB2.out.size hb); clear hb))
  go_ret
  exact ⟨rfl, HB3.out⟩
end Go.Proofs.YtlbjfomcgbiagaaGreatDoor.Live13
