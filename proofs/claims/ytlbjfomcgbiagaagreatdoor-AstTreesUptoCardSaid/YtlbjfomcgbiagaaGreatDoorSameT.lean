/- weirboth.Same of an error's number by itself, and of none. -/
import Derived.Test.YtlbjfomcgbiagaaGreatDoorCondT
import Derived.Test.YtlbjfomcgbiagaaGreatDoorAsMiss
set_option linter.unusedVariables false
set_option linter.unusedSimpArgs false
namespace Go.Proofs.YtlbjfomcgbiagaaGreatDoor.SameT
open Go Go.RowKit Go.Proofs.YtlbjfomcgbiagaaGreatDoorW.PrintWords Go.Proofs.YtlbjfomcgbiagaaGreatDoorW.PrintLast Go.Proofs Go.Proofs.YtlbjfomcgbiagaaGreatDoor Go.Proofs.YtlbjfomcgbiagaaGreatDoor.Base Go.Proofs.YtlbjfomcgbiagaaGreatDoorW.PrintMore Go.Proofs.YtlbjfomcgbiagaaGreatDoor.CondT

def r10.T : Bool × List (List Nat × List Nat) := (true, [([], []), ([], []), ([0, 1], [0, 1]), ([], []), ([3], [3]), ([2, 4], [2, 4]), ([5, 2], [5]), ([6], [6]), ([6], [6]), ([7, 8, 6, 6], [6, 7, 8]), ([6], [6]), ([10, 6], [6, 10]), ([9, 11, 6], [6, 9, 11]), ([6, 12], [6, 12])])
def r10.B : List Nat := [0, 0, 3, 0, 8, 31, 63, 127, 127, 511, 127, 1151, 4095, 8191]
theorem r10.tab : rtab .any (opsOf Tryz.f13 10) = r10.T := by kernel_rfl
theorem r10.bits : waitsOk r10.T.2 r10.B = true := by kernel_rfl
/-- The document's error of a number. -/
def badV (c : Int) : Value := .agg #[.int .i64 c, .int .i64 0, .int .i64 0, .bool false, .bool false]
set_option maxHeartbeats 2000000 in
set_option maxRecDepth 100000 in
theorem same_none (w : World) : Calls Tryz.prog 13 #[.nilIface, badV 0] w fun e w' => e = .returned (.bool true) ∧ Below w.heap.size w w' := by
  unfold badV
  go_enter Tryz.func13, Tryz.ntmps13
  go_wp2
  go_ret
  exact ⟨rfl, below_alloc (Below.refl _ _) _⟩
theorem four (w : World) (c : Int) : ∃ W4 : World, W4 = (((w.alloc (.cells #[.int .i64 c, .int .i64 0, .int .i64 0, .bool false, .bool false] 30)).alloc (.cells #[.int .i64 0] 28)).alloc (.cells #[.int .i64 0, .nilIface] 60)).alloc (.cells #[.int .i64 0, .nilIface] 62) ∧ W4.heap.size = w.heap.size + 4 ∧ Below w.heap.size w W4 ∧
    W4.cell? ⟨w.heap.size, 0, none⟩ = some (.int .i64 c) ∧ W4.cell? ⟨w.heap.size, 3, none⟩ = some (.bool false) ∧ W4.cell? ⟨w.heap.size, 4, none⟩ = some (.bool false) ∧ W4.cell? ⟨w.heap.size + 1, 0, none⟩ = some (.int .i64 0) ∧ W4.frozen? ⟨w.heap.size + 1, 0, none⟩ = false := by
  refine ⟨_, rfl, by simp, below_alloc (below_alloc (below_alloc (below_alloc (Below.refl _ _) _) _) _) _, ?_⟩
  have h1 := Rep.alloc_new w (.cells #[.int .i64 c, .int .i64 0, .int .i64 0, .bool false, .bool false] 30)
  obtain ⟨A, hA⟩ : ∃ A, A = w.alloc (.cells #[.int .i64 c, .int .i64 0, .int .i64 0, .bool false, .bool false] 30) := ⟨_, rfl⟩
  have hs : A.heap.size = w.heap.size + 1 := by rw [hA]; simp
  rw [← hA] at h1 ⊢
  have h2 := Rep.alloc_new A (.cells #[.int .i64 0] 28)
  rw [hs] at h2
  have hb1 : Below A.heap.size A (((A.alloc (.cells #[.int .i64 0] 28)).alloc (.cells #[.int .i64 0, .nilIface] 60)).alloc (.cells #[.int .i64 0, .nilIface] 62)) := below_alloc (below_alloc (below_alloc (Below.refl _ _) _) _) _
  have hb2 : Below (A.alloc (.cells #[.int .i64 0] 28)).heap.size (A.alloc (.cells #[.int .i64 0] 28)) (((A.alloc (.cells #[.int .i64 0] 28)).alloc (.cells #[.int .i64 0, .nilIface] 60)).alloc (.cells #[.int .i64 0, .nilIface] 62)) := below_alloc (below_alloc (Below.refl _ _) _) _
  have g1 := (hb1.block w.heap.size (by omega)).trans h1
  have g2 := (hb2.block (w.heap.size + 1) (by simp; omega)).trans h2
  exact ⟨cell_of g1 0, cell_of g1 3, cell_of g1 4, cell_of g2 0, Lib.frozen_of_heap g2 0⟩
set_option maxHeartbeats 4000000 in
set_option maxRecDepth 100000 in
theorem same_bad (c : Int) (hc : (c == 0) = false) (w : World) (hG : Globs w) :
    Calls Tryz.prog 13 #[.iface 28 (.int .i64 c), badV c] w fun e w' => e = .returned (.bool true) ∧ Below w.heap.size w w' := by
  obtain ⟨W4, hW4, hs4, hb4, k0, k3, k4, ke, kf⟩ := four w c
  have hA := As.as_hit c ⟨w.heap.size + 1, 0, none⟩ (.int .i64 0) W4 (hG.below hb4).err ke kf
  have HGw := Aside0.mk hG
  have HB4 := Aside0.mk hb4
  have hgt : ¬ W4.heap.size ≤ w.heap.size + 1 := by omega
  clear hG hb4
  unfold badV
  go_enter Tryz.func13, Tryz.ntmps13
  go_wp2_with fail
  rw [← hW4]
  refine hA.mono ?_
  rintro e w5 ⟨rfl, w1, hb1, rfl⟩
  clear hA hW4
  have hlt : ∀ {a : Addr} {x : Value}, W4.cell? a = some x → w1.cell? a = some x := fun hx => (hb1.cell (Rep.lt_of_cell? hx)).trans hx
  have hne : ∀ j, (⟨w.heap.size + 1, 0, none⟩ : Addr) ≠ ⟨w.heap.size, j, none⟩ := fun j e => by have := congrArg Addr.block e; simp at this
  have q0 : (w1.setCell ⟨w.heap.size + 1, 0, none⟩ (.int .i64 c)).cell? ⟨w.heap.size, 0, none⟩ = some (.int .i64 c) := (World.cell?_setCell_other _ _ _ _ (hne 0)).trans (hlt k0)
  have q3 : (w1.setCell ⟨w.heap.size + 1, 0, none⟩ (.int .i64 c)).cell? ⟨w.heap.size, 3, none⟩ = some (.bool false) := (World.cell?_setCell_other _ _ _ _ (hne 3)).trans (hlt k3)
  have q4 : (w1.setCell ⟨w.heap.size + 1, 0, none⟩ (.int .i64 c)).cell? ⟨w.heap.size, 4, none⟩ = some (.bool false) := (World.cell?_setCell_other _ _ _ _ (hne 4)).trans (hlt k4)
  have qe : (w1.setCell ⟨w.heap.size + 1, 0, none⟩ (.int .i64 c)).cell? ⟨w.heap.size + 1, 0, none⟩ = some (.int .i64 c) := World.cell?_setCell_same _ _ _ (hlt ke)
  have hb5 : Below w.heap.size w (w1.setCell ⟨w.heap.size + 1, 0, none⟩ (.int .i64 c)) := Below.setCell (below_then HB4.out HB4.out.size hb1) (Nat.le_succ _) _
  have hs5 : w.heap.size + 4 ≤ (w1.setCell ⟨w.heap.size + 1, 0, none⟩ (.int .i64 c)).heap.size := by have := hb1.size; simp; omega
  generalize w1.setCell ⟨w.heap.size + 1, 0, none⟩ (.int .i64 c) = w5 at q0 q3 q4 qe hb5 hs5 ⊢
  have HB5 := Aside0.mk hb5
  have HS5 := Aside0.mk (fun (W : World) (k : Nat) (hb : Below w5.heap.size w5 W) (hk : k < 4) => show w.heap.size + k < W.heap.size by have := hb.size; omega)
  have HG0 := Aside0.mk (fun (W : World) (hb : Below w5.heap.size w5 W) => show Globs W from (Globs.below (w := w) HGw.out (below_then hb5 hb5.size hb)))
  clear hlt hne k0 k3 k4 ke kf hb1 hb5 hs5 HB4 hgt hs4
  go_wp2
  refine start_ (n := 14) (S := fun W => Below w5.heap.size w5 W ∧ W.cell? ⟨w.heap.size, 3, none⟩ = some (.bool false) ∧ W.cell? ⟨w.heap.size, 4, none⟩ = some (.bool false)) (ds := []) #[false, false, false, false, false, false, false, false, false, false, false, false, false, false] (by kernel_rfl) rfl rfl (start3 q3 q4) (fun hHeld => ?_)
  refine with_tabW r10.tab r10.bits (fun HT_ HW_ => ?_)
  refine pP 0 25 ?_
  refine pP 1 26 ?_
  refine pP 3 28 ?_
  refine pT 4 29 ?_
  refine pO 2 27 (fun K hK => ?_)
  refine goes_ Tryz.func31 (by kernel_rfl) rfl #[.iface 28 (.int .i64 c), .iface 65 (.pointer (some ⟨w.heap.size + 1 + 1, 0, none⟩))] (by rfl) rfl rfl (by go_simp) ?_
  refine (As.missAt c ⟨w.heap.size + 1 + 1, 0, none⟩ _ (HG0.out _ hHeld.1).err (HS5.out _ 2 hHeld.1 (by decide))).mono ?_
  rintro e w6 ⟨rfl, hb⟩
  refine ⟨_, rfl, ?_⟩
  refine hK.out _ _ (keep3 hHeld hb) (fun hHeld => ?_)
  clear hK K
  refine norm_ (a' := ?_) ?_ ?_
  rotate_left
  · show Act.put _ (some 27) _ = _
    simp only [Act.put, q1, q2, q3, i64_w, i32_w]
    rfl
  refine pP 5 30 ?_
  refine pP 6 31 ?_
  refine pP 7 32 ?_
  refine pP 8 33 ?_
  refine pP 10 35 ?_
  refine pT 11 36 ?_
  refine pO 9 34 (fun K hK => ?_)
  refine goes_ Tryz.func31 (by kernel_rfl) rfl #[.iface 28 (.int .i64 c), .iface 66 (.pointer (some ⟨w.heap.size + 1 + 1 + 1, 0, none⟩))] (by rfl) rfl rfl (by go_simp) ?_
  refine (As.missIn c ⟨w.heap.size + 1 + 1 + 1, 0, none⟩ _ (HG0.out _ hHeld.1).err (HS5.out _ 3 hHeld.1 (by decide))).mono ?_
  rintro e w6 ⟨rfl, hb⟩
  refine ⟨_, rfl, ?_⟩
  refine hK.out _ _ (keep3 hHeld hb) (fun hHeld => ?_)
  clear hK K
  refine norm_ (a' := ?_) ?_ ?_
  rotate_left
  · show Act.put _ (some 34) _ = _
    simp only [Act.put, q1, q2, q3, i64_w, i32_w]
    rfl
  refine pP 12 37 ?_
  refine pP 13 38 ?_
  refine done_ (done_of HT_.out (by kernel_rfl)) ?_
  go_wp2
  go_ret
  exact ⟨rfl, below_then HB5.out HB5.out.size hHeld.1⟩
end Go.Proofs.YtlbjfomcgbiagaaGreatDoor.SameT
